/- Chapter 25's awake. Printed by genAwkB.py. -/
import Derived.Test.YtkbaaonchdeneaaGreatPc53
set_option maxHeartbeats 8000000
set_option maxRecDepth 100000
namespace Go.Proofs.YtkbaaonchdeneaaGreat.LQ
open Go.RowKit
open Go.Proofs.YtkbaaonchdeneaaGreat.Nm (place)
open Ps
theorem a3o (a b:Int) (w:World):(binOp .neq 52 (.agg #[.int .u64 a,.int .u64 b]) (.agg #[.int .u64 a,.int .u64 b])).run Tryz.prog w=.ok (.bool false) w:=by
 rw [run_neq_struct,run_equalIn_agg _ _ _ _ _ (by kernel_rfl) (by kernel_rfl)];go_simp
theorem a6s (a b:Int) (w:World):(binOp .eql 52 (.agg #[.int .u64 a,.int .u64 b]) (.agg #[.int .u64 a,.int .u64 b])).run Tryz.prog w=.ok (.bool true) w:=by
 rw [run_eql_struct,run_equalIn_agg _ _ _ _ _ (by kernel_rfl) (by kernel_rfl)];go_simp
theorem WG (k:Int) (h0:0<=k) (h1:k<18446744073709551616):Fp k.toNat=.agg #[.int .u64 0,.int .u64 k]:=by
 unfold Fp;rw [Nat.div_eq_of_lt (by omega),Nat.mod_eq_of_lt (by omega),Int.toNat_of_nonneg h0];rfl
theorem a0H {w0 w:World} {tv:Value} {S:GY} {F:List Nat} (h:Held w0 w tv S F) (ht:S.t<999) :
 Calls Tryz.prog 24 #[tv] w λe w'=>∃n:Nat,e=.returned (.tuple #[Fp (GN (Dw S)).toNat,(n:Int)])/\Bj [] w w':=by
 refine (a6n tv F S w h.is h.inv ht (λb hb=>(h.good.CS b hb).1)).mono ?_
 rintro e w' ⟨L,hL,rfl,hu⟩;exact ⟨_,by rw [dW hL.1],hu⟩
theorem a3p {w0 w:World} {tv:Value} {S:GY} {F:List Nat} (h:Held w0 w tv S F) (ht:S.t<999) :
 Calls Tryz.prog 25 #[tv] w λe w'=>∃n:Nat,e=.returned (.tuple #[Fp (IL (Dw S)).toNat,(n:Int)])/\Bj [] w w':=by
 refine (a8b tv F S w h.is h.inv ht (λb hb=>(h.good.CS b hb).1)).mono ?_
 rintro e w' ⟨L,hL,rfl,hu⟩;exact ⟨_,by rw [nG hL.1],hu⟩
theorem XW {w0 w:World} {tv:Value} {S:GY} {F:List Nat} (h:Held w0 w tv S F) (ht:S.t<999) {L:List Bx} (k:Int) (hl:Dw S=L) (hk:GN L=k) (h0:0<=k) (h1:k<18446744073709551616) :
 Calls Tryz.prog 24 #[tv] w λe w'=>∃n:Nat,e=.returned (.tuple #[.agg #[.int .u64 0,.int .u64 k],(n:Int)])/\Bj [] w w':=by
 have:=a0H h ht;rwa [hl,hk,WG k h0 h1] at this
theorem xC {w0 w:World} {tv:Value} {S:GY} {F:List Nat} (h:Held w0 w tv S F) (ht:S.t<999) {L:List Bx} (k:Int) (hl:Dw S=L) (hk:IL L=k) (h0:0<=k) (h1:k<18446744073709551616) :
 Calls Tryz.prog 25 #[tv] w λe w'=>∃n:Nat,e=.returned (.tuple #[.agg #[.int .u64 0,.int .u64 k],(n:Int)])/\Bj [] w w':=by
 have:=a3p h ht;rwa [hl,hk,WG k h0 h1] at this
theorem addLit {w0 w:World} {tv:Value} {S:GY} {F:List Nat} (h:Held w0 w tv S F) (s:Bx) (hs:s.CS/\s.id<4294967296) (ht:S.t<999) (hm:FV S s=true) {L:List Bx} (hl:Dw S=L) (k:Int) (n:Nat) (hf:((2 ^ Bv (setB S.H.cs):Nat):Int)=k) (hn:S.H.cs.length=n) :
 Calls Tryz.prog 21 #[tv,QK s] w λe w'=>e=.returned (.tuple #[k,.bool true])/\∃S' F',Held w0 w' tv S' F'/\Bj F w w'/\Dw S'=L++[s]/\S'.t=S.t+1/\S'.H.cs.length=n+1:=by
 obtain ⟨k1,k2,k3⟩:=WB h.inv h.good hs ht hm;refine (uq tv F S s w h.is h.inv h.good ht hs hm).mono ?_
 rintro e w' ⟨rfl,hst⟩;obtain ⟨F',g1,g2,-⟩:=h.take hst k1 k2;refine ⟨by rw [hf],_,F',g1,g2,by rw [k3,hl],rfl,?_⟩
 show (S.H.cs++[(s,S.H.al.length)]).length=n+1
 rw [Bc,hn];rfl
theorem PN {w w':World} {a1 a2 a3 a4 a5 a6:Addr} {v1 v2 v3 v4 v5 v6:Value} (h:(w.cell? a1=some v1/\w.cell? a2=some v2/\w.cell? a3=some v3/\w.cell? a4=some v4)/\w.cell? a5=some v5/\w.cell? a6=some v6) (hu:Bj [] w w') :
 (w'.cell? a1=some v1/\w'.cell? a2=some v2/\w'.cell? a3=some v3/\w'.cell? a4=some v4)/\w'.cell? a5=some v5/\w'.cell? a6=some v6:=by
 have e:∀{a:Addr} {v:Value},w.cell? a=some v->w'.cell? a=some v:=λ{a v} ha=>(hu.cell (World.block_lt_of_cell? w _ ha) (by simp)).trans ha
 exact ⟨Jg h.1 hu,e h.2.1,e h.2.2⟩
theorem Zr (n:Int) (w:World):Calls Tryz.prog 70 #[.int .u64 n] w λe w'=>e=.returned (.agg #[.int .u64 0,.int .u64 n])/\Bj [] w w':=by
 go_enter Tryz.func70,Tryz.ntmps70
 go_wp2_with fail
 exact bodyPost_ret (v:=.agg #[.int .u64 0,.int .u64 n]) (by simp [results,Tryz.results70,go_sem]) rfl ⟨rfl,(Bj.refl _ _).alloc _⟩
theorem a0I {M0:Nat} (hM0:M0<=1000000) (hso:Tv M0) (h2M:2<M0) (w:World):Calls Tryz.prog 20 #[] w λe w'=>e=.returned (.bool true)/\Bj [] w w':=by
 have lW:=Aq hM0 hso h2M;clear hM0 hso h2M;have n6:∀w,(binOp .neq 52 (.agg #[.int .u64 0,.int .u64 6]) (.agg #[.int .u64 0,.int .u64 6])).run Tryz.prog w=.ok (.bool false) w:=λw=>a3o 0 6 w
 have n10:∀w,(binOp .neq 52 (.agg #[.int .u64 0,.int .u64 10]) (.agg #[.int .u64 0,.int .u64 10])).run Tryz.prog w=.ok (.bool false) w:=λw=>a3o 0 10 w
 have n8:∀w,(binOp .neq 52 (.agg #[.int .u64 0,.int .u64 8]) (.agg #[.int .u64 0,.int .u64 8])).run Tryz.prog w=.ok (.bool false) w:=λw=>a3o 0 8 w
 have m3:∀w,(binOp .eql 52 (.agg #[.int .u64 0,.int .u64 3]) (.agg #[.int .u64 0,.int .u64 3])).run Tryz.prog w=.ok (.bool true) w:=λw=>a6s 0 3 w
 have m8:∀w,(binOp .eql 52 (.agg #[.int .u64 0,.int .u64 8]) (.agg #[.int .u64 0,.int .u64 8])).run Tryz.prog w=.ok (.bool true) w:=λw=>a6s 0 8 w
 go_enter Tryz.func20,Tryz.ntmps20
 go_wp2_with fail
 go_fit (newP w)
 rintro e w1 ⟨tv,F0,rfl,h0,hn0,hu0⟩;obtain ⟨q,hq⟩:∃q,tv=.pointer (some ⟨q,0,none⟩):=by obtain ⟨q,_,_,_,_,_,e,-⟩:=h0;exact ⟨q,e⟩
 subst hq;have H0:=AX (⟨h0,a1t,a1u,hn0,hu0⟩:Held w w1 (.pointer (some q)) P0 F0);clear h0 hn0 hu0
 have hc:Calls Tryz.prog 21 #[.pointer (some q),.agg #[.int .i64 0,.int .i64 2,.int .i64 0,.int .i64 3,.int .u32 1]] w1 λe w'=>e=.returned (.tuple #[.int .i64 1,.bool true])/\∃S' F',Held w w' (.pointer (some q)) S' F'/\Bj F0 w1 w'/\Dw S' = [B1]/\S'.t=1/\S'.H.cs.length=1:=
  addLit H0.out B1 ⟨a6r.1,by decide⟩ (by decide) (jc H0.out.inv (by decide) (by simp [Dw,P0,live,CW])) (L:=[]) rfl 1 0 (by decide) rfl
 have HC:=AX hc;clear hc;go_wp2_with fail
 go_fit HC.out
 rintro e w2 ⟨rfl,S1,F1,h1,-,hl1,ht1,hc1⟩;have H1:=AX h1;have L1:=Aq hl1 ht1 hc1;clear h1 hl1 ht1 hc1 HC H0;have HC:=AX (XW H1.out (Ac L1.2.1) 6 L1.1 a8c (by decide) (by decide));go_wp2_with fail
 go_fit HC.out
 rintro e v3 ⟨e3,rfl,u3⟩;obtain ⟨x3,hx3,y3,q3⟩:=CQ v3 #[.int .u64 0,.int .u64 6] 52;go_upto_region 4 with fail
 rw [<-hx3];have hF3:v3.heap.size∉F1:=λhc=>by have:=(H1.out.quiet u3).is.lt _ hc;omega
 clear hx3 HC;generalize v3.heap.size=pa at q3 hF3 |-;have H3x:=AX ((H1.out.quiet u3).quiet y3);have oG:=AX q3;have Opa:=AX hF3;clear u3 y3 q3 hF3 H1;have HC:=AX (xC H3x.out (Ac L1.2.1) 10 L1.1 a8e (by decide) (by decide));go_wp2_with fail
 go_fit HC.out
 rintro e v4 ⟨e4,rfl,u4⟩;obtain ⟨x4,hx4,y4,q4⟩:=CQ v4 #[.int .u64 0,.int .u64 10] 52;go_upto_region 5 with fail
 rw [<-hx4];have hF4:v4.heap.size∉F1:=λhc=>by have:=(H3x.out.quiet u4).is.lt _ hc;omega
 clear hx4 HC;generalize v4.heap.size=pr at q4 hF4 |-;have a6t:=AX ((oG.out.BF u4).BF y4);have H4x:=AX ((H3x.out.quiet u4).quiet y4);have Qpr:=AX q4;have Opr:=AX hF4;clear u4 y4 q4 hF4 H3x oG;have oG:=a6t;clear a6t
 have hc:Calls Tryz.prog 21 #[.pointer (some q),.agg #[.int .i64 1,.int .i64 4,.int .i64 1,.int .i64 2,.int .u32 2]] x4 λe w'=>e=.returned (.tuple #[.int .i64 2,.bool true])/\∃S' F',Held w w' (.pointer (some q)) S' F'/\Bj F1 x4 w'/\Dw S' = [B1,B2]/\S'.t=S1.t+1/\S'.H.cs.length=2:=
  addLit H4x.out B2 ⟨a6r.2,by decide⟩ (Ac L1.2.1) (jc H4x.out.inv (by decide) (by rw [L1.1];decide)) L1.1 2 1 (by
   rw [a6o S1.H.cs 1 (by
    intro j hj;have:j=0:=by omega
    subst this;rw [L1.2.2];rfl) (by rw [L1.2.2];rfl)]
   rfl) L1.2.2
 have HC:=AX hc;clear hc;go_wp2_with fail
 go_fit HC.out
 rintro e w5 ⟨rfl,S2,F2,h1,hup,hl1,ht1,hc1⟩;have H5x:=AX h1;have QA:=AX (oG.out.upd hup Opa.out);have QR:=AX (Qpr.out.upd hup Opr.out);have L2:=Aq hl1 (show S2.t=2 by have:=L1.2.1;omega) hc1;clear h1 hl1 ht1 hc1 HC H4x L1 oG Qpr Opa Opr hup;have oG:=QA;have Qpr:=QR;clear QA QR;have HC:=AX (XW H5x.out (Ac L2.2.1) 8 L2.1 a6q (by decide) (by decide));go_wp2_with fail
 go_fit HC.out
 rintro e v6 ⟨e6,rfl,u6⟩;obtain ⟨x6,hx6,y6,q6⟩:=CQ v6 #[.int .u64 0,.int .u64 8] 52;go_upto_region 7 with fail
 rw [<-hx6];have hF6:v6.heap.size∉F2:=λhc=>by have:=(H5x.out.quiet u6).is.lt _ hc;omega
 clear hx6 HC;generalize v6.heap.size=pb at q6 hF6 |-;have a6u:=AX ((oG.out.BF u6).BF y6);have a6v:=AX ((Qpr.out.BF u6).BF y6);have H6x:=AX ((H5x.out.quiet u6).quiet y6);have Qpb:=AX q6;have Opb:=AX hF6;clear u6 y6 q6 hF6 H5x oG Qpr;have oG:=a6u;clear a6u;have Qpr:=a6v;clear a6v;clear Opb;have hst:=atP lW.1 lW.2.1 _ F2 S2 2 2 x6 H6x.out.is H6x.out.inv H6x.out.good (Ac L2.2.1) (by rw [L2.1];exact lW.2.2);rw [L2.1,a3n] at hst;have HC:=AX hst;clear hst;go_wp2_with fail
 go_fit HC.out
 rintro e w7 ⟨t7,⟨A7,C7,rfl,r7,u7⟩,-⟩;have H7x:=AX (H6x.out.quiet u7);have R7:=AX (See.BU r7);have U7:=AX u7;clear r7 u7 HC H6x;have hst:=atP lW.1 lW.2.1 _ F2 S2 3 3 w7 H7x.out.is H7x.out.inv H7x.out.good (Ac L2.2.1) (by rw [L2.1];exact lW.2.2);rw [L2.1,a0G] at hst;have HC:=AX hst;clear hst;go_wp2_with fail
 go_fit HC.out
 rintro e w8 ⟨t8,⟨A8,C8,rfl,-,u8⟩,-⟩;have H8x:=AX (H7x.out.quiet u8);have R8:=AX (R7.out.BF u8);have U8:=AX (U7.out.trans u8);clear u8 HC H7x R7 U7 lW;go_upto_region 9 with fail
 have HQ:=AX (λ(W:World) (hu:Bj [] w8 W)=>(show Calls Tryz.prog 49 #[.slice A7 2 C7,.slice (some ⟨W.heap.size,0,none⟩) 2 2] (W.alloc (.cells #[.int .u32 1,.int .u32 2] 26)) (λe w'=>e=.returned (.bool true)/\Bj [] (W.alloc (.cells #[.int .u32 1,.int .u32 2] 26)) w') from
  zy (.slice A7 2 C7) (.slice (some ⟨W.heap.size,0,none⟩) 2 2) [1,2] [1,2] (W.alloc (.cells #[.int .u32 1,.int .u32 2] 26)) ((R8.out.BF hu).BF ((Bj.refl [] W).alloc _)) (show D5 (W.alloc (.cells #[.int .u32 1,.int .u32 2] 26)) 1 (.slice (some ⟨W.heap.size,0,none⟩) 2 2) 2 _ from BK W #[.int .u32 1,.int .u32 2] 26 1 2 rfl (by decide)) (by decide) (by decide)))
 obtain ⟨Wd,hWd⟩:∃Wd,Wd=w8.drew:=⟨_,rfl⟩;have VG:=AX (show Bj [] w8 Wd by rw [hWd];exact (Bj.refl _ _).drew)
 have HS:(Wd.cell? pa=some (.int .u64 0)/\Wd.cell? ⟨pa,1,none⟩=some (.int .u64 6)/\Wd.cell? pr=some (.int .u64 0)/\Wd.cell? ⟨pr,1,none⟩=some (.int .u64 10))/\Wd.cell? pb=some (.int .u64 0)/\Wd.cell? ⟨pb,1,none⟩=some (.int .u64 8):=by
  have u9:=U8.out.trans VG.out;exact ⟨⟨(oG.out.BF u9).cell 0,(oG.out.BF u9).cell 1,(Qpr.out.BF u9).cell 0,(Qpr.out.BF u9).cell 1⟩,(Qpb.out.BF u9).cell 0,(Qpb.out.BF u9).cell 1⟩
 have HS:=AX HS;clear oG Qpr Qpb U8 R8;refine Bo.start [] (λw'=>(w'.cell? pa=some (.int .u64 0)/\w'.cell? ⟨pa,1,none⟩=some (.int .u64 6)/\w'.cell? pr=some (.int .u64 0)/\w'.cell? ⟨pr,1,none⟩=some (.int .u64 10))/\w'.cell? pb=some (.int .u64 0)/\w'.cell? ⟨pb,1,none⟩=some (.int .u64 8)) (by kernel_rfl) ?_ λhS=>?_
 ·exact by rw [<-hWd];exact HS.out
 rw [<-hWd] at hS |-;clear hWd;refine' Bo.mx 0 62 ?_
 refine' Bo.mx 1 63 ?_
 refine' Bo.mx 2 64 ?_
 refine' Bo.mx 3 65 ?_
 refine' Bo.mx 4 66 ?_
 refine' Bo.mx 5 67 ?_
 refine' Bo.mx 6 68 ?_
 refine' Bo.ty 1 7 69 ?_
 refine Bo.one (i:=8) (o:=⟨some 70,_,_,_,_,_⟩) rfl (by kernel_rfl) λK hK=>?_
 go_simp
 go_at_call 70
 go_fit (Zr 6 _)
 rintro e w21 ⟨rfl,hu21⟩;refine hK.out _ _ (λ_ h=>?_) ?_
 ·exact PN h hu21
 clear hK K;try simp only [Act.put,sA,sZ,sS]
 have a3q:=AX (VG.out.trans (hu21));have xE:=AX (PN HS.out (hu21));clear hu21;have hSS:=xE.out;refine' Bo.mx 9 71 ?_
 refine' Bo.mx 10 72 ?_
 refine' Bo.mx 11 73 ?_
 refine' Bo.ty 1 12 74 ?_
 refine Bo.one (i:=13) (o:=⟨some 75,_,_,_,_,_⟩) rfl (by kernel_rfl) λK hK=>?_
 go_simp
 go_at_call 70
 go_fit (Zr 10 _)
 rintro e w22 ⟨rfl,XY⟩;refine hK.out _ _ (λ_ h=>?_) ?_
 ·exact PN h XY
 clear hK K;try simp only [Act.put,sA,sZ,sS]
 have a3r:=AX (a3q.out.trans (XY));have a0J:=AX (PN xE.out (XY));clear XY;have hSS:=a0J.out;refine' Bo.mx 14 76 ?_
 refine' Bo.mx 15 77 ?_
 refine' Bo.mx 16 78 ?_
 refine' Bo.mx 17 79 ?_
 refine' Bo.mx 18 80 ?_
 refine' Bo.mx 19 81 ?_
 refine' Bo.mx 20 82 ?_
 refine' Bo.mx 21 83 ?_
 refine' Bo.mx 22 84 ?_
 refine' Bo.mx 23 85 ?_
 refine' Bo.mx 24 86 ?_
 refine' Bo.ty 1 25 87 ?_
 refine Bo.one (i:=26) (o:=⟨some 88,_,_,_,_,_⟩) rfl (by kernel_rfl) λK hK=>?_
 go_simp
 go_at_call 70
 go_fit (Zr 8 _)
 rintro e w23 ⟨rfl,a0K⟩;refine hK.out _ _ (λ_ h=>?_) ?_
 ·exact PN h a0K
 clear hK K;try simp only [Act.put,sA,sZ,sS]
 have a6w:=AX (a3r.out.trans (a0K));have a6x:=AX (PN a0J.out (a0K));clear a0K;have hSS:=a6x.out;refine' Bo.mx 27 89 ?_
 refine' Bo.mx 28 90 ?_
 refine' Bo.mx 29 91 ?_
 refine' Bo.mx 30 92 ?_
 refine Bo.one (i:=31) (o:=⟨some 93,_,_,_,_,_⟩) rfl (by kernel_rfl) λK hK=>?_
 go_simp
 refine hK.out _ _ (λ_ h=>?_) ?_
 ·exact PN h ((Bj.refl _ _).alloc _)
 clear hK K;try simp only [Act.put,sA,sZ,sS]
 refine Bo.one (i:=32) (o:=⟨some 94,_,_,_,_,_⟩) rfl (by kernel_rfl) λK hK=>?_
 go_simp
 go_at_call 49
 go_fit (HQ.out _ a6w.out)
 rintro e w24 ⟨rfl,a0L⟩;refine hK.out _ _ (λ_ h=>?_) ?_
 ·exact PN h a0L
 clear hK K;try simp only [Act.put,sA,sZ,sS]
 have a6y:=AX (a6w.out.trans (((Bj.refl _ _).alloc _).trans a0L));have a8g:=AX (PN a6x.out (((Bj.refl _ _).alloc _).trans a0L));clear a0L;have hSS:=a8g.out;refine' Bo.mx 33 95 ?_
 refine' Bo.mx 34 96 ?_
 refine' Bo.mx 35 97 ?_
 refine' Bo.mx 36 98 ?_
 refine' Bo.mx 37 99 ?_
 refine' Bo.mx 38 100 ?_
 refine' Bo.mx 39 101 ?_
 refine Bo.done (by kernel_rfl) ?_
 have xG:=AX (H8x.out.quiet a6y.out);clear H8x HQ a6y hSS;have hmem:B1∈Dw S2:=by rw [L2.1];decide
 have hget:get S2 1=some B1:=(xG.out.inv.get 1 _).2 ⟨hmem,rfl⟩;obtain ⟨kk,hkk⟩:=iD xG.out.inv.half hmem;have hdk:=U1 xG.out.inv xG.out.good hget hkk (Ac L2.2.1);have hdr:Calls Tryz.prog 22 #[.pointer (some q),.int .u32 1] w24 (Xz w24 (.pointer (some q)) F2 S2 1 B1 kk):=Sj _ F2 S2 1 kk B1 w24 xG.out.is xG.out.inv xG.out.good (Ac L2.2.1) hget hkk
 have hn0:Fv.Q9 S2.H B1=0:=by
  unfold Fv.Q9;have h1:=I5 xG.out.inv.half.keys B1;have h2:=iE xG.out.inv;rw [L2.1] at h2;rw [hkk] at h1;have h3:[B1,B2].length=2:=rfl;rw [if_neg (by have:=L2.2.2;simp at h1;omega)]
 unfold Xz at hdr;rw [hn0] at hdr;have HDR:=AX hdr;have HDK:=AX hdk;clear hdr hdk hn0 hkk hget hmem;go_wp2_with fail
 go_fit HDR.out
 rintro e w13 ⟨rfl,a0z⟩;obtain ⟨F9,h9,-⟩:=xG.out.step a0z HDK.1 HDK.2.1;have H13:=AX h9;clear h9 a0z;have hl9:Dw (Pn S2 1 B1 kk) = [B2]:=by rw [HDK.2.2,L2.1];decide
 have ht9:(Pn S2 1 B1 kk).t=3:=by show S2.t+1=3;rw [L2.2.1]
 have L3:=Aq hl9 ht9 trivial;clear hl9 ht9 HDR HDK xG;generalize Pn S2 1 B1 kk=S3 at H13 L3;have HC:=AX (XW H13.out (Ac L3.2.1) 3 L3.1 a8d (by decide) (by decide));go_wp2_with fail
 go_fit HC.out
 rintro e v14 ⟨e14,rfl,u14⟩;obtain ⟨x14,a6z,y14,q14⟩:=CQ v14 #[.int .u64 0,.int .u64 3] 52;go_upto_region 13 with fail
 rw [<-a6z];have a3s:v14.heap.size∉F9:=λhc=>by have:=(H13.out.quiet u14).is.lt _ hc;omega
 clear a6z HC;generalize v14.heap.size=pc at q14 a3s |-;have a0M:=AX ((H13.out.quiet u14).quiet y14);have Qpc:=AX q14;have Opc:=AX a3s;clear u14 y14 q14 a3s H13;have HC:=AX (xC a0M.out (Ac L3.2.1) 8 L3.1 a8f (by decide) (by decide));go_wp2_with fail
 go_fit HC.out
 rintro e v15 ⟨e15,rfl,u15⟩;obtain ⟨x15,a6A,y15,q15⟩:=CQ v15 #[.int .u64 0,.int .u64 8] 52;go_upto_region 14 with fail
 rw [<-a6A];have a3t:v15.heap.size∉F9:=λhc=>by have:=(a0M.out.quiet u15).is.lt _ hc;omega
 clear a6A HC;generalize v15.heap.size=ps at q15 a3t |-;have a1v:=AX ((Qpc.out.BF u15).BF y15);have xH:=AX ((a0M.out.quiet u15).quiet y15);have Qps:=AX q15;have Ops:=AX a3t;clear u15 y15 q15 a3t a0M Qpc;have Qpc:=a1v;clear a1v;clear Opc Ops;have hno:Calls Tryz.prog 21 #[.pointer (some q),.agg #[.int .i64 0,.int .i64 0,.int .i64 0,.int .i64 0,.int .u32 2]] x15 λe w'=>e=.returned (.tuple #[.int .i64 0,.bool false])/\Bj [] x15 w':=addNot _ F9 _ ⟨0,0,0,0,2⟩ x15 xH.out.is xH.out.inv (by rw [L3.2.1];decide) (a3j xH.out.inv (.inr ⟨B2,by rw [L3.1];decide,rfl⟩))
 have nX:=AX hno;clear hno;go_wp2_with fail
 go_fit nX.out
 rintro e w16 ⟨rfl,u16⟩;have H16:=AX (xH.out.quiet u16);have QC:=AX (Qpc.out.BF u16);have QS:=AX (Qps.out.BF u16);clear u16 xH Qpc Qps nX;go_upto_region 15 with fail
 obtain ⟨Wd,hWd⟩:∃Wd,Wd=w16.drew:=⟨_,rfl⟩;have VG:=AX (show Bj [] w16 Wd by rw [hWd];exact (Bj.refl _ _).drew)
 have HS:Wd.cell? pc=some (.int .u64 0)/\Wd.cell? ⟨pc,1,none⟩=some (.int .u64 3)/\Wd.cell? ps=some (.int .u64 0)/\Wd.cell? ⟨ps,1,none⟩=some (.int .u64 8):=
  ⟨(QC.out.BF VG.out).cell 0,(QC.out.BF VG.out).cell 1,(QS.out.BF VG.out).cell 0,(QS.out.BF VG.out).cell 1⟩
 have HS:=AX HS;clear QC QS;refine Bo.start [] (λw'=>w'.cell? pc=some (.int .u64 0)/\w'.cell? ⟨pc,1,none⟩=some (.int .u64 3)/\w'.cell? ps=some (.int .u64 0)/\w'.cell? ⟨ps,1,none⟩=some (.int .u64 8)) (by kernel_rfl) ?_ λhS=>?_
 ·exact by rw [<-hWd];exact HS.out
 rw [<-hWd] at hS |-;clear hWd;refine' Bo.mx 0 123 ?_
 refine' Bo.mx 1 124 ?_
 refine' Bo.mx 2 125 ?_
 refine' Bo.mx 3 126 ?_
 refine' Bo.mx 4 127 ?_
 refine' Bo.mx 5 128 ?_
 refine' Bo.ty 1 6 129 ?_
 refine Bo.one (i:=7) (o:=⟨some 130,_,_,_,_,_⟩) rfl (by kernel_rfl) λK hK=>?_
 go_simp
 go_at_call 70
 go_fit (Zr 3 _)
 rintro e w21 ⟨rfl,hu21⟩;refine hK.out _ _ (λ_ h=>?_) ?_
 ·exact Jg h hu21
 clear hK K;try simp only [Act.put,sA,sZ,sS]
 have a3q:=AX (VG.out.trans (hu21));have xE:=AX (Jg HS.out (hu21));clear hu21;have hSS:=xE.out;refine' Bo.mx 8 131 ?_
 refine' Bo.mx 9 132 ?_
 refine' Bo.mx 10 133 ?_
 refine' Bo.ty 1 11 134 ?_
 refine Bo.one (i:=12) (o:=⟨some 135,_,_,_,_,_⟩) rfl (by kernel_rfl) λK hK=>?_
 go_simp
 go_at_call 70
 go_fit (Zr 8 _)
 rintro e w22 ⟨rfl,XY⟩;refine hK.out _ _ (λ_ h=>?_) ?_
 ·exact Jg h XY
 clear hK K;try simp only [Act.put,sA,sZ,sS]
 have a3r:=AX (a3q.out.trans (XY));have a0J:=AX (Jg xE.out (XY));clear XY;have hSS:=a0J.out;refine' Bo.mx 13 136 ?_
 refine' Bo.mx 14 137 ?_
 refine' Bo.mx 15 138 ?_
 refine' Bo.mx 16 139 ?_
 refine' Bo.mx 17 140 ?_
 refine' Bo.mx 18 141 ?_
 refine' Bo.mw 19 (oi:=⟨some 0,_,_,_,_,_⟩) ?_
 simp only [Act.put,List.setIfInBounds_toArray,List.set_cons_zero];refine Bo.done (by kernel_rfl) ?_
 go_wp2_with fail
 go_ret
 exact ⟨rfl,(H16.out.quiet a3r.out).upd⟩
