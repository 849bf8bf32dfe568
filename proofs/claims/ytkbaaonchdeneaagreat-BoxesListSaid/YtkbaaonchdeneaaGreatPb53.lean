/- Chapter 25's awake. Printed by genAwkB.py. -/
import Derived.Test.YtkbaaonchdeneaaGreatPbBoxesCoverP5
set_option maxHeartbeats 8000000
set_option maxRecDepth 100000
namespace Go.Proofs.YtkbaaonchdeneaaGreat.GN
open Go.RowKit
open Go.Proofs.YtkbaaonchdeneaaGreat.Nm (place)
open Go.Proofs.YtkbaaonchdeneaaGreat.Ps
theorem sK (a b:Int) (w:World):(binOp .neq 52 (.agg #[.int .u64 a,.int .u64 b]) (.agg #[.int .u64 a,.int .u64 b])).run Tryz.prog w=.ok (.bool false) w:=by
 rw [run_neq_struct,run_equalIn_agg _ _ _ _ _ (by kernel_rfl) (by kernel_rfl)];go_simp
theorem sN (a b:Int) (w:World):(binOp .eql 52 (.agg #[.int .u64 a,.int .u64 b]) (.agg #[.int .u64 a,.int .u64 b])).run Tryz.prog w=.ok (.bool true) w:=by
 rw [run_eql_struct,run_equalIn_agg _ _ _ _ _ (by kernel_rfl) (by kernel_rfl)];go_simp
theorem Zi (k:Int) (h0:0≤k) (h1:k<18446744073709551616):ED k.toNat=.agg #[.int .u64 0,.int .u64 k]:=by
 unfold ED;rw [Nat.div_eq_of_lt (by omega),Nat.mod_eq_of_lt (by omega),Int.toNat_of_nonneg h0];rfl
theorem Wu {w0 w:World} {tv:Value} {S:Ec} {F:List Nat} (h:Held w0 w tv S F) (ht:S.t<999) :
 Calls Tryz.prog 24 #[tv] w fun e w'=>∃n:Nat,e=.returned (.tuple #[ED (BZ (Cj S)).toNat,.int .i64 (n:Int)])∧Bf [] w w':=by
 refine (zM tv F S w h.is h.inv ht (fun b hb=>(h.good.BO b hb).1)).mono ?_
 rintro e w' ⟨L,hL,rfl,hu⟩;exact ⟨_,by rw [OI hL.1],hu⟩
theorem aJ {w0 w:World} {tv:Value} {S:Ec} {F:List Nat} (h:Held w0 w tv S F) (ht:S.t<999) :
 Calls Tryz.prog 25 #[tv] w fun e w'=>∃n:Nat,e=.returned (.tuple #[ED (DU (Cj S)).toNat,.int .i64 (n:Int)])∧Bf [] w w':=by
 refine (a5r tv F S w h.is h.inv ht (fun b hb=>(h.good.BO b hb).1)).mono ?_
 rintro e w' ⟨L,hL,rfl,hu⟩;exact ⟨_,by rw [QX hL.1],hu⟩
theorem aK {w0 w:World} {tv:Value} {S:Ec} {F:List Nat} (h:Held w0 w tv S F) (ht:S.t<999) {L:List Bx} (k:Int) (hl:Cj S=L) (hk:BZ L=k) (h0:0≤k) (h1:k<18446744073709551616) :
 Calls Tryz.prog 24 #[tv] w fun e w'=>∃n:Nat,e=.returned (.tuple #[.agg #[.int .u64 0,.int .u64 k],.int .i64 (n:Int)])∧Bf [] w w':=by
 have:=Wu h ht;rwa [hl,hk,Zi k h0 h1] at this
theorem zQ {w0 w:World} {tv:Value} {S:Ec} {F:List Nat} (h:Held w0 w tv S F) (ht:S.t<999) {L:List Bx} (k:Int) (hl:Cj S=L) (hk:DU L=k) (h0:0≤k) (h1:k<18446744073709551616) :
 Calls Tryz.prog 25 #[tv] w fun e w'=>∃n:Nat,e=.returned (.tuple #[.agg #[.int .u64 0,.int .u64 k],.int .i64 (n:Int)])∧Bf [] w w':=by
 have:=aJ h ht;rwa [hl,hk,Zi k h0 h1] at this
theorem addLit {w0 w:World} {tv:Value} {S:Ec} {F:List Nat} (h:Held w0 w tv S F) (s:Bx) (hs:s.BO∧s.id<4294967296) (ht:S.t<999) (hm:CY S s=true) {L:List Bx} (hl:Cj S=L) (k:Int) (n:Nat) (hf:((2 ^ Bl (setB S.H.cs):Nat):Int)=k) (hn:S.H.cs.length=n) :
 Calls Tryz.prog 21 #[tv,L8 s] w fun e w'=>e=.returned (.tuple #[.int .i64 k,.bool true])∧∃S' F',Held w0 w' tv S' F'∧Bf F w w'∧Cj S'=L++[s]∧S'.t=S.t+1∧S'.H.cs.length=n+1:=by
 obtain ⟨k1,k2,k3⟩:=KE h.inv h.good hs ht hm;refine (ZY tv F S s w h.is h.inv h.good ht hs hm).mono ?_
 rintro e w' ⟨rfl,hst⟩;obtain ⟨F',g1,g2,-⟩:=h.take hst k1 k2;refine ⟨by rw [hf],_,F',g1,g2,by rw [k3,hl],rfl,?_⟩
 show (S.H.cs++[(s,S.H.al.length)]).length=n+1
 rw [AY,hn];rfl
theorem Ul {w w':World} {a1 a2 a3 a4 a5 a6:Addr} {v1 v2 v3 v4 v5 v6:Value} (h:(w.cell? a1=some v1∧w.cell? a2=some v2∧w.cell? a3=some v3∧w.cell? a4=some v4)∧w.cell? a5=some v5∧w.cell? a6=some v6) (hu:Bf [] w w') :
 (w'.cell? a1=some v1∧w'.cell? a2=some v2∧w'.cell? a3=some v3∧w'.cell? a4=some v4)∧w'.cell? a5=some v5∧w'.cell? a6=some v6:=by
 have e:∀{a:Addr} {v:Value},w.cell? a=some v→w'.cell? a=some v:=fun {a v} ha=>(hu.cell (World.block_lt_of_cell? w _ ha) (by simp)).trans ha
 exact ⟨MF h.1 hu,e h.2.1,e h.2.2⟩
theorem gK (n:Int) (w:World):Calls Tryz.prog 70 #[.int .u64 n] w fun e w'=>e=.returned (.agg #[.int .u64 0,.int .u64 n])∧Bf [] w w':=by
 go_enter Tryz.func70,Tryz.ntmps70
 go_wp2_with fail
 exact bodyPost_ret (v:=.agg #[.int .u64 0,.int .u64 n]) (by simp [results,Tryz.results70,go_sem]) rfl ⟨rfl,(Bf.refl _ _).alloc _⟩
theorem aN {M0:Nat} (hM0:M0≤1000000) (hso:WW M0) (h2M:2<M0) (w:World):Calls Tryz.prog 20 #[] w fun e w'=>e=.returned (.bool true)∧Bf [] w w':=by
 have rW:=Aj hM0 hso h2M;clear hM0 hso h2M;have n6:∀w,(binOp .neq 52 (.agg #[.int .u64 0,.int .u64 6]) (.agg #[.int .u64 0,.int .u64 6])).run Tryz.prog w=.ok (.bool false) w:=fun w=>sK 0 6 w
 have n10:∀w,(binOp .neq 52 (.agg #[.int .u64 0,.int .u64 10]) (.agg #[.int .u64 0,.int .u64 10])).run Tryz.prog w=.ok (.bool false) w:=fun w=>sK 0 10 w
 have n8:∀w,(binOp .neq 52 (.agg #[.int .u64 0,.int .u64 8]) (.agg #[.int .u64 0,.int .u64 8])).run Tryz.prog w=.ok (.bool false) w:=fun w=>sK 0 8 w
 have m3:∀w,(binOp .eql 52 (.agg #[.int .u64 0,.int .u64 3]) (.agg #[.int .u64 0,.int .u64 3])).run Tryz.prog w=.ok (.bool true) w:=fun w=>sN 0 3 w
 have m8:∀w,(binOp .eql 52 (.agg #[.int .u64 0,.int .u64 8]) (.agg #[.int .u64 0,.int .u64 8])).run Tryz.prog w=.ok (.bool true) w:=fun w=>sN 0 8 w
 go_enter Tryz.func20,Tryz.ntmps20
 go_wp2_with fail
 (with_reducible refine (newP w).mono ?_);rintro e w1 ⟨tv,F0,rfl,h0,hn0,hu0⟩;obtain ⟨q,hq⟩:∃q,tv=.pointer (some ⟨q,0,none⟩):=by obtain ⟨q,_,_,_,_,_,e,-⟩:=h0;exact ⟨q,e⟩
 subst hq;have H0:=AQ (⟨h0,gI,gJ,hn0,hu0⟩:Held w w1 (.pointer (some ⟨q,0,none⟩)) P0 F0);clear h0 hn0 hu0
 have hc:Calls Tryz.prog 21 #[.pointer (some ⟨q,0,none⟩),.agg #[.int .i64 0,.int .i64 2,.int .i64 0,.int .i64 3,.int .u32 1]] w1 fun e w'=>e=.returned (.tuple #[.int .i64 1,.bool true])∧∃S' F',Held w w' (.pointer (some ⟨q,0,none⟩)) S' F'∧Bf F0 w1 w'∧Cj S' = [B1]∧S'.t=1∧S'.H.cs.length=1:=
  addLit H0.out B1 ⟨a1E.1,by decide⟩ (by decide) (Ws H0.out.inv (by decide) (by simp [Cj,P0,live,CZ])) (L:=[]) rfl 1 0 (by decide) rfl
 have HC:=AQ hc;clear hc;go_wp2_with fail
 (with_reducible refine HC.out.mono ?_);rintro e w2 ⟨rfl,S1,F1,h1,-,hl1,ht1,hc1⟩;have H1:=AQ h1;have L1:=Aj hl1 ht1 hc1;clear h1 hl1 ht1 hc1 HC H0;have HC:=AQ (aK H1.out (Ac L1.2.1) 6 L1.1 a5s (by decide) (by decide));go_wp2_with fail
 (with_reducible refine HC.out.mono ?_);rintro e v3 ⟨e3,rfl,u3⟩;obtain ⟨x3,hx3,y3,q3⟩:=BJ v3 #[.int .u64 0,.int .u64 6] 52;go_upto_region 4 with fail
 rw [←hx3];have hF3:v3.heap.size∉F1:=fun hc=>by have:=(H1.out.quiet u3).is.lt _ hc;omega
 clear hx3 HC;generalize v3.heap.size=pa at q3 hF3 ⊢;have H3x:=AQ ((H1.out.quiet u3).quiet y3);have Gg:=AQ q3;have Il:=AQ hF3;clear u3 y3 q3 hF3 H1;have HC:=AQ (zQ H3x.out (Ac L1.2.1) 10 L1.1 a5u (by decide) (by decide));go_wp2_with fail
 (with_reducible refine HC.out.mono ?_);rintro e v4 ⟨e4,rfl,u4⟩;obtain ⟨x4,hx4,y4,q4⟩:=BJ v4 #[.int .u64 0,.int .u64 10] 52;go_upto_region 5 with fail
 rw [←hx4];have hF4:v4.heap.size∉F1:=fun hc=>by have:=(H3x.out.quiet u4).is.lt _ hc;omega
 clear hx4 HC;generalize v4.heap.size=pr at q4 hF4 ⊢;have gQ:=AQ ((Gg.out.Bh u4).Bh y4);have H4x:=AQ ((H3x.out.quiet u4).quiet y4);have Io:=AQ q4;have IE:=AQ hF4;clear u4 y4 q4 hF4 H3x Gg;have Gg:=gQ;clear gQ
 have hc:Calls Tryz.prog 21 #[.pointer (some ⟨q,0,none⟩),.agg #[.int .i64 1,.int .i64 4,.int .i64 1,.int .i64 2,.int .u32 2]] x4 fun e w'=>e=.returned (.tuple #[.int .i64 2,.bool true])∧∃S' F',Held w w' (.pointer (some ⟨q,0,none⟩)) S' F'∧Bf F1 x4 w'∧Cj S' = [B1,B2]∧S'.t=S1.t+1∧S'.H.cs.length=2:=
  addLit H4x.out B2 ⟨a1E.2,by decide⟩ (Ac L1.2.1) (Ws H4x.out.inv (by decide) (by rw [L1.1];decide)) L1.1 2 1 (by
   rw [zN S1.H.cs 1 (by
    intro j hj;have:j=0:=by omega
    subst this;rw [L1.2.2];rfl) (by rw [L1.2.2];rfl)]
   rfl) L1.2.2
 have HC:=AQ hc;clear hc;go_wp2_with fail
 (with_reducible refine HC.out.mono ?_);rintro e w5 ⟨rfl,S2,F2,h1,hup,hl1,ht1,hc1⟩;have H5x:=AQ h1;have QA:=AQ (Gg.out.upd hup Il.out);have QR:=AQ (Io.out.upd hup IE.out);have L2:=Aj hl1 (show S2.t=2 by have:=L1.2.1;omega) hc1;clear h1 hl1 ht1 hc1 HC H4x L1 Gg Io Il IE hup;have Gg:=QA;have Io:=QR;clear QA QR;have HC:=AQ (aK H5x.out (Ac L2.2.1) 8 L2.1 zO (by decide) (by decide));go_wp2_with fail
 (with_reducible refine HC.out.mono ?_);rintro e v6 ⟨e6,rfl,u6⟩;obtain ⟨x6,hx6,y6,q6⟩:=BJ v6 #[.int .u64 0,.int .u64 8] 52;go_upto_region 7 with fail
 rw [←hx6];have hF6:v6.heap.size∉F2:=fun hc=>by have:=(H5x.out.quiet u6).is.lt _ hc;omega
 clear hx6 HC;generalize v6.heap.size=pb at q6 hF6 ⊢;have gU:=AQ ((Gg.out.Bh u6).Bh y6);have zS:=AQ ((Io.out.Bh u6).Bh y6);have H6x:=AQ ((H5x.out.quiet u6).quiet y6);have Qpb:=AQ q6;have Opb:=AQ hF6;clear u6 y6 q6 hF6 H5x Gg Io;have Gg:=gU;clear gU;have Io:=zS;clear zS;clear Opb;have hst:=atP rW.1 rW.2.1 _ F2 S2 2 2 x6 H6x.out.is H6x.out.inv H6x.out.good (Ac L2.2.1) (by rw [L2.1];exact rW.2.2);rw [L2.1,kZ] at hst;have HC:=AQ hst;clear hst;go_wp2_with fail
 (with_reducible refine HC.out.mono ?_);rintro e w7 ⟨t7,⟨A7,C7,rfl,r7,u7⟩,-⟩;have H7x:=AQ (H6x.out.quiet u7);have R7:=AQ (See.BX r7);have U7:=AQ u7;clear r7 u7 HC H6x;have hst:=atP rW.1 rW.2.1 _ F2 S2 3 3 w7 H7x.out.is H7x.out.inv H7x.out.good (Ac L2.2.1) (by rw [L2.1];exact rW.2.2);rw [L2.1,aI] at hst;have HC:=AQ hst;clear hst;go_wp2_with fail
 (with_reducible refine HC.out.mono ?_);rintro e w8 ⟨t8,⟨A8,C8,rfl,-,u8⟩,-⟩;have H8x:=AQ (H7x.out.quiet u8);have R8:=AQ (R7.out.Bh u8);have U8:=AQ (U7.out.trans u8);clear u8 HC H7x R7 U7 rW;go_upto_region 9 with fail
 have HQ:=AQ (fun (W:World) (hu:Bf [] w8 W)=>(show Calls Tryz.prog 49 #[.slice A7 2 C7,.slice (some ⟨W.heap.size,0,none⟩) 2 2] (W.alloc (.cells #[.int .u32 1,.int .u32 2] 26)) (fun e w'=>e=.returned (.bool true)∧Bf [] (W.alloc (.cells #[.int .u32 1,.int .u32 2] 26)) w') from
  a0X (.slice A7 2 C7) (.slice (some ⟨W.heap.size,0,none⟩) 2 2) [1,2] [1,2] (W.alloc (.cells #[.int .u32 1,.int .u32 2] 26)) ((R8.out.Bh hu).Bh ((Bf.refl [] W).alloc _)) (show Ed (W.alloc (.cells #[.int .u32 1,.int .u32 2] 26)) 1 (.slice (some ⟨W.heap.size,0,none⟩) 2 2) 2 _ from BM W #[.int .u32 1,.int .u32 2] 26 1 2 rfl (by decide)) (by decide) (by decide)))
 obtain ⟨Wd,hWd⟩:∃Wd,Wd=w8.drew:=⟨_,rfl⟩;have Uo:=AQ (show Bf [] w8 Wd by rw [hWd];exact (Bf.refl _ _).drew)
 have HS:(Wd.cell? ⟨pa,0,none⟩=some (.int .u64 0)∧Wd.cell? ⟨pa,1,none⟩=some (.int .u64 6)∧Wd.cell? ⟨pr,0,none⟩=some (.int .u64 0)∧Wd.cell? ⟨pr,1,none⟩=some (.int .u64 10))∧Wd.cell? ⟨pb,0,none⟩=some (.int .u64 0)∧Wd.cell? ⟨pb,1,none⟩=some (.int .u64 8):=by
  have u9:=U8.out.trans Uo.out;exact ⟨⟨(Gg.out.Bh u9).cell 0,(Gg.out.Bh u9).cell 1,(Io.out.Bh u9).cell 0,(Io.out.Bh u9).cell 1⟩,(Qpb.out.Bh u9).cell 0,(Qpb.out.Bh u9).cell 1⟩
 have HS:=AQ HS;clear Gg Io Qpb U8 R8;refine Bj.start [] (fun w'=>(w'.cell? ⟨pa,0,none⟩=some (.int .u64 0)∧w'.cell? ⟨pa,1,none⟩=some (.int .u64 6)∧w'.cell? ⟨pr,0,none⟩=some (.int .u64 0)∧w'.cell? ⟨pr,1,none⟩=some (.int .u64 10))∧w'.cell? ⟨pb,0,none⟩=some (.int .u64 0)∧w'.cell? ⟨pb,1,none⟩=some (.int .u64 8)) (by kernel_rfl) ?_ fun hS=>?_
 ·exact by rw [←hWd];exact HS.out
 rw [←hWd] at hS ⊢;clear hWd;refine' Bj.mw 0 (oi:=⟨some 62,_,_,_,_,_⟩) ?_
 simp only [Act.put,sA,sZ,sS];refine' Bj.mw 1 (oi:=⟨some 63,_,_,_,_,_⟩) ?_
 simp only [Act.put,sA,sZ,sS];refine' Bj.mw 2 (oi:=⟨some 64,_,_,_,_,_⟩) ?_
 simp only [Act.put,sA,sZ,sS];refine' Bj.mw 3 (oi:=⟨some 65,_,_,_,_,_⟩) ?_
 simp only [Act.put,sA,sZ,sS];refine' Bj.mw 4 (oi:=⟨some 66,_,_,_,_,_⟩) ?_
 simp only [Act.put,sA,sZ,sS];refine' Bj.mw 5 (oi:=⟨some 67,_,_,_,_,_⟩) ?_
 simp only [Act.put,sA,sZ,sS];refine' Bj.mw 6 (oi:=⟨some 68,_,_,_,_,_⟩) ?_
 simp only [Act.put,sA,sZ,sS];refine' Bj.tl 1 7 (oi:=⟨some 69,_,_,_,_,_⟩) ?_
 simp only [Act.put,sA,sZ,sS];refine Bj.one (i:=8) (o:=⟨some 70,_,_,_,_,_⟩) rfl (by kernel_rfl) fun K hK=>?_
 go_simp
 go_at_call 70
 (with_reducible refine (gK 6 _).mono ?_);rintro e w21 ⟨rfl,hu21⟩;refine hK.out _ _ (fun _ h=>?_) ?_
 ·exact Ul h hu21
 clear hK K;try simp only [Act.put,sA,sZ,sS]
 have a5w:=AQ (Uo.out.trans (hu21));have zT:=AQ (Ul HS.out (hu21));clear hu21;have hSS:=zT.out;refine' Bj.mw 9 (oi:=⟨some 71,_,_,_,_,_⟩) ?_
 simp only [Act.put,sA,sZ,sS];refine' Bj.mw 10 (oi:=⟨some 72,_,_,_,_,_⟩) ?_
 simp only [Act.put,sA,sZ,sS];refine' Bj.mw 11 (oi:=⟨some 73,_,_,_,_,_⟩) ?_
 simp only [Act.put,sA,sZ,sS];refine' Bj.tl 1 12 (oi:=⟨some 74,_,_,_,_,_⟩) ?_
 simp only [Act.put,sA,sZ,sS];refine Bj.one (i:=13) (o:=⟨some 75,_,_,_,_,_⟩) rfl (by kernel_rfl) fun K hK=>?_
 go_simp
 go_at_call 70
 (with_reducible refine (gK 10 _).mono ?_);rintro e w22 ⟨rfl,aO⟩;refine hK.out _ _ (fun _ h=>?_) ?_
 ·exact Ul h aO
 clear hK K;try simp only [Act.put,sA,sZ,sS]
 have a5x:=AQ (a5w.out.trans (aO));have a1F:=AQ (Ul zT.out (aO));clear aO;have hSS:=a1F.out;refine' Bj.mw 14 (oi:=⟨some 76,_,_,_,_,_⟩) ?_
 simp only [Act.put,sA,sZ,sS];refine' Bj.mw 15 (oi:=⟨some 77,_,_,_,_,_⟩) ?_
 simp only [Act.put,sA,sZ,sS];refine' Bj.mw 16 (oi:=⟨some 78,_,_,_,_,_⟩) ?_
 simp only [Act.put,sA,sZ,sS];refine' Bj.mw 17 (oi:=⟨some 79,_,_,_,_,_⟩) ?_
 simp only [Act.put,sA,sZ,sS];refine' Bj.mw 18 (oi:=⟨some 80,_,_,_,_,_⟩) ?_
 simp only [Act.put,sA,sZ,sS];refine' Bj.mw 19 (oi:=⟨some 81,_,_,_,_,_⟩) ?_
 simp only [Act.put,sA,sZ,sS];refine' Bj.mw 20 (oi:=⟨some 82,_,_,_,_,_⟩) ?_
 simp only [Act.put,sA,sZ,sS];refine' Bj.mw 21 (oi:=⟨some 83,_,_,_,_,_⟩) ?_
 simp only [Act.put,sA,sZ,sS];refine' Bj.mw 22 (oi:=⟨some 84,_,_,_,_,_⟩) ?_
 simp only [Act.put,sA,sZ,sS];refine' Bj.mw 23 (oi:=⟨some 85,_,_,_,_,_⟩) ?_
 simp only [Act.put,sA,sZ,sS];refine' Bj.mw 24 (oi:=⟨some 86,_,_,_,_,_⟩) ?_
 simp only [Act.put,sA,sZ,sS];refine' Bj.tl 1 25 (oi:=⟨some 87,_,_,_,_,_⟩) ?_
 simp only [Act.put,sA,sZ,sS];refine Bj.one (i:=26) (o:=⟨some 88,_,_,_,_,_⟩) rfl (by kernel_rfl) fun K hK=>?_
 go_simp
 go_at_call 70
 (with_reducible refine (gK 8 _).mono ?_);rintro e w23 ⟨rfl,a1G⟩;refine hK.out _ _ (fun _ h=>?_) ?_
 ·exact Ul h a1G
 clear hK K;try simp only [Act.put,sA,sZ,sS]
 have a1H:=AQ (a5x.out.trans (a1G));have a8y:=AQ (Ul a1F.out (a1G));clear a1G;have hSS:=a8y.out;refine' Bj.mw 27 (oi:=⟨some 89,_,_,_,_,_⟩) ?_
 simp only [Act.put,sA,sZ,sS];refine' Bj.mw 28 (oi:=⟨some 90,_,_,_,_,_⟩) ?_
 simp only [Act.put,sA,sZ,sS];refine' Bj.mw 29 (oi:=⟨some 91,_,_,_,_,_⟩) ?_
 simp only [Act.put,sA,sZ,sS];refine' Bj.mw 30 (oi:=⟨some 92,_,_,_,_,_⟩) ?_
 simp only [Act.put,sA,sZ,sS];refine Bj.one (i:=31) (o:=⟨some 93,_,_,_,_,_⟩) rfl (by kernel_rfl) fun K hK=>?_
 go_simp
 refine hK.out _ _ (fun _ h=>?_) ?_
 ·exact Ul h ((Bf.refl _ _).alloc _)
 clear hK K;try simp only [Act.put,sA,sZ,sS]
 refine Bj.one (i:=32) (o:=⟨some 94,_,_,_,_,_⟩) rfl (by kernel_rfl) fun K hK=>?_
 go_simp
 go_at_call 49
 (with_reducible refine (HQ.out _ a1H.out).mono ?_);rintro e w24 ⟨rfl,a1I⟩;refine hK.out _ _ (fun _ h=>?_) ?_
 ·exact Ul h a1I
 clear hK K;try simp only [Act.put,sA,sZ,sS]
 have a8z:=AQ (a1H.out.trans (((Bf.refl _ _).alloc _).trans a1I));have b1R:=AQ (Ul a8y.out (((Bf.refl _ _).alloc _).trans a1I));clear a1I;have hSS:=b1R.out;refine' Bj.mw 33 (oi:=⟨some 95,_,_,_,_,_⟩) ?_
 simp only [Act.put,sA,sZ,sS];refine' Bj.mw 34 (oi:=⟨some 96,_,_,_,_,_⟩) ?_
 simp only [Act.put,sA,sZ,sS];refine' Bj.mw 35 (oi:=⟨some 97,_,_,_,_,_⟩) ?_
 simp only [Act.put,sA,sZ,sS];refine' Bj.mw 36 (oi:=⟨some 98,_,_,_,_,_⟩) ?_
 simp only [Act.put,sA,sZ,sS];refine' Bj.mw 37 (oi:=⟨some 99,_,_,_,_,_⟩) ?_
 simp only [Act.put,sA,sZ,sS];refine' Bj.mw 38 (oi:=⟨some 100,_,_,_,_,_⟩) ?_
 simp only [Act.put,sA,sZ,sS];refine' Bj.mw 39 (oi:=⟨some 101,_,_,_,_,_⟩) ?_
 simp only [Act.put,sA,sZ,sS];refine Bj.done (by kernel_rfl) ?_
 have zU:=AQ (H8x.out.quiet a8z.out);clear H8x HQ a8z hSS;have hmem:B1∈Cj S2:=by rw [L2.1];decide
 have hget:get S2 1=some B1:=(zU.out.inv.get 1 _).2 ⟨hmem,rfl⟩;obtain ⟨kk,hkk⟩:=V7 zU.out.inv.half hmem;have hdk:=Js zU.out.inv zU.out.good hget hkk (Ac L2.2.1);have hdr:Calls Tryz.prog 22 #[.pointer (some ⟨q,0,none⟩),.int .u32 1] w24 (Z5 w24 (.pointer (some ⟨q,0,none⟩)) F2 S2 1 B1 kk):=QK _ F2 S2 1 kk B1 w24 zU.out.is zU.out.inv zU.out.good (Ac L2.2.1) hget hkk
 have hn0:EI.OT S2.H B1=0:=by
  unfold EI.OT;have h1:=LX zU.out.inv.half.keys B1;have h2:=nM zU.out.inv;rw [L2.1] at h2;rw [hkk] at h1;have h3:[B1,B2].length=2:=rfl;rw [if_neg (by have:=L2.2.2;simp at h1;omega)]
 unfold Z5 at hdr;rw [hn0] at hdr;have HDR:=AQ hdr;have HDK:=AQ hdk;clear hdr hdk hn0 hkk hget hmem;go_wp2_with fail
 (with_reducible refine HDR.out.mono ?_);rintro e w13 ⟨rfl,a1D⟩;obtain ⟨F9,h9,-⟩:=zU.out.step a1D HDK.1 HDK.2.1;have H13:=AQ h9;clear h9 a1D;have hl9:Cj (KX S2 1 B1 kk) = [B2]:=by rw [HDK.2.2,L2.1];decide
 have ht9:(KX S2 1 B1 kk).t=3:=by show S2.t+1=3;rw [L2.2.1]
 have L3:=Aj hl9 ht9 trivial;clear hl9 ht9 HDR HDK zU;generalize KX S2 1 B1 kk=S3 at H13 L3;have HC:=AQ (aK H13.out (Ac L3.2.1) 3 L3.1 a5t (by decide) (by decide));go_wp2_with fail
 (with_reducible refine HC.out.mono ?_);rintro e v14 ⟨e14,rfl,u14⟩;obtain ⟨x14,zV,y14,q14⟩:=BJ v14 #[.int .u64 0,.int .u64 3] 52;go_upto_region 13 with fail
 rw [←zV];have a5y:v14.heap.size∉F9:=fun hc=>by have:=(H13.out.quiet u14).is.lt _ hc;omega
 clear zV HC;generalize v14.heap.size=pc at q14 a5y ⊢;have aP:=AQ ((H13.out.quiet u14).quiet y14);have Qpc:=AQ q14;have Opc:=AQ a5y;clear u14 y14 q14 a5y H13;have HC:=AQ (zQ aP.out (Ac L3.2.1) 8 L3.1 a5v (by decide) (by decide));go_wp2_with fail
 (with_reducible refine HC.out.mono ?_);rintro e v15 ⟨e15,rfl,u15⟩;obtain ⟨x15,zW,y15,q15⟩:=BJ v15 #[.int .u64 0,.int .u64 8] 52;go_upto_region 14 with fail
 rw [←zW];have a5z:v15.heap.size∉F9:=fun hc=>by have:=(aP.out.quiet u15).is.lt _ hc;omega
 clear zW HC;generalize v15.heap.size=ps at q15 a5z ⊢;have a2o:=AQ ((Qpc.out.Bh u15).Bh y15);have lq:=AQ ((aP.out.quiet u15).quiet y15);have Qps:=AQ q15;have Ops:=AQ a5z;clear u15 y15 q15 a5z aP Qpc;have Qpc:=a2o;clear a2o;clear Opc Ops;have hno:Calls Tryz.prog 21 #[.pointer (some ⟨q,0,none⟩),.agg #[.int .i64 0,.int .i64 0,.int .i64 0,.int .i64 0,.int .u32 2]] x15 fun e w'=>e=.returned (.tuple #[.int .i64 0,.bool false])∧Bf [] x15 w':=addNot _ F9 _ ⟨0,0,0,0,2⟩ x15 lq.out.is lq.out.inv (by rw [L3.2.1];decide) (kX lq.out.inv (.inr ⟨B2,by rw [L3.1];decide,rfl⟩))
 have tV:=AQ hno;clear hno;go_wp2_with fail
 (with_reducible refine tV.out.mono ?_);rintro e w16 ⟨rfl,u16⟩;have H16:=AQ (lq.out.quiet u16);have QC:=AQ (Qpc.out.Bh u16);have QS:=AQ (Qps.out.Bh u16);clear u16 lq Qpc Qps tV;go_upto_region 15 with fail
 obtain ⟨Wd,hWd⟩:∃Wd,Wd=w16.drew:=⟨_,rfl⟩;have Uo:=AQ (show Bf [] w16 Wd by rw [hWd];exact (Bf.refl _ _).drew)
 have HS:Wd.cell? ⟨pc,0,none⟩=some (.int .u64 0)∧Wd.cell? ⟨pc,1,none⟩=some (.int .u64 3)∧Wd.cell? ⟨ps,0,none⟩=some (.int .u64 0)∧Wd.cell? ⟨ps,1,none⟩=some (.int .u64 8):=
  ⟨(QC.out.Bh Uo.out).cell 0,(QC.out.Bh Uo.out).cell 1,(QS.out.Bh Uo.out).cell 0,(QS.out.Bh Uo.out).cell 1⟩
 have HS:=AQ HS;clear QC QS;refine Bj.start [] (fun w'=>w'.cell? ⟨pc,0,none⟩=some (.int .u64 0)∧w'.cell? ⟨pc,1,none⟩=some (.int .u64 3)∧w'.cell? ⟨ps,0,none⟩=some (.int .u64 0)∧w'.cell? ⟨ps,1,none⟩=some (.int .u64 8)) (by kernel_rfl) ?_ fun hS=>?_
 ·exact by rw [←hWd];exact HS.out
 rw [←hWd] at hS ⊢;clear hWd;refine' Bj.mw 0 (oi:=⟨some 123,_,_,_,_,_⟩) ?_
 simp only [Act.put,sA,sZ,sS];refine' Bj.mw 1 (oi:=⟨some 124,_,_,_,_,_⟩) ?_
 simp only [Act.put,sA,sZ,sS];refine' Bj.mw 2 (oi:=⟨some 125,_,_,_,_,_⟩) ?_
 simp only [Act.put,sA,sZ,sS];refine' Bj.mw 3 (oi:=⟨some 126,_,_,_,_,_⟩) ?_
 simp only [Act.put,sA,sZ,sS];refine' Bj.mw 4 (oi:=⟨some 127,_,_,_,_,_⟩) ?_
 simp only [Act.put,sA,sZ,sS];refine' Bj.mw 5 (oi:=⟨some 128,_,_,_,_,_⟩) ?_
 simp only [Act.put,sA,sZ,sS];refine' Bj.tl 1 6 (oi:=⟨some 129,_,_,_,_,_⟩) ?_
 simp only [Act.put,sA,sZ,sS];refine Bj.one (i:=7) (o:=⟨some 130,_,_,_,_,_⟩) rfl (by kernel_rfl) fun K hK=>?_
 go_simp
 go_at_call 70
 (with_reducible refine (gK 3 _).mono ?_);rintro e w21 ⟨rfl,hu21⟩;refine hK.out _ _ (fun _ h=>?_) ?_
 ·exact MF h hu21
 clear hK K;try simp only [Act.put,sA,sZ,sS]
 have a5w:=AQ (Uo.out.trans (hu21));have zT:=AQ (MF HS.out (hu21));clear hu21;have hSS:=zT.out;refine' Bj.mw 8 (oi:=⟨some 131,_,_,_,_,_⟩) ?_
 simp only [Act.put,sA,sZ,sS];refine' Bj.mw 9 (oi:=⟨some 132,_,_,_,_,_⟩) ?_
 simp only [Act.put,sA,sZ,sS];refine' Bj.mw 10 (oi:=⟨some 133,_,_,_,_,_⟩) ?_
 simp only [Act.put,sA,sZ,sS];refine' Bj.tl 1 11 (oi:=⟨some 134,_,_,_,_,_⟩) ?_
 simp only [Act.put,sA,sZ,sS];refine Bj.one (i:=12) (o:=⟨some 135,_,_,_,_,_⟩) rfl (by kernel_rfl) fun K hK=>?_
 go_simp
 go_at_call 70
 (with_reducible refine (gK 8 _).mono ?_);rintro e w22 ⟨rfl,aO⟩;refine hK.out _ _ (fun _ h=>?_) ?_
 ·exact MF h aO
 clear hK K;try simp only [Act.put,sA,sZ,sS]
 have a5x:=AQ (a5w.out.trans (aO));have a1F:=AQ (MF zT.out (aO));clear aO;have hSS:=a1F.out;refine' Bj.mw 13 (oi:=⟨some 136,_,_,_,_,_⟩) ?_
 simp only [Act.put,sA,sZ,sS];refine' Bj.mw 14 (oi:=⟨some 137,_,_,_,_,_⟩) ?_
 simp only [Act.put,sA,sZ,sS];refine' Bj.mw 15 (oi:=⟨some 138,_,_,_,_,_⟩) ?_
 simp only [Act.put,sA,sZ,sS];refine' Bj.mw 16 (oi:=⟨some 139,_,_,_,_,_⟩) ?_
 simp only [Act.put,sA,sZ,sS];refine' Bj.mw 17 (oi:=⟨some 140,_,_,_,_,_⟩) ?_
 simp only [Act.put,sA,sZ,sS];refine' Bj.mw 18 (oi:=⟨some 141,_,_,_,_,_⟩) ?_
 simp only [Act.put,sA,sZ,sS];refine' Bj.mw 19 (oi:=⟨some 0,_,_,_,_,_⟩) ?_
 simp only [Act.put,List.setIfInBounds_toArray,List.set_cons_zero];refine Bj.done (by kernel_rfl) ?_
 go_wp2_with fail
 go_ret
 exact ⟨rfl,(H16.out.quiet a5x.out).upd⟩
