/- boxes.Add. Printed by genBx.py. -/
import Derived.Test.YtkbaaonchdeneaaGreatPc34
set_option maxHeartbeats 8000000
set_option maxRecDepth 100000
namespace Go.Proofs.YtkbaaonchdeneaaGreat.LQ
open Go.RowKit
attribute [local go_sem ↓] Go.wp_at_zero Go.wp_at_succ
open Fv (BO Cc)
open Go.Proofs.YtkbaaonchdeneaaGreat.Nm (Gi Ee CU O8 Gz Bz Ed place)
open Ps
def FV (S:GY) (s:Bx):Bool:=decide ((s.x1<=s.x2/\s.y1<=s.y2))&&(place S.N s.id).isNone
theorem addNot (tv:Value) (F:List Nat) (S:GY) (s:Bx) (w:World) (H:Ku w tv F S) (I:EW Bx.id S) (ht:S.t<90000) (hmay:FV S s=false) :
 Calls Tryz.prog 21 #[tv,QK s] w λe w'=>e=.returned (.tuple #[.int .i64 0,.bool false])/\Bj [] w w':=by
 obtain ⟨W,hW,hu0,hq0⟩:=CQ w #[s.x1,s.x2,s.y1,s.y2,.int .u32 (s.id:Int)] 28;have H:=H.upd hu0 (by simp);have hlow:=I.low;have hal2:=I.lK;obtain ⟨q,hv,dv,av,Fh,Fd,rfl,H,hF⟩:=H;obtain ⟨h,rfl⟩:=BO.ptr H.half;obtain ⟨d,rfl⟩:=Gi.ptr H.dir;obtain ⟨A,C,hav⟩:∃A C,av=.slice A S.all.length C:=BD H.all;subst hav;obtain ⟨h0,h1,h2⟩:=H.head.cells3;obtain ⟨x0,x1,x2,x3,x4⟩:=hq0.cells5;have OA:=H.head.lt;have hxs:=hq0.lt;have HN:=AX (λ(w2:World) (hu:Bj [] W w2)=>Pq q h w2 ((hu.cell (p:=⟨q,0,none⟩) OA (by simp)).trans h0));have Gu:=AX hu0;unfold QK;by_cases hr:(s.x1<=s.x2/\s.y1<=s.y2)
 ·have hp:(place S.N s.id).isSome=true:=by
   unfold FV at hmay;simp [hr] at hmay
   cases hpl:place S.N s.id with
   |none=>rw [hpl] at hmay;simp at hmay
   |some i=>rfl
  have HP:=AX (λ(w2:World) (hu:Bj [] W w2)=>Nm.ug _ Fd S.N s.id S.all.length w2 (H.dir.upd hu (by simp)) I.dir (Ac hlow.1) hp);have HR:=AX (λ(w2:World)=>Qc s w2);unfold QK at HR;rw [decide_eq_true hr] at HR;have Ud:=AX hW;obtain ⟨nn,hnn⟩:∃n,S.all.length=n:=⟨_,rfl⟩;rw [hnn] at h2 HP;have nn0:nn<100000:=by omega
  have hd0:W.drew.cell? q=some (.pointer (some h)):=h0;have hd1:W.drew.cell? ⟨q,1,none⟩=some (.pointer (some d)):=h1;have hd2:W.drew.cell? ⟨q,2,none⟩=some (.slice A nn C):=h2;have e0:W.drew.cell? w.heap.size=some (.int .i64 s.x1):=x0;have e1:W.drew.cell? ⟨w.heap.size,1,none⟩=some (.int .i64 s.x2):=x1;have e2:W.drew.cell? ⟨w.heap.size,2,none⟩=some (.int .i64 s.y1):=x2;have e3:W.drew.cell? ⟨w.heap.size,3,none⟩=some (.int .i64 s.y2):=x3;have e4:W.drew.cell? ⟨w.heap.size,4,none⟩=some (.int .u32 (s.id:Int)):=x4;have hdr:=(Bj.refl [] W).drew;clear H hF hW hu0 hq0 I hlow hal2 hp hr hmay hnn x0 x1 x2 x3 x4 h0 h1 h2;go_enter Tryz.func21,Tryz.ntmps21
  go_upto_region 1 with fail
  rw [<-Ud.out];clear Ud;generalize w.heap.size=qx at e0 e1 e2 e3 e4 hxs |-
  go_region_held3 (λw'=>Bj [] W w'/\w'.cell? ⟨q,1,none⟩=some (.pointer (some d))/\w'.cell? ⟨q,2,none⟩=some (.slice A nn C)/\w'.cell? qx=some (.int .i64 s.x1)/\w'.cell? ⟨qx,1,none⟩=some (.int .i64 s.x2)/\w'.cell? ⟨qx,2,none⟩=some (.int .i64 s.y1)/\w'.cell? ⟨qx,3,none⟩=some (.int .i64 s.y2)/\w'.cell? ⟨qx,4,none⟩=some (.int .u32 (s.id:Int)))
   (first
    |(exact ⟨hk,(hk.cell (p:=⟨q,1,none⟩) OA (by simp)).trans hd1,(hk.cell (p:=⟨q,2,none⟩) OA (by simp)).trans hd2,(hk.cell (p:=⟨qx,0,none⟩) hxs (by simp)).trans e0,(hk.cell (p:=⟨qx,1,none⟩) hxs (by simp)).trans e1,(hk.cell (p:=⟨qx,2,none⟩) hxs (by simp)).trans e2,(hk.cell (p:=⟨qx,3,none⟩) hxs (by simp)).trans e3,(hk.cell (p:=⟨qx,4,none⟩) hxs (by simp)).trans e4⟩)
    |(exact ⟨hdr,hd1,hd2,e0,e1,e2,e3,e4⟩)
    |go_keep)
   ((
    first
    |(go_at_call 59;refine (HN.out _ hdr).mono ?_;rintro e w1 ⟨rfl,rfl⟩)
    |(go_at_call 71;refine (HR.out _).mono ?_;rintro e w2 ⟨rfl,hu2⟩;have hk:=hdr.trans hu2)
    |(go_at_call 72;refine (HP.out _ hk).mono ?_;rintro e w3 ⟨rfl,hu3⟩;have hk:=hk.trans hu3)))
  go_wp2_with fail
  go_ret2
  exact ⟨rfl,Gu.out.trans hk⟩
 ·have HR:=AX (λ(w2:World)=>Qc s w2);unfold QK at HR;rw [decide_eq_false hr] at HR;have Ud:=AX hW;have hd0:W.drew.cell? q=some (.pointer (some h)):=h0;have e0:W.drew.cell? w.heap.size=some (.int .i64 s.x1):=x0;have e1:W.drew.cell? ⟨w.heap.size,1,none⟩=some (.int .i64 s.x2):=x1;have e2:W.drew.cell? ⟨w.heap.size,2,none⟩=some (.int .i64 s.y1):=x2;have e3:W.drew.cell? ⟨w.heap.size,3,none⟩=some (.int .i64 s.y2):=x3;have e4:W.drew.cell? ⟨w.heap.size,4,none⟩=some (.int .u32 (s.id:Int)):=x4;have hdr:=(Bj.refl [] W).drew;clear H hF hW hu0 hq0 I hlow hal2 hr hmay x0 x1 x2 x3 x4 h0 h1 h2;go_enter Tryz.func21,Tryz.ntmps21
  go_upto_region 1 with fail
  rw [<-Ud.out];clear Ud;generalize w.heap.size=qx at e0 e1 e2 e3 e4 hxs |-;refine Bo.start [] (λw'=>Bj [] W w') (by kernel_rfl) ?_ λhS=>?_
  ·exact hdr
  refine' Bo.mx 0 6 ?_
  refine Bo.one (i:=1) (o:=⟨some 7,_,_,_,_,_⟩) rfl (by kernel_rfl) λK hK=>?_
  go_simp
  go_at_call 59
  go_fit (HN.out _ hS)
  rintro e w1 ⟨rfl,rfl⟩;refine hK.out _ _ (λ_ h=>?_) ?_
  ·exact h
  clear hK K;try simp only [Act.put,sA,sZ,sS]
  refine' Bo.mx 2 8 ?_
  refine' Bo.tk 1 (i:=3) (oi:=⟨some 9,_,_,_,_,_⟩) rfl (by rfl) ?a7K ?_
  case a7K=>intro w hSw;have k50:=(hSw.cell (p:=⟨qx,0,none⟩) hxs (by simp)).trans e0;have k51:=(hSw.cell (p:=⟨qx,1,none⟩) hxs (by simp)).trans e1;have k52:=(hSw.cell (p:=⟨qx,2,none⟩) hxs (by simp)).trans e2;have k53:=(hSw.cell (p:=⟨qx,3,none⟩) hxs (by simp)).trans e3;have k54:=(hSw.cell (p:=⟨qx,4,none⟩) hxs (by simp)).trans e4;go_simp<;>with_reducible rfl
  simp only [Act.put,sA,sZ,sS];refine Bo.one (i:=4) (o:=⟨some 10,_,_,_,_,_⟩) rfl (by kernel_rfl) λK hK=>?_
  go_simp
  go_at_call 71
  go_fit (HR.out _)
  rintro e w2 ⟨rfl,hu2⟩;have hS:=hS.trans hu2;refine hK.out _ _ (λ_ h=>?_) ?_
  ·exact hS
  clear hK K;try simp only [Act.put,sA,sZ,sS]
  refine' Bo.mx 5 11 ?_
  refine' Bo.mx 6 12 ?_
  refine' Bo.mx 7 13 ?_
  refine' Bo.move (i:=8) (oi:=⟨some 14,_,_,_,_,_⟩) (v:=_) rfl (by kernel_rfl) (by kernel_rfl) (by kernel_rfl) (λ_ _ _ h=>h) (Or.inr ⟨by rfl,rfl⟩) ?a8P
  simp only [Act.put,sA,sZ,sS];refine' Bo.move (i:=9) (oi:=⟨some 15,_,_,_,_,_⟩) (v:=_) rfl (by kernel_rfl) (by kernel_rfl) (by kernel_rfl) (λ_ _ _ h=>h) (Or.inr ⟨by rfl,rfl⟩) ?a8Q
  simp only [Act.put,sA,sZ,sS];refine' Bo.move (i:=10) (oi:=⟨some 16,_,_,_,_,_⟩) (v:=_) rfl (by kernel_rfl) (by kernel_rfl) (by kernel_rfl) (λ_ _ _ h=>h) (Or.inr ⟨by rfl,rfl⟩) ?a8m
  simp only [Act.put,sA,sZ,sS];refine' Bo.move (i:=11) (oi:=⟨some 17,_,_,_,_,_⟩) (v:=_) rfl (by kernel_rfl) (by kernel_rfl) (by kernel_rfl) (λ_ _ _ h=>h) (Or.inr ⟨by rfl,rfl⟩) ?a8n
  simp only [Act.put,sA,sZ,sS];refine' Bo.move (i:=12) (oi:=⟨some 18,_,_,_,_,_⟩) (v:=_) rfl (by kernel_rfl) (by kernel_rfl) (by kernel_rfl) (λ_ _ _ h=>h) (Or.inr ⟨by rfl,rfl⟩) ?a8o
  simp only [Act.put,sA,sZ,sS];refine' Bo.move (i:=13) (oi:=⟨some 19,_,_,_,_,_⟩) (v:=_) rfl (by kernel_rfl) (by kernel_rfl) (by kernel_rfl) (λ_ _ _ h=>h) (Or.inr ⟨by rfl,rfl⟩) ?a8p
  simp only [Act.put,sA,sZ,sS];refine' Bo.move (i:=14) (oi:=⟨some 20,_,_,_,_,_⟩) (v:=_) rfl (by kernel_rfl) (by kernel_rfl) (by kernel_rfl) (λ_ _ _ h=>h) (Or.inr ⟨by rfl,rfl⟩) ?a8q
  simp only [Act.put,sA,sZ,sS];refine' Bo.move (i:=15) (oi:=⟨some 21,_,_,_,_,_⟩) (v:=_) rfl (by kernel_rfl) (by kernel_rfl) (by kernel_rfl) (λ_ _ _ h=>h) (Or.inr ⟨by rfl,rfl⟩) ?a8r
  simp only [Act.put,sA,sZ,sS];refine' Bo.move (i:=16) (oi:=⟨some 22,_,_,_,_,_⟩) (v:=_) rfl (by kernel_rfl) (by kernel_rfl) (by kernel_rfl) (λ_ _ _ h=>h) (Or.inr ⟨by rfl,rfl⟩) ?a8s
  simp only [Act.put,sA,sZ,sS];refine' Bo.move (i:=17) (oi:=⟨some 23,_,_,_,_,_⟩) (v:=_) rfl (by kernel_rfl) (by kernel_rfl) (by kernel_rfl) (λ_ _ _ h=>h) (Or.inr ⟨by rfl,rfl⟩) ?a8t
  simp only [Act.put,sA,sZ,sS];refine' Bo.move (i:=18) (oi:=⟨some 24,_,_,_,_,_⟩) (v:=_) rfl (by kernel_rfl) (by kernel_rfl) (by kernel_rfl) (λ_ _ _ h=>h) (Or.inr ⟨by rfl,rfl⟩) ?a8u
  simp only [Act.put,sA,sZ,sS];refine Bo.one (i:=19) (o:=⟨some 25,_,_,_,_,_⟩) rfl (by kernel_rfl) λK hK=>?_
  rw [if_neg (by simp [Region.wanted,yielded])];refine hK.out _ _ (λ_ h=>?_) ?_
  ·exact h
  clear hK K;try simp only [Act.put,sA,sZ,sS]
  refine' Bo.move (i:=20) (oi:=⟨some 26,_,_,_,_,_⟩) (v:=_) rfl (by kernel_rfl) (by kernel_rfl) (by kernel_rfl) (λ_ _ _ h=>h) (Or.inr ⟨by rfl,rfl⟩) ?a8v
  simp only [Act.put,sA,sZ,sS];refine' Bo.mx 21 27 ?_
  refine Bo.done (by kernel_rfl) ?_
  go_wp2_with fail
  go_ret2
  exact ⟨rfl,Gu.out.trans hS⟩
theorem YN {l:List Bx} (h:Fv.Good l) {s:Bx} (h1:s.CS/\s.id<4294967296) (h2:(s.x1<=s.x2/\s.y1<=s.y2)) (h3:∀u∈l,u.id≠s.id):Fv.Good (l++[s]):=by
 refine ⟨?_,?_,?_⟩
 ·intro u hu;rcases List.mem_append.1 hu with hu | hu
  ·exact h.right u hu
  ·simp at hu;subst hu;exact h2
 ·rw [List.map_append,List.nodup_append];refine ⟨h.names,by simp,?_⟩
  intro a ha b hb;obtain ⟨u,hu,rfl⟩:=List.mem_map.1 ha;simp at hb;rw [hb];exact h3 u hu
 ·intro u hu;rcases List.mem_append.1 hu with hu | hu
  ·exact h.CS u hu
  ·simp at hu;subst hu;exact h1
theorem Qq {S:GY} (I:EW Bx.id S):(Dw S).length<=S.t:=by
 have h1:=SX S.H.al S.H.cs;have h2:=Ps.ET.len I.half;have h3:=I.al;unfold Dw;omega
def a1i (w:World) (tv:Value) (F:List Nat) (S:GY) (s:Bx) (e:Ending) (w':World):Prop:=
 e=.returned (.tuple #[.int .i64 ((2 ^ Bv (setB S.H.cs):Nat):Int),.bool true])/\Rf w w' tv F (bH Bx.id S s)
theorem uq (tv:Value) (F:List Nat) (S:GY) (s:Bx) (w:World) (H:Ku w tv F S) (I:EW Bx.id S) (hg:Fv.Good (Dw S)) (ht:S.t<999) (hs:s.CS/\s.id<4294967296) (hmay:FV S s=true) :
 Calls Tryz.prog 21 #[tv,QK s] w (a1i w tv F S s):=by
 have hF0:=H.lt;obtain ⟨W,hW,hu0,hq0⟩:=CQ w #[s.x1,s.x2,s.y1,s.y2,.int .u32 (s.id:Int)] 28;have H:=H.upd hu0 (by simp);have hlow:=I.low;have hal2:=I.lK;obtain ⟨q,hv,dv,av,Fh,Fd,rfl,H,hF⟩:=H;obtain ⟨h,rfl⟩:=BO.ptr H.half;obtain ⟨d,rfl⟩:=Gi.ptr H.dir;obtain ⟨A,C,hav⟩:∃A C,av=.slice A S.all.length C:=BD H.all;subst hav;obtain ⟨h0,h1,h2⟩:=H.head.cells3;obtain ⟨x0,x1,x2,x3,x4⟩:=hq0.cells5;have OA:=H.head.lt;have hxs:=hq0.lt;have HN:=AX (λ(w2:World) (hu:Bj [] W w2)=>Pq q h w2 ((hu.cell (p:=⟨q,0,none⟩) OA (by simp)).trans h0));unfold QK a1i;have YO:=hmay;unfold FV at YO;rw [Bool.and_eq_true] at YO;have hr:(s.x1<=s.x2/\s.y1<=s.y2):=by simpa using YO.1
 have hp:place S.N s.id=none:=by simpa using YO.2
 have hnew:=(I.none s.id).1 hp;have hgood:=YN hg hs hr hnew;have hmp:S.H.mp.lookup s=none:=(Si I.half s).2 λhm=>hnew s hm rfl
 have hlv:=Qq I;have hcs:=Ps.ET.len I.half;have hal:=I.al;have hwk:=I.wk;have HP:=AX (λ(w2:World) (hu:Bj [] W w2)=>Nm.a0k _ Fd S.N s.id S.all.length w2 (H.dir.upd hu (by simp)) I.dir (Ac hlow.1) (Ac hlow.2) hp);have Xy:=AX (λ(w2:World) (Fh2:List Nat) (hh:BO w2 (.pointer (some h)) Fh2 S.H)=>Fv.Qp _ Fh2 S.H s w2 hh I.half hs hmp (by omega) (by omega) (by omega) hgood (by show (Dw S).length+1<=1000;omega));have HR:=AX (λ(w2:World)=>Qc s w2);unfold QK at HR;rw [decide_eq_true hr] at HR;have Ud:=AX hW;obtain ⟨nn,hnn⟩:∃n,S.all.length=n:=⟨_,rfl⟩;rw [hnn] at h2 HP;have nn0:nn<100000:=by omega
 have hd0:W.drew.cell? q=some (.pointer (some h)):=h0;have hd1:W.drew.cell? ⟨q,1,none⟩=some (.pointer (some d)):=h1;have hd2:W.drew.cell? ⟨q,2,none⟩=some (.slice A nn C):=h2;have e0:W.drew.cell? w.heap.size=some (.int .i64 s.x1):=x0;have e1:W.drew.cell? ⟨w.heap.size,1,none⟩=some (.int .i64 s.x2):=x1;have e2:W.drew.cell? ⟨w.heap.size,2,none⟩=some (.int .i64 s.y1):=x2;have e3:W.drew.cell? ⟨w.heap.size,3,none⟩=some (.int .i64 s.y2):=x3;have e4:W.drew.cell? ⟨w.heap.size,4,none⟩=some (.int .u32 (s.id:Int)):=x4;have hdr:=(Bj.refl [] W).drew;have L9:q∉Fd:=λhc=>H.E5 (i:=0) (j:=2) rfl rfl (by omega) q (by simp) hc
 have hxF:w.heap.size∉F:=λhc=>Nat.lt_irrefl _ (hF0 _ hc)
 have hxd:w.heap.size∉Fd:=λhc=>hxF (by rw [hF];exact Bz (i:=2) rfl hc)
 have HXF:=AX hxF;have HH:=AX H;have RX:=AX hF;have iq:=AX hnn;have Gu:=Ap hu0 hq0;clear H hF hW hu0 hq0 I hlow hal2 hp hr hmay YO hnn x0 x1 x2 x3 x4 h0 h1 h2 hF0 hg hnew hgood hmp hlv hcs hal hwk hxF hs ht;go_enter Tryz.func21,Tryz.ntmps21
 go_upto_region 1 with fail
 rw [<-Ud.out];clear Ud;obtain ⟨qx,JQ⟩:∃k,w.heap.size=k:=⟨_,rfl⟩;rw [JQ] at e0 e1 e2 e3 e4 hxs hxd HXF Gu |-;have HQX:=AX JQ;clear JQ
 go_region_held3 (λw'=>Bj Fd W w'/\w'.cell? ⟨q,1,none⟩=some (.pointer (some d))/\w'.cell? ⟨q,2,none⟩=some (.slice A nn C)/\w'.cell? qx=some (.int .i64 s.x1)/\w'.cell? ⟨qx,1,none⟩=some (.int .i64 s.x2)/\w'.cell? ⟨qx,2,none⟩=some (.int .i64 s.y1)/\w'.cell? ⟨qx,3,none⟩=some (.int .i64 s.y2)/\w'.cell? ⟨qx,4,none⟩=some (.int .u32 (s.id:Int)))
  (first
   |(exact ⟨hk4,(hk4.cell (p:=⟨q,1,none⟩) OA L9).trans hd1,(hk4.cell (p:=⟨q,2,none⟩) OA L9).trans hd2,(hk4.cell (p:=⟨qx,0,none⟩) hxs hxd).trans e0,(hk4.cell (p:=⟨qx,1,none⟩) hxs hxd).trans e1,(hk4.cell (p:=⟨qx,2,none⟩) hxs hxd).trans e2,(hk4.cell (p:=⟨qx,3,none⟩) hxs hxd).trans e3,(hk4.cell (p:=⟨qx,4,none⟩) hxs hxd).trans e4⟩)
   |(exact ⟨hk.mono (by simp),(hk.cell (p:=⟨q,1,none⟩) OA (by simp)).trans hd1,(hk.cell (p:=⟨q,2,none⟩) OA (by simp)).trans hd2,(hk.cell (p:=⟨qx,0,none⟩) hxs (by simp)).trans e0,(hk.cell (p:=⟨qx,1,none⟩) hxs (by simp)).trans e1,(hk.cell (p:=⟨qx,2,none⟩) hxs (by simp)).trans e2,(hk.cell (p:=⟨qx,3,none⟩) hxs (by simp)).trans e3,(hk.cell (p:=⟨qx,4,none⟩) hxs (by simp)).trans e4⟩)
   |(exact ⟨hdr.mono (by simp),hd1,hd2,e0,e1,e2,e3,e4⟩)
   |go_keep)
  ((
   first
   |(go_at_call 59;refine (HN.out _ hdr).mono ?_;rintro e w1 ⟨rfl,rfl⟩)
   |(go_at_call 71;refine (HR.out _).mono ?_;rintro e w2 ⟨rfl,hu2⟩;have hk:=hdr.trans hu2)
   |(go_at_call 72;refine (HP.out _ hk).mono ?_;rintro e w3 ⟨rfl,hst3⟩;have hk4:=(hk.mono (G:=Fd) (by simp)).trans (show Bj Fd _ w3 from by obtain ⟨_,_,g,_⟩:=hst3;exact g))))
 have H2:=HH.out.upd hk (by intro P hP y hy;simp);obtain ⟨Fd3,H3,hu3,hF3⟩:=H2.dirs hst3;have hk3:Bj Fd W w3:=hk4;obtain ⟨y0,y1,y2,y3,y4⟩:=(Gu.2.upd hk3 hxd).cells5;obtain ⟨k0,k1,k2⟩:=H3.head.cells3;have kf:=H3.head.frozen 2;have hq3:=H3.head.lt;have hx3:=(Gu.2.upd hk3 hxd).lt;have hqA:q∉blk (.slice A nn C):=λhc=>H3.E5 (i:=0) (j:=3) rfl rfl (by omega) q (by simp) (by rw [<-iq.out] at hc;exact hc)
 have hrw:w3.ownsRow 0 28 5 (.slice A nn C) nn (LP.all S.all):=by have:=H3.all;unfold Kind.row at this;rw [<-iq.out];exact this
 have HRW:=AX (EY hrw);have OB:=AX H3;have HK3:=Ap hk3 hF3;have eY:=AX hk.size;obtain ⟨i0,hi0,hz0,hz1,hz2⟩:=info_parts Fv.Qj;rw [iq.out] at k2;clear hrw H2 H3 hu3 hF3 hk3 hst3 hk4 hk hd0 hd1 hd2 e0 e1 e2 e3 e4 hdr hu2 OA hxs L9 hxd;go_upto_region 3 with fail
 refine Bo.start [7,8,9,10] (λw'=>Bj [] w3 w') (by kernel_rfl) ?_ λhS=>?_
 ·exact (Bj.refl _ _).drew
 refine' Bo.mx 0 28 ?_
 refine' Bo.mx 1 29 ?_
 refine' Bo.mx 2 30 ?_
 refine' Bo.mx 3 31 ?_
 refine' Bo.tk 2 (i:=4) (oi:=⟨some 32,_,_,_,_,_⟩) rfl (by rfl) ?a7L ?_
 case a7L=>intro w hSw;have e9:=(hSw.cell (p:=⟨q,2,none⟩) hq3 (by simp)).trans k2;go_simp<;>with_reducible rfl
 simp only [Act.put,sA,sZ,sS];refine' Bo.tk 2 (i:=5) (oi:=⟨some 33,_,_,_,_,_⟩) rfl (by rfl) ?a7M ?_
 case a7M=>intro w hSw;have k50:=(hSw.cell (p:=⟨qx,0,none⟩) hx3 (by simp)).trans y0;have k51:=(hSw.cell (p:=⟨qx,1,none⟩) hx3 (by simp)).trans y1;have k52:=(hSw.cell (p:=⟨qx,2,none⟩) hx3 (by simp)).trans y2;have k53:=(hSw.cell (p:=⟨qx,3,none⟩) hx3 (by simp)).trans y3;have k54:=(hSw.cell (p:=⟨qx,4,none⟩) hx3 (by simp)).trans y4;go_simp<;>with_reducible rfl
 simp only [Act.put,sA,sZ,sS];refine Bo.one (i:=6) (o:=⟨some 34,_,_,_,_,_⟩) rfl (by kernel_rfl) λK hK=>?_
 go_simp
 refine hK.out _ _ (λ_ h=>?_) ?_
 ·exact h.alloc _
 clear hK K;try simp only [Act.put,sA,sZ,sS]
 refine Bo.one (i:=7) (o:=⟨some 35,_,_,_,_,_⟩) rfl (by kernel_rfl) λK hK=>?_
 rw [if_pos (by simp [Region.wanted])];refine SK _ _ _ 42 (by rfl) 0 28 i0 (.agg #[.int .i64 0,.int .i64 0,.int .i64 0,.int .i64 0,.int .u32 0]) 5 40 Tryz.underlying42 hi0 hz0 hz1 hz2 rfl (by decide) (.slice A nn C) nn (LP.all S.all) (by rfl) (HRW.out.alloc _) _ 1 [s.x1,s.x2,s.y1,s.y2,.int .u32 (s.id:Int)] (by rfl) (BK w3.drew #[s.x1,s.x2,s.y1,s.y2,.int .u32 (s.id:Int)] 28 5 1 rfl (by decide)) (by simp [Value.oneCell']) (by unfold maxLen;omega) (by omega) (Nat.zero_le _) ?_
 intro A5 C5 w5 HP
 have hst1:w5.cell? ⟨q,2,none⟩=some (.slice A nn C):=by
  refine ((HP.upd).cell (p:=⟨q,2,none⟩) (by simp;exact Nat.lt_succ_of_lt hq3) hqA).trans ?_
  show (w3.alloc _).cell? ⟨q,2,none⟩=_
  rw [World.cell?_alloc_past _ _ _ hq3];exact k2
 have hst2:w5.frozen? ⟨q,2,none⟩=false:=by
  refine ((HP.upd).frozen (p:=⟨q,2,none⟩) (by simp;exact Nat.lt_succ_of_lt hq3) hqA).trans ?_
  show (w3.alloc _).frozen? ⟨q,2,none⟩=_
  rw [World.frozen?_alloc_past _ _ _ hq3];exact kf
 refine hK.out _ _ (λh=>(by cases h)) ?_
 clear hK K;try simp only [Act.put,sA,sZ,sS]
 refine' Bo.mx 8 36 ?_
 refine' Bo.mx 9 37 ?_
 refine Bo.one (i:=10) (o:=⟨none,_,_,_,_,_⟩) rfl (by kernel_rfl) λK hK=>?_
 go_simp
 refine hK.out _ _ (λh=>(by cases h)) ?_
 clear hK K;try simp only [Act.put,sA,sZ,sS]
 refine Bo.done (by kernel_rfl) ?_
 have JC:Bj (blk (.slice A nn C)) w3 w5:=((Bj.refl _ w3).drew.alloc _).trans HP.upd;have hh5:=(OB.out.head.upd JC hqA).set 2 (.slice A5 (nn+1) C5);have hus:Bj [q] w5 (w5.setCell ⟨q,2,none⟩ (.slice A5 (nn+1) C5)):=(Bj.refl _ _).setCell (p:=⟨q,2,none⟩) (.inl (by simp)) _
 have hb5:∀y∈blk (.slice A5 (nn+1) C5),y∈blk (.slice A S.all.length C)\/w3.heap.size<=y:=by
  intro y hy;rcases HP.at with g | g
  ·rw [g] at hy;exact .inl (by rw [iq.out];exact hy)
  ·rw [g] at hy;simp at hy;right;omega
 have GK:LP.row w5 0 (.slice A5 (nn+1) C5) (S.all++[s]):=by
  have:=HP.own;unfold Kind.row;rw [Bc,iq.out,Kind.BZ];exact this
 have H6:=OB.out.kept (w':=w5.setCell ⟨q,2,none⟩ (.slice A5 (nn+1) C5)) (oh:=.slice A5 (nn+1) C5) (l:=S.all++[s]) ((JC.mono (by intro y hy;left;rw [iq.out];simp [hy])).trans (hus.mono (by intro y hy;left;simp at hy;simp [hy]))) (by simpa using hh5)
  (Bl GK hus (by
   intro y hy hc;simp at hc;subst hc;rcases hb5 y hy with g | g
   ·exact hqA (by rw [<-iq.out];exact g)
   ·omega)) hb5
 have Jb:Bj (q::blk (.slice A nn C)) w3 (w5.setCell ⟨q,2,none⟩ (.slice A5 (nn+1) C5)):=(JC.mono (by intro y hy;left;simp [hy])).trans (hus.mono (by intro y hy;left;simp at hy;simp [hy]));have HH6:=AX H6;have Ik:=Ap Jb hb5;clear H6 Jb hb5 GK hus hh5 JC HP hst1 hst2;obtain ⟨w6,hw6⟩:∃V,V=w5.setCell ⟨q,2,none⟩ (.slice A5 (nn+1) C5):=⟨_,rfl⟩;rw [<-hw6] at HH6 Ik
 have hz:=(Gu.2.upd HK3.1 (by intro hc;exact HXF.out (by rw [RX.out];exact Bz (i:=2) rfl hc))).upd Ik.1 (by
  intro hc;rcases List.mem_cons.1 hc with rfl | hc
  ·exact HXF.out (by rw [RX.out];exact Bz (i:=0) (P:=[qx]) rfl (by simp))
  ·exact HXF.out (by rw [RX.out];exact Bz (i:=3) rfl (by rw [iq.out];exact hc)))
 obtain ⟨z0,z1,z2,z3,z4⟩:=hz.cells5;have hq6:=HH6.out.head.lt;have hx6:=hz.lt;have d0:=HH6.out.head.cell 0;have d0:w6.drew.cell? q=some (.pointer (some h)):=d0;have z0:w6.drew.cell? qx=some (.int .i64 s.x1):=z0;have z1:w6.drew.cell? ⟨qx,1,none⟩=some (.int .i64 s.x2):=z1;have z2:w6.drew.cell? ⟨qx,2,none⟩=some (.int .i64 s.y1):=z2;have z3:w6.drew.cell? ⟨qx,3,none⟩=some (.int .i64 s.y2):=z3;have z4:w6.drew.cell? ⟨qx,4,none⟩=some (.int .u32 (s.id:Int)):=z4;have hqh:q∉Fh:=λhc=>HH6.out.E5 (i:=0) (j:=1) rfl rfl (by omega) q (by simp) hc
 have hxh:qx∉Fh:=λhc=>HXF.out (by rw [RX.out];exact Bz (i:=1) rfl hc)
 have HA:=AX (Xy.out w6.drew Fh (HH6.out.half.upd ((Bj.refl [] w6).drew) (by simp)));clear hz y0 y1 y2 y3 y4 k0 k1 k2 kf hq3 hx3 hqA hi0 hz0 hz1 hz2;go_upto_region 4 with fail
 rw [<-hw6];clear hw6
 go_region_held3 (λw'=>w'.cell? q=some (.pointer (some h))/\w'.cell? qx=some (.int .i64 s.x1)/\w'.cell? ⟨qx,1,none⟩=some (.int .i64 s.x2)/\w'.cell? ⟨qx,2,none⟩=some (.int .i64 s.y1)/\w'.cell? ⟨qx,3,none⟩=some (.int .i64 s.y2)/\w'.cell? ⟨qx,4,none⟩=some (.int .u32 (s.id:Int)))
  (first
   |(exact ⟨(g7.cell (p:=⟨q,0,none⟩) hq6 hqh).trans d0,(g7.cell (p:=⟨qx,0,none⟩) hx6 hxh).trans z0,(g7.cell (p:=⟨qx,1,none⟩) hx6 hxh).trans z1,(g7.cell (p:=⟨qx,2,none⟩) hx6 hxh).trans z2,(g7.cell (p:=⟨qx,3,none⟩) hx6 hxh).trans z3,(g7.cell (p:=⟨qx,4,none⟩) hx6 hxh).trans z4⟩)
   |(exact ⟨d0,z0,z1,z2,z3,z4⟩)
   |go_keep)
  ((go_at_call 73;refine HA.out.mono ?_;rintro e w7 ⟨rfl,hs7⟩;have g7:Bj Fh w6.drew w7:=(by obtain ⟨_,_,g,_⟩:=hs7;exact g)))
 have H6d:=HH6.out.upd ((Bj.refl [] w6).drew) (by intro P hP y hy;simp);obtain ⟨Fh7,H7,QN,lS⟩:=H6d.halves hs7;have HH7:=Aq H7 QN lS;clear H6d H7 QN lS hs7 g7 d0 z0 z1 z2 z3 z4;go_wp2_with fail
 go_ret2
 refine ⟨rfl,?_⟩
 obtain ⟨H7,QN,lS⟩:=HH7.out;have sz3:=HK3.1.size;have sz6:=Ik.1.size;have sz7:w6.drew.heap.size=w6.heap.size:=rfl
 have hP:Rf W w7 (.pointer (some q)) F (bH Bx.id S s):=by
  refine ⟨_,⟨q,_,_,_,_,_,rfl,⟨H7.head,H7.half,by show Gi w7 _ _ (Nm.Nz S.N s.id S.all.length);rw [iq.out];exact H7.dir,H7.all,H7.apart⟩,rfl⟩,?_,?_⟩
  ·refine (HK3.1.mono (λy hy=>.inl (by rw [RX.out];exact Bz (i:=2) rfl hy))).trans ((Ik.1.mono (λy hy=>.inl ?_)).trans (((Bj.refl [] w6).drew.mono (by simp)).trans (QN.mono (λy hy=>.inl (by rw [RX.out];exact Bz (i:=1) rfl hy)))))
   rw [RX.out];rcases List.mem_cons.1 hy with rfl | hy
   ·exact Bz (i:=0) (P:=[y]) rfl (by simp)
   ·exact Bz (i:=3) rfl (by rw [iq.out];exact hy)
  ·intro y hy;rw [RX.out];simp only [E8,List.flatten_cons,List.flatten_nil,List.append_nil,List.mem_append] at hy |-;rcases hy with hy | hy | hy | hy
   ·exact .inl (.inl hy)
   ·rcases lS y hy with g | g
    ·exact .inl (.inr (.inl g))
    ·right;omega
   ·rcases HK3.2 y hy with g | g
    ·exact .inl (.inr (.inr (.inl g)))
    ·have:=eY.out;right;omega
   ·rcases Ik.2 y hy with g | g
    ·exact .inl (.inr (.inr (.inr g)))
    ·right;omega
 exact hP.ahead Gu.1
