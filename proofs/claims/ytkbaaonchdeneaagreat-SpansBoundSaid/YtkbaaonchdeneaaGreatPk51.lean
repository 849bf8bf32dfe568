/- spans.Add. -/
import Derived.Deep.RegionHeld3
import Derived.Deep.DrawnRows
import Derived.Test.YtkbaaonchdeneaaGreatPk50
import Derived.Test.YtkbaaonchdeneaaGreatPk19
set_option maxHeartbeats 8000000
set_option maxRecDepth 100000
namespace Go.Proofs.YtkbaaonchdeneaaGreat.PSp
open Go.RowKit
attribute [local go_sem ↓] Go.wp_at_zero Go.wp_at_succ
open Go.Proofs.YtkbaaonchdeneaaGreat.HSp (IsHalf HStep)
open Go.Proofs.YtkbaaonchdeneaaGreat.Nm (IsNm NmStep Disj pw_at pw_set mem_part flat_set place)
open Go.Proofs.YtkbaaonchdeneaaGreat.Ps
theorem rightC (lo hi id:Int) (w:World):Calls Tryz.prog 82 #[.agg #[.int .i64 lo,.int .i64 hi,.int .u32 id]] w fun e w'=>e=.returned (.bool (decide (lo≤hi)))∧Upd [] w w':=by
 go_enter Tryz.func82,Tryz.ntmps82
 go_wp2_with fail
 go_ret
 exact ⟨rfl,(Upd.refl _ _).alloc _⟩
def mayAdd (S:PSS) (s:Sp):Bool:=decide (s.lo≤s.hi)&&(place S.N s.id).isNone
theorem addNot (tv:Value) (F:List Nat) (S:PSS) (s:Sp) (w:World) (H:IsPs w tv F S) (I:PInv Sp.id S) (ht:S.t<90000) (hmay:mayAdd S s=false) :
 Calls Tryz.prog 27 #[tv,spV s] w fun e w'=>e=.returned (.tuple #[.int .i64 0,.bool false])∧Upd [] w w':=by
 obtain ⟨W,hW,hu0,hq0⟩:=one_newC w #[.int .i64 s.lo,.int .i64 s.hi,.int .u32 (s.id:Int)] 62
 have H:=H.upd hu0 (by simp)
 have hlow:=I.low
 have hal2:=I.alls
 obtain ⟨q,hv,dv,av,Fh,Fd,rfl,H,hF⟩:=H
 obtain ⟨h,rfl⟩:=IsHalf.ptr H.half
 obtain ⟨d,rfl⟩:=IsNm.ptr H.dir
 obtain ⟨A,C,hav⟩:∃A C,av=.slice A S.all.length C:=own_form H.all
 subst hav
 obtain ⟨h0,h1,h2⟩:=H.head.cells3
 obtain ⟨x0,x1,x2⟩:=hq0.cells3
 have hqs:=H.head.lt
 have hxs:=hq0.lt
 have HN:=Lib.hid (fun (w2:World) (hu:Upd [] W w2)=>noneP q h w2 ((hu.cell (p:=⟨q,0,none⟩) hqs (by simp)).trans h0))
 have HU0:=Lib.hid hu0
 unfold spV
 by_cases hr:s.lo≤s.hi
 ·have hp:(place S.N s.id).isSome=true:=by
   unfold mayAdd at hmay
   simp [hr] at hmay
   cases hpl:place S.N s.id with
   |none=>rw [hpl] at hmay;simp at hmay
   |some i=>rfl
  have HP:=Lib.hid (fun (w2:World) (hu:Upd [] W w2)=>Nm.putThere _ Fd S.N s.id S.all.length w2 (H.dir.upd hu (by simp)) I.dir (by have:=hlow.1;omega) hp)
  have HR:=Lib.hid (fun (w2:World)=>rightC s.lo s.hi (s.id:Int) w2)
  rw [decide_eq_true hr] at HR
  have HWD:=Lib.hid hW
  obtain ⟨nn,hnn⟩:∃n,S.all.length=n:=⟨_,rfl⟩
  rw [hnn] at h2 HP
  have nn0:nn<100000:=by omega
  have hd0:W.drew.cell? ⟨q,0,none⟩=some (.pointer (some ⟨h,0,none⟩)):=h0
  have hd1:W.drew.cell? ⟨q,1,none⟩=some (.pointer (some ⟨d,0,none⟩)):=h1
  have hd2:W.drew.cell? ⟨q,2,none⟩=some (.slice A nn C):=h2
  have e0:W.drew.cell? ⟨w.heap.size,0,none⟩=some (.int .i64 s.lo):=x0
  have e1:W.drew.cell? ⟨w.heap.size,1,none⟩=some (.int .i64 s.hi):=x1
  have e2:W.drew.cell? ⟨w.heap.size,2,none⟩=some (.int .u32 (s.id:Int)):=x2
  have hdr:=(Upd.refl [] W).drew
  clear H hF hW hu0 hq0 I hlow hal2 hp hr hmay hnn x0 x1 x2 h0 h1 h2
  go_enter Tryz.func27,Tryz.ntmps27
  go_upto_region 1 with fail
  rw [←HWD.out]
  clear HWD
  generalize w.heap.size=qx at e0 e1 e2 hxs ⊢
  go_region_held3 (fun w'=>Upd [] W w'∧w'.cell? ⟨q,1,none⟩=some (.pointer (some ⟨d,0,none⟩))∧w'.cell? ⟨q,2,none⟩=some (.slice A nn C)∧w'.cell? ⟨qx,0,none⟩=some (.int .i64 s.lo)∧w'.cell? ⟨qx,1,none⟩=some (.int .i64 s.hi)∧w'.cell? ⟨qx,2,none⟩=some (.int .u32 (s.id:Int)))
   (first
    |(exact ⟨hk,(hk.cell (p:=⟨q,1,none⟩) hqs (by simp)).trans hd1,(hk.cell (p:=⟨q,2,none⟩) hqs (by simp)).trans hd2,(hk.cell (p:=⟨qx,0,none⟩) hxs (by simp)).trans e0,(hk.cell (p:=⟨qx,1,none⟩) hxs (by simp)).trans e1,(hk.cell (p:=⟨qx,2,none⟩) hxs (by simp)).trans e2⟩)
    |(exact ⟨hdr,hd1,hd2,e0,e1,e2⟩)
    |go_keep)
   ((
    first
    |(go_at_call 81;refine (HN.out _ hdr).mono ?_;rintro e w1 ⟨rfl,rfl⟩)
    |(go_at_call 82;refine (HR.out _).mono ?_;rintro e w2 ⟨rfl,hu2⟩;have hk:=hdr.trans hu2)
    |(go_at_call 72;refine (HP.out _ hk).mono ?_;rintro e w3 ⟨rfl,hu3⟩;have hk:=hk.trans hu3)))
  go_wp2_with fail
  go_ret2
  exact ⟨rfl,HU0.out.trans hk⟩
 ·have HR:=Lib.hid (fun (w2:World)=>rightC s.lo s.hi (s.id:Int) w2)
  rw [decide_eq_false hr] at HR
  have HWD:=Lib.hid hW
  have hd0:W.drew.cell? ⟨q,0,none⟩=some (.pointer (some ⟨h,0,none⟩)):=h0
  have e0:W.drew.cell? ⟨w.heap.size,0,none⟩=some (.int .i64 s.lo):=x0
  have e1:W.drew.cell? ⟨w.heap.size,1,none⟩=some (.int .i64 s.hi):=x1
  have e2:W.drew.cell? ⟨w.heap.size,2,none⟩=some (.int .u32 (s.id:Int)):=x2
  have hdr:=(Upd.refl [] W).drew
  clear H hF hW hu0 hq0 I hlow hal2 hr hmay x0 x1 x2 h0 h1 h2
  go_enter Tryz.func27,Tryz.ntmps27
  go_upto_region 1 with fail
  rw [←HWD.out]
  clear HWD
  generalize w.heap.size=qx at e0 e1 e2 hxs ⊢
  refine GoT.start [] (fun w'=>Upd [] W w') (by kernel_rfl) ?_ fun hS=>?_
  ·exact hdr
  refine' GoT.mv (i:=0) (oi:=⟨some 6,_,_,_,_,_⟩) rfl (by rfl) ?y1_0 ?_
  case y1_0=>intro w;go_simp<;>with_reducible rfl
  simp only [Act.put,sA,sZ,sS]
  refine GoT.one (i:=1) (o:=⟨some 7,_,_,_,_,_⟩) rfl (by kernel_rfl) fun K hK=>?_
  go_simp
  go_at_call 81
  (with_reducible refine (HN.out _ hS).mono ?_)
  rintro e w1 ⟨rfl,rfl⟩
  refine hK.out _ _ (fun _ h=>?_) ?_
  ·exact h
  clear hK K
  try simp only [Act.put,sA,sZ,sS]
  refine' GoT.mv (i:=2) (oi:=⟨some 8,_,_,_,_,_⟩) rfl (by rfl) ?y1_2 ?_
  case y1_2=>intro w;go_simp<;>with_reducible rfl
  simp only [Act.put,sA,sZ,sS]
  refine' GoT.tk 1 (i:=3) (oi:=⟨some 9,_,_,_,_,_⟩) rfl (by rfl) ?y1_3 ?_
  case y1_3=>intro w hSw;have d0:=(hSw.cell (p:=⟨qx,0,none⟩) hxs (by simp)).trans e0;have d1:=(hSw.cell (p:=⟨qx,1,none⟩) hxs (by simp)).trans e1;have d2:=(hSw.cell (p:=⟨qx,2,none⟩) hxs (by simp)).trans e2;go_simp<;>with_reducible rfl
  simp only [Act.put,sA,sZ,sS]
  refine GoT.one (i:=4) (o:=⟨some 10,_,_,_,_,_⟩) rfl (by kernel_rfl) fun K hK=>?_
  go_simp
  go_at_call 82
  (with_reducible refine (HR.out _).mono ?_)
  rintro e w2 ⟨rfl,hu2⟩
  have hS:=hS.trans hu2
  refine hK.out _ _ (fun _ h=>?_) ?_
  ·exact hS
  clear hK K
  try simp only [Act.put,sA,sZ,sS]
  refine' GoT.mv (i:=5) (oi:=⟨some 11,_,_,_,_,_⟩) rfl (by rfl) ?y1_5 ?_
  case y1_5=>intro w;go_simp<;>with_reducible rfl
  simp only [Act.put,sA,sZ,sS]
  refine' GoT.mv (i:=6) (oi:=⟨some 12,_,_,_,_,_⟩) rfl (by rfl) ?y1_6 ?_
  case y1_6=>intro w;go_simp<;>with_reducible rfl
  simp only [Act.put,sA,sZ,sS]
  refine' GoT.mv (i:=7) (oi:=⟨some 13,_,_,_,_,_⟩) rfl (by rfl) ?y1_7 ?_
  case y1_7=>intro w;go_simp<;>with_reducible rfl
  simp only [Act.put,sA,sZ,sS]
  refine' GoT.move (i:=8) (oi:=⟨some 14,_,_,_,_,_⟩) (v:=_) rfl (by kernel_rfl) (by kernel_rfl) (by kernel_rfl) (fun _ _ _ h=>h) (Or.inr ⟨by rfl,rfl⟩) ?r1_8
  simp only [Act.put,sA,sZ,sS]
  refine' GoT.move (i:=9) (oi:=⟨some 15,_,_,_,_,_⟩) (v:=_) rfl (by kernel_rfl) (by kernel_rfl) (by kernel_rfl) (fun _ _ _ h=>h) (Or.inr ⟨by rfl,rfl⟩) ?r1_9
  simp only [Act.put,sA,sZ,sS]
  refine' GoT.move (i:=10) (oi:=⟨some 16,_,_,_,_,_⟩) (v:=_) rfl (by kernel_rfl) (by kernel_rfl) (by kernel_rfl) (fun _ _ _ h=>h) (Or.inr ⟨by rfl,rfl⟩) ?r1_10
  simp only [Act.put,sA,sZ,sS]
  refine' GoT.move (i:=11) (oi:=⟨some 17,_,_,_,_,_⟩) (v:=_) rfl (by kernel_rfl) (by kernel_rfl) (by kernel_rfl) (fun _ _ _ h=>h) (Or.inr ⟨by rfl,rfl⟩) ?r1_11
  simp only [Act.put,sA,sZ,sS]
  refine' GoT.move (i:=12) (oi:=⟨some 18,_,_,_,_,_⟩) (v:=_) rfl (by kernel_rfl) (by kernel_rfl) (by kernel_rfl) (fun _ _ _ h=>h) (Or.inr ⟨by rfl,rfl⟩) ?r1_12
  simp only [Act.put,sA,sZ,sS]
  refine' GoT.move (i:=13) (oi:=⟨some 19,_,_,_,_,_⟩) (v:=_) rfl (by kernel_rfl) (by kernel_rfl) (by kernel_rfl) (fun _ _ _ h=>h) (Or.inr ⟨by rfl,rfl⟩) ?r1_13
  simp only [Act.put,sA,sZ,sS]
  refine' GoT.move (i:=14) (oi:=⟨some 20,_,_,_,_,_⟩) (v:=_) rfl (by kernel_rfl) (by kernel_rfl) (by kernel_rfl) (fun _ _ _ h=>h) (Or.inr ⟨by rfl,rfl⟩) ?r1_14
  simp only [Act.put,sA,sZ,sS]
  refine' GoT.move (i:=15) (oi:=⟨some 21,_,_,_,_,_⟩) (v:=_) rfl (by kernel_rfl) (by kernel_rfl) (by kernel_rfl) (fun _ _ _ h=>h) (Or.inr ⟨by rfl,rfl⟩) ?r1_15
  simp only [Act.put,sA,sZ,sS]
  refine' GoT.move (i:=16) (oi:=⟨some 22,_,_,_,_,_⟩) (v:=_) rfl (by kernel_rfl) (by kernel_rfl) (by kernel_rfl) (fun _ _ _ h=>h) (Or.inr ⟨by rfl,rfl⟩) ?r1_16
  simp only [Act.put,sA,sZ,sS]
  refine' GoT.move (i:=17) (oi:=⟨some 23,_,_,_,_,_⟩) (v:=_) rfl (by kernel_rfl) (by kernel_rfl) (by kernel_rfl) (fun _ _ _ h=>h) (Or.inr ⟨by rfl,rfl⟩) ?r1_17
  simp only [Act.put,sA,sZ,sS]
  refine' GoT.move (i:=18) (oi:=⟨some 24,_,_,_,_,_⟩) (v:=_) rfl (by kernel_rfl) (by kernel_rfl) (by kernel_rfl) (fun _ _ _ h=>h) (Or.inr ⟨by rfl,rfl⟩) ?r1_18
  simp only [Act.put,sA,sZ,sS]
  refine GoT.one (i:=19) (o:=⟨some 25,_,_,_,_,_⟩) rfl (by kernel_rfl) fun K hK=>?_
  rw [if_neg (by simp [Region.wanted,yielded])]
  refine hK.out _ _ (fun _ h=>?_) ?_
  ·exact h
  clear hK K
  try simp only [Act.put,sA,sZ,sS]
  refine' GoT.move (i:=20) (oi:=⟨some 26,_,_,_,_,_⟩) (v:=_) rfl (by kernel_rfl) (by kernel_rfl) (by kernel_rfl) (fun _ _ _ h=>h) (Or.inr ⟨by rfl,rfl⟩) ?r1_20
  simp only [Act.put,sA,sZ,sS]
  refine' GoT.mv (i:=21) (oi:=⟨some 27,_,_,_,_,_⟩) rfl (by rfl) ?y1_21 ?_
  case y1_21=>intro w;go_simp<;>with_reducible rfl
  simp only [Act.put,sA,sZ,sS]
  refine GoT.done (by kernel_rfl) ?_
  go_wp2_with fail
  go_ret2
  exact ⟨rfl,HU0.out.trans hS⟩
theorem good_add {l:List Sp} (h:HSp.Good l) {s:Sp} (h1:s.in64) (h2:s.lo≤s.hi) (h3:∀u∈l,u.id≠s.id):HSp.Good (l++[s]):=by
 obtain ⟨g1,g2⟩:=rightS_iff.1 h.right
 refine ⟨rightS_iff.2 ⟨?_,?_⟩,?_⟩
 ·intro u hu
  rcases List.mem_append.1 hu with hu | hu
  ·exact g1 u hu
  ·simp at hu;subst hu;exact h2
 ·rw [List.map_append,List.nodup_append]
  refine ⟨g2,by simp,?_⟩
  intro a ha b hb
  obtain ⟨u,hu,rfl⟩:=List.mem_map.1 ha
  simp at hb
  rw [hb]
  exact h3 u hu
 ·intro u hu
  rcases List.mem_append.1 hu with hu | hu
  ·exact h.in64 u hu
  ·simp at hu;subst hu;exact h1
theorem lvs_le {S:PSS} (I:PInv Sp.id S):(lvs S).length≤S.t:=by
 have h1:=live_len S.H.al S.H.cs
 have h2:=Ps.HInv.len I.half
 have h3:=I.al
 unfold lvs
 omega
def AddOk (w:World) (tv:Value) (F:List Nat) (S:PSS) (s:Sp) (e:Ending) (w':World):Prop:=
 e=.returned (.tuple #[.int .i64 ((2 ^ firstE (setB S.H.cs):Nat):Int),.bool true])∧PStep w w' tv F (addP Sp.id S s)
theorem addOne (tv:Value) (F:List Nat) (S:PSS) (s:Sp) (w:World) (H:IsPs w tv F S) (I:PInv Sp.id S) (hg:HSp.Good (lvs S)) (ht:S.t<999) (hs:s.in64) (hmay:mayAdd S s=true) :
 Calls Tryz.prog 27 #[tv,spV s] w (AddOk w tv F S s):=by
 have hF0:=H.lt
 obtain ⟨W,hW,hu0,hq0⟩:=one_newC w #[.int .i64 s.lo,.int .i64 s.hi,.int .u32 (s.id:Int)] 62
 have H:=H.upd hu0 (by simp)
 have hlow:=I.low
 have hal2:=I.alls
 obtain ⟨q,hv,dv,av,Fh,Fd,rfl,H,hF⟩:=H
 obtain ⟨h,rfl⟩:=IsHalf.ptr H.half
 obtain ⟨d,rfl⟩:=IsNm.ptr H.dir
 obtain ⟨A,C,hav⟩:∃A C,av=.slice A S.all.length C:=own_form H.all
 subst hav
 obtain ⟨h0,h1,h2⟩:=H.head.cells3
 obtain ⟨x0,x1,x2⟩:=hq0.cells3
 have hqs:=H.head.lt
 have hxs:=hq0.lt
 have HN:=Lib.hid (fun (w2:World) (hu:Upd [] W w2)=>noneP q h w2 ((hu.cell (p:=⟨q,0,none⟩) hqs (by simp)).trans h0))
 unfold spV AddOk
 have hmay':=hmay
 unfold mayAdd at hmay'
 rw [Bool.and_eq_true] at hmay'
 have hr:s.lo≤s.hi:=by simpa using hmay'.1
 have hp:place S.N s.id=none:=by simpa using hmay'.2
 have hnew:=(I.none s.id).1 hp
 have hgood:=good_add hg hs hr hnew
 have hmp:S.H.mp.lookup s=none:=(mp_none I.half s).2 fun hm=>hnew s hm rfl
 have hlv:=lvs_le I
 have hcs:=Ps.HInv.len I.half
 have hal:=I.al
 have hwk:=I.wk
 have HP:=Lib.hid (fun (w2:World) (hu:Upd [] W w2)=>Nm.putFree _ Fd S.N s.id S.all.length w2 (H.dir.upd hu (by simp)) I.dir (by have:=hlow.1;omega) (by have:=hlow.2;omega) hp)
 have HADD:=Lib.hid (fun (w2:World) (Fh2:List Nat) (hh:IsHalf w2 (.pointer (some ⟨h,0,none⟩)) Fh2 S.H)=>HSp.addH _ Fh2 S.H s w2 hh I.half hs hmp (by omega) (by omega) (by omega) hgood (by show (lvs S).length+1≤1000;omega))
 have HR:=Lib.hid (fun (w2:World)=>rightC s.lo s.hi (s.id:Int) w2)
 rw [decide_eq_true hr] at HR
 have HWD:=Lib.hid hW
 obtain ⟨nn,hnn⟩:∃n,S.all.length=n:=⟨_,rfl⟩
 rw [hnn] at h2 HP
 have nn0:nn<100000:=by omega
 have hd0:W.drew.cell? ⟨q,0,none⟩=some (.pointer (some ⟨h,0,none⟩)):=h0
 have hd1:W.drew.cell? ⟨q,1,none⟩=some (.pointer (some ⟨d,0,none⟩)):=h1
 have hd2:W.drew.cell? ⟨q,2,none⟩=some (.slice A nn C):=h2
 have e0:W.drew.cell? ⟨w.heap.size,0,none⟩=some (.int .i64 s.lo):=x0
 have e1:W.drew.cell? ⟨w.heap.size,1,none⟩=some (.int .i64 s.hi):=x1
 have e2:W.drew.cell? ⟨w.heap.size,2,none⟩=some (.int .u32 (s.id:Int)):=x2
 have hdr:=(Upd.refl [] W).drew
 have hqF:q∉Fd:=fun hc=>H.dis (i:=0) (j:=2) rfl rfl (by omega) q (by simp) hc
 have hxF:w.heap.size∉F:=fun hc=>Nat.lt_irrefl _ (hF0 _ hc)
 have hxd:w.heap.size∉Fd:=fun hc=>hxF (by rw [hF];exact mem_part (i:=2) rfl hc)
 have HXF:=Lib.hid hxF
 have HH:=Lib.hid H
 have HFE:=Lib.hid hF
 have HNN:=Lib.hid hnn
 have HU0:=Lib.hid (And.intro hu0 hq0)
 clear H hF hW hu0 hq0 I hlow hal2 hp hr hmay hmay' hnn x0 x1 x2 h0 h1 h2 hF0 hg hnew hgood hmp hlv hcs hal hwk hxF hs ht
 go_enter Tryz.func27,Tryz.ntmps27
 go_upto_region 1 with fail
 rw [←HWD.out]
 clear HWD
 obtain ⟨qx,hqx⟩:∃k,w.heap.size=k:=⟨_,rfl⟩
 rw [hqx] at e0 e1 e2 hxs hxd HXF HU0 ⊢
 have HQX:=Lib.hid hqx
 clear hqx
 go_region_held3 (fun w'=>Upd Fd W w'∧w'.cell? ⟨q,1,none⟩=some (.pointer (some ⟨d,0,none⟩))∧w'.cell? ⟨q,2,none⟩=some (.slice A nn C)∧w'.cell? ⟨qx,0,none⟩=some (.int .i64 s.lo)∧w'.cell? ⟨qx,1,none⟩=some (.int .i64 s.hi)∧w'.cell? ⟨qx,2,none⟩=some (.int .u32 (s.id:Int)))
  (first
   |(exact ⟨hk4,(hk4.cell (p:=⟨q,1,none⟩) hqs hqF).trans hd1,(hk4.cell (p:=⟨q,2,none⟩) hqs hqF).trans hd2,(hk4.cell (p:=⟨qx,0,none⟩) hxs hxd).trans e0,(hk4.cell (p:=⟨qx,1,none⟩) hxs hxd).trans e1,(hk4.cell (p:=⟨qx,2,none⟩) hxs hxd).trans e2⟩)
   |(exact ⟨hk.mono (by simp),(hk.cell (p:=⟨q,1,none⟩) hqs (by simp)).trans hd1,(hk.cell (p:=⟨q,2,none⟩) hqs (by simp)).trans hd2,(hk.cell (p:=⟨qx,0,none⟩) hxs (by simp)).trans e0,(hk.cell (p:=⟨qx,1,none⟩) hxs (by simp)).trans e1,(hk.cell (p:=⟨qx,2,none⟩) hxs (by simp)).trans e2⟩)
   |(exact ⟨hdr.mono (by simp),hd1,hd2,e0,e1,e2⟩)
   |go_keep)
  ((
   first
   |(go_at_call 81;refine (HN.out _ hdr).mono ?_;rintro e w1 ⟨rfl,rfl⟩)
   |(go_at_call 82;refine (HR.out _).mono ?_;rintro e w2 ⟨rfl,hu2⟩;have hk:=hdr.trans hu2)
   |(go_at_call 72;refine (HP.out _ hk).mono ?_;rintro e w3 ⟨rfl,hst3⟩;have hk4:=(hk.mono (G:=Fd) (by simp)).trans (show Upd Fd _ w3 from by obtain ⟨_,_,g,_⟩:=hst3;exact g))))
 have H2:=HH.out.upd hk (by intro P hP y hy;simp)
 obtain ⟨Fd3,H3,hu3,hF3⟩:=H2.dirs hst3
 have hk3:Upd Fd W w3:=hk4
 obtain ⟨y0,y1,y2⟩:=(HU0.out.2.upd hk3 hxd).cells3
 obtain ⟨k0,k1,k2⟩:=H3.head.cells3
 have kf:=H3.head.frozen 2
 have hq3:=H3.head.lt
 have hx3:=(HU0.out.2.upd hk3 hxd).lt
 have hqA:q∉blk (.slice A nn C):=fun hc=>H3.dis (i:=0) (j:=3) rfl rfl (by omega) q (by simp) (by rw [←HNN.out] at hc;exact hc)
 have hrw:w3.ownsRow 0 62 3 (.slice A nn C) nn (KSp.all S.all):=by have:=H3.all;unfold Kind.row at this;rw [←HNN.out];exact this
 have HRW:=Lib.hid (owns_drew hrw)
 have HH3:=Lib.hid H3
 have HK3:=Lib.hid (And.intro hk3 hF3)
 have HSZ:=Lib.hid hk.size
 obtain ⟨i0,hi0,hz0,hz1,hz2⟩:=info_parts HSp.info_span
 rw [HNN.out] at k2
 clear hrw H2 H3 hu3 hF3 hk3 hst3 hk4 hk hd0 hd1 hd2 e0 e1 e2 hdr hu2 hqs hxs hqF hxd
 go_upto_region 3 with fail
 refine GoT.start [7,8,9,10] (fun w'=>Upd [] w3 w') (by kernel_rfl) ?_ fun hS=>?_
 ·exact (Upd.refl _ _).drew
 refine' GoT.mv (i:=0) (oi:=⟨some 28,_,_,_,_,_⟩) rfl (by rfl) ?y3_0 ?_
 case y3_0=>intro w;go_simp<;>with_reducible rfl
 simp only [Act.put,sA,sZ,sS]
 refine' GoT.mv (i:=1) (oi:=⟨some 29,_,_,_,_,_⟩) rfl (by rfl) ?y3_1 ?_
 case y3_1=>intro w;go_simp<;>with_reducible rfl
 simp only [Act.put,sA,sZ,sS]
 refine' GoT.mv (i:=2) (oi:=⟨some 30,_,_,_,_,_⟩) rfl (by rfl) ?y3_2 ?_
 case y3_2=>intro w;go_simp<;>with_reducible rfl
 simp only [Act.put,sA,sZ,sS]
 refine' GoT.mv (i:=3) (oi:=⟨some 31,_,_,_,_,_⟩) rfl (by rfl) ?y3_3 ?_
 case y3_3=>intro w;go_simp<;>with_reducible rfl
 simp only [Act.put,sA,sZ,sS]
 refine' GoT.tk 2 (i:=4) (oi:=⟨some 32,_,_,_,_,_⟩) rfl (by rfl) ?y3_4 ?_
 case y3_4=>intro w hSw;have e9:=(hSw.cell (p:=⟨q,2,none⟩) hq3 (by simp)).trans k2;go_simp<;>with_reducible rfl
 simp only [Act.put,sA,sZ,sS]
 refine' GoT.tk 2 (i:=5) (oi:=⟨some 33,_,_,_,_,_⟩) rfl (by rfl) ?y3_5 ?_
 case y3_5=>intro w hSw;have e8:=(hSw.cell (p:=⟨qx,0,none⟩) hx3 (by simp)).trans y0;have e7:=(hSw.cell (p:=⟨qx,1,none⟩) hx3 (by simp)).trans y1;have e6:=(hSw.cell (p:=⟨qx,2,none⟩) hx3 (by simp)).trans y2;go_simp<;>with_reducible rfl
 simp only [Act.put,sA,sZ,sS]
 refine GoT.one (i:=6) (o:=⟨some 34,_,_,_,_,_⟩) rfl (by kernel_rfl) fun K hK=>?_
 go_simp
 refine hK.out _ _ (fun _ h=>?_) ?_
 ·exact h.alloc _
 clear hK K
 try simp only [Act.put,sA,sZ,sS]
 refine GoT.one (i:=7) (o:=⟨some 35,_,_,_,_,_⟩) rfl (by kernel_rfl) fun K hK=>?_
 rw [if_pos (by simp [Region.wanted])]
 refine wp_app _ _ _ 56 (by rfl) 0 62 i0 (.agg #[.int .i64 0,.int .i64 0,.int .u32 0]) 3 24 Tryz.underlying56 hi0 hz0 hz1 hz2 rfl (by decide) (.slice A nn C) nn (KSp.all S.all) (by rfl) (HRW.out.alloc _) _ 1 [.int .i64 s.lo,.int .i64 s.hi,.int .u32 (s.id:Int)] (by rfl) (sees_lit w3.drew #[.int .i64 s.lo,.int .i64 s.hi,.int .u32 (s.id:Int)] 62 3 1 rfl (by decide)) (by simp [Value.oneCell']) (by unfold maxLen;omega) (by omega) (Nat.zero_le _) ?_
 intro A5 C5 w5 HP
 have hst1:w5.cell? ⟨q,2,none⟩=some (.slice A nn C):=by
  refine ((HP.upd).cell (p:=⟨q,2,none⟩) (by simp;exact Nat.lt_succ_of_lt hq3) hqA).trans ?_
  show (w3.alloc _).cell? ⟨q,2,none⟩=_
  rw [World.cell?_alloc_past _ _ _ hq3]
  exact k2
 have hst2:w5.frozen? ⟨q,2,none⟩=false:=by
  refine ((HP.upd).frozen (p:=⟨q,2,none⟩) (by simp;exact Nat.lt_succ_of_lt hq3) hqA).trans ?_
  show (w3.alloc _).frozen? ⟨q,2,none⟩=_
  rw [World.frozen?_alloc_past _ _ _ hq3]
  exact kf
 refine hK.out _ _ (fun h=>(by cases h)) ?_
 clear hK K
 try simp only [Act.put,sA,sZ,sS]
 refine' GoT.mv (i:=8) (oi:=⟨some 36,_,_,_,_,_⟩) rfl (by rfl) ?y3_8 ?_
 case y3_8=>intro w;go_simp<;>with_reducible rfl
 simp only [Act.put,sA,sZ,sS]
 refine' GoT.mv (i:=9) (oi:=⟨some 37,_,_,_,_,_⟩) rfl (by rfl) ?y3_9 ?_
 case y3_9=>intro w;go_simp<;>with_reducible rfl
 simp only [Act.put,sA,sZ,sS]
 refine GoT.one (i:=10) (o:=⟨none,_,_,_,_,_⟩) rfl (by kernel_rfl) fun K hK=>?_
 go_simp
 refine hK.out _ _ (fun h=>(by cases h)) ?_
 clear hK K
 try simp only [Act.put,sA,sZ,sS]
 refine GoT.done (by kernel_rfl) ?_
 have hup5:Upd (blk (.slice A nn C)) w3 w5:=((Upd.refl _ w3).drew.alloc _).trans HP.upd
 have hh5:=(HH3.out.head.upd hup5 hqA).set 2 (.slice A5 (nn+1) C5)
 have hus:Upd [q] w5 (w5.setCell ⟨q,2,none⟩ (.slice A5 (nn+1) C5)):=(Upd.refl _ _).setCell (p:=⟨q,2,none⟩) (.inl (by simp)) _
 have hb5:∀y∈blk (.slice A5 (nn+1) C5),y∈blk (.slice A S.all.length C)∨w3.heap.size≤y:=by
  intro y hy
  rcases HP.at with g | g
  ·rw [g] at hy;exact .inl (by rw [HNN.out];exact hy)
  ·rw [g] at hy;simp at hy;right;omega
 have hrow5:KSp.row w5 0 (.slice A5 (nn+1) C5) (S.all++[s]):=by
  have:=HP.own
  unfold Kind.row
  rw [List.length_append,HNN.out,Kind.all_app]
  exact this
 have H6:=HH3.out.kept (w':=w5.setCell ⟨q,2,none⟩ (.slice A5 (nn+1) C5)) (av':=.slice A5 (nn+1) C5) (l:=S.all++[s]) ((hup5.mono (by intro y hy;left;rw [HNN.out];simp [hy])).trans (hus.mono (by intro y hy;left;simp at hy;simp [hy]))) (by simpa using hh5)
  (own_upd hrow5 hus (by
   intro y hy hc
   simp at hc
   subst hc
   rcases hb5 y hy with g | g
   ·exact hqA (by rw [←HNN.out];exact g)
   ·omega)) hb5
 have hu6:Upd (q::blk (.slice A nn C)) w3 (w5.setCell ⟨q,2,none⟩ (.slice A5 (nn+1) C5)):=(hup5.mono (by intro y hy;left;simp [hy])).trans (hus.mono (by intro y hy;left;simp at hy;simp [hy]))
 have HH6:=Lib.hid H6
 have HU6:=Lib.hid (And.intro hu6 hb5)
 clear H6 hu6 hb5 hrow5 hus hh5 hup5 HP hst1 hst2
 obtain ⟨w6,hw6⟩:∃V,V=w5.setCell ⟨q,2,none⟩ (.slice A5 (nn+1) C5):=⟨_,rfl⟩
 rw [←hw6] at HH6 HU6
 have hz:=(HU0.out.2.upd HK3.out.1 (by intro hc;exact HXF.out (by rw [HFE.out];exact mem_part (i:=2) rfl hc))).upd HU6.out.1 (by
  intro hc
  rcases List.mem_cons.1 hc with rfl | hc
  ·exact HXF.out (by rw [HFE.out];exact mem_part (i:=0) (P:=[qx]) rfl (by simp))
  ·exact HXF.out (by rw [HFE.out];exact mem_part (i:=3) rfl (by rw [HNN.out];exact hc)))
 obtain ⟨z0,z1,z2⟩:=hz.cells3
 have hq6:=HH6.out.head.lt
 have hx6:=hz.lt
 have d0:=HH6.out.head.cell 0
 have d0:w6.drew.cell? ⟨q,0,none⟩=some (.pointer (some ⟨h,0,none⟩)):=d0
 have z0:w6.drew.cell? ⟨qx,0,none⟩=some (.int .i64 s.lo):=z0
 have z1:w6.drew.cell? ⟨qx,1,none⟩=some (.int .i64 s.hi):=z1
 have z2:w6.drew.cell? ⟨qx,2,none⟩=some (.int .u32 (s.id:Int)):=z2
 have hqh:q∉Fh:=fun hc=>HH6.out.dis (i:=0) (j:=1) rfl rfl (by omega) q (by simp) hc
 have hxh:qx∉Fh:=fun hc=>HXF.out (by rw [HFE.out];exact mem_part (i:=1) rfl hc)
 have HA:=Lib.hid (HADD.out w6.drew Fh (HH6.out.half.upd ((Upd.refl [] w6).drew) (by simp)))
 clear hz y0 y1 y2 k0 k1 k2 kf hq3 hx3 hqA hi0 hz0 hz1 hz2
 go_upto_region 4 with fail
 rw [←hw6]
 clear hw6
 go_region_held3 (fun w'=>w'.cell? ⟨q,0,none⟩=some (.pointer (some ⟨h,0,none⟩))∧w'.cell? ⟨qx,0,none⟩=some (.int .i64 s.lo)∧w'.cell? ⟨qx,1,none⟩=some (.int .i64 s.hi)∧w'.cell? ⟨qx,2,none⟩=some (.int .u32 (s.id:Int)))
  (first
   |(exact ⟨(g7.cell (p:=⟨q,0,none⟩) hq6 hqh).trans d0,(g7.cell (p:=⟨qx,0,none⟩) hx6 hxh).trans z0,(g7.cell (p:=⟨qx,1,none⟩) hx6 hxh).trans z1,(g7.cell (p:=⟨qx,2,none⟩) hx6 hxh).trans z2⟩)
   |(exact ⟨d0,z0,z1,z2⟩)
   |go_keep)
  ((go_at_call 83;refine HA.out.mono ?_;rintro e w7 ⟨rfl,hs7⟩;have g7:Upd Fh w6.drew w7:=(by obtain ⟨_,_,g,_⟩:=hs7;exact g)))
 have H6d:=HH6.out.upd ((Upd.refl [] w6).drew) (by intro P hP y hy;simp)
 obtain ⟨Fh7,H7,hu7,hF7⟩:=H6d.halves hs7
 have HH7:=Lib.hid (And.intro H7 (And.intro hu7 hF7))
 clear H6d H7 hu7 hF7 hs7 g7 d0 z0 z1 z2
 go_wp2_with fail
 go_ret2
 refine ⟨rfl,?_⟩
 obtain ⟨H7,hu7,hF7⟩:=HH7.out
 have sz3:=HK3.out.1.size
 have sz6:=HU6.out.1.size
 have sz7:w6.drew.heap.size=w6.heap.size:=rfl
 have hP:PStep W w7 (.pointer (some ⟨q,0,none⟩)) F (addP Sp.id S s):=by
  refine ⟨_,⟨q,_,_,_,_,_,rfl,⟨H7.head,H7.half,by show IsNm w7 _ _ (Nm.putS S.N s.id S.all.length);rw [HNN.out];exact H7.dir,H7.all,H7.apart⟩,rfl⟩,?_,?_⟩
  ·refine (HK3.out.1.mono (fun y hy=>.inl (by rw [HFE.out];exact mem_part (i:=2) rfl hy))).trans ((HU6.out.1.mono (fun y hy=>.inl ?_)).trans (((Upd.refl [] w6).drew.mono (by simp)).trans (hu7.mono (fun y hy=>.inl (by rw [HFE.out];exact mem_part (i:=1) rfl hy)))))
   rw [HFE.out]
   rcases List.mem_cons.1 hy with rfl | hy
   ·exact mem_part (i:=0) (P:=[y]) rfl (by simp)
   ·exact mem_part (i:=3) rfl (by rw [HNN.out];exact hy)
  ·intro y hy
   rw [HFE.out]
   simp only [partsP,List.flatten_cons,List.flatten_nil,List.append_nil,List.mem_append] at hy ⊢
   rcases hy with hy | hy | hy | hy
   ·exact .inl (.inl hy)
   ·rcases hF7 y hy with g | g
    ·exact .inl (.inr (.inl g))
    ·right;omega
   ·rcases HK3.out.2 y hy with g | g
    ·exact .inl (.inr (.inr (.inl g)))
    ·have:=HSZ.out;right;omega
   ·rcases HU6.out.2 y hy with g | g
    ·exact .inl (.inr (.inr (.inr g)))
    ·right;omega
 exact hP.ahead HU0.out.1
end Go.Proofs.YtkbaaonchdeneaaGreat.PSp
