/- Things with names that come and go, plainly: a Half of them, the directory of their names, all there were. names' Put, of a new name. Printed by genNmJ.py. -/
import Derived.WalkMore
import Derived.Test.YtkbaaonchdeneaaGreatPk47
namespace Go.Proofs.YtkbaaonchdeneaaGreat.Ps
open Go.Proofs.YtkbaaonchdeneaaGreat.Nm (NS NInv Low place putS N0)
structure PS (α:Type) where
 H:HS α
 N:NS
 all:List α
 t:Nat
section
variable {α:Type} [DecidableEq α]
def lvs (S:PS α):List α:=live S.H.al S.H.cs
def get (S:PS α) (x:Nat):Option α:=(place S.N x).bind fun i=>S.all[i]?
structure PInv (nm:α→Nat) (S:PS α):Prop where
 half:HInv S.H
 dir:NInv S.N
 low:Low S.t S.N
 al:S.H.al.length≤S.t
 wk:S.H.wk≤100000*S.t
 alls:S.all.length≤S.t
 tos:∀x i,place S.N x=some i→∃s∈lvs S,S.all[i]? = some s∧nm s=x
 ofs:∀s∈lvs S,∃i,place S.N (nm s)=some i∧S.all[i]? = some s
 names:((lvs S).map nm).Nodup
omit [DecidableEq α] in
theorem HInv.len {S:HS α} (I:HInv S):S.cs.length≤S.al.length:=by
 have h2:(S.cs.map (·.2)).Nodup:=I.nums.imp (fun h=>Nat.ne_of_lt h)
 have h1:(S.cs.map (·.2)).length≤(List.range S.al.length).length:=by
  refine List.Nodup.length_le_of_subset h2 ?_
  intro k hk
  obtain ⟨y,hy,rfl⟩:=List.mem_map.1 hk
  exact List.mem_range.2 (I.lt y hy)
 simpa using h1
omit [DecidableEq α] in
theorem name_inj {nm:α→Nat} {l:List α} (h:(l.map nm).Nodup) {a b:α} (ha:a∈l) (hb:b∈l) (e:nm a=nm b):a=b:=by
 induction l with
 |nil=>cases ha
 |cons c l ih=>
  rw [List.map_cons,List.nodup_cons] at h
  rcases List.mem_cons.1 ha with e1 | ha
  ·rcases List.mem_cons.1 hb with e2 | hb
   ·rw [e1,e2]
   ·exact (h.1 (List.mem_map.2 ⟨b,hb,by rw [←e,e1]⟩)).elim
  ·rcases List.mem_cons.1 hb with e2 | hb
   ·exact (h.1 (List.mem_map.2 ⟨a,ha,by rw [e,e2]⟩)).elim
   ·exact ih h.2 ha hb
omit [DecidableEq α] in
theorem PInv.get {nm:α→Nat} {S:PS α} (I:PInv nm S) (x:Nat) (s:α):get S x=some s↔s∈lvs S∧nm s=x:=by
 unfold Ps.get
 constructor
 ·intro h
  rw [Option.bind_eq_some_iff] at h
  obtain ⟨i,h1,h2⟩:=h
  obtain ⟨t,ht,h3,h4⟩:=I.tos x i h1
  rw [h2] at h3
  cases h3
  exact ⟨ht,h4⟩
 ·rintro ⟨h1,rfl⟩
  obtain ⟨i,h2,h3⟩:=I.ofs s h1
  rw [h2]
  exact h3
omit [DecidableEq α] in
theorem PInv.none {nm:α→Nat} {S:PS α} (I:PInv nm S) (x:Nat):place S.N x=none↔∀s∈lvs S,nm s≠x:=by
 constructor
 ·intro h s hs e
  obtain ⟨i,h2,-⟩:=I.ofs s hs
  rw [e,h] at h2
  cases h2
 ·intro h
  cases hp:place S.N x with
  |none=>rfl
  |some i=>
   obtain ⟨t,ht,-,h4⟩:=I.tos x i hp
   exact (h t ht h4).elim
theorem mp_none {S:HS α} (I:HInv S) (s:α):S.mp.lookup s=none↔s∉live S.al S.cs:=by
 have h:=I.core.there s
 rw [←view_all]
 have e:s∈viewAll (view S)↔(s,true)∈view S:=by
  unfold viewAll
  rw [List.mem_map]
  constructor
  ·rintro ⟨⟨a,b⟩,hab,rfl⟩
   rw [List.mem_filter] at hab
   obtain ⟨h1,h2⟩:=hab
   dsimp only at h2
   subst h2
   exact h1
  ·intro h
   exact ⟨(s,true),List.mem_filter.2 ⟨h,rfl⟩,rfl⟩
 rw [e]
 constructor
 ·intro hn hm
  rw [hn] at h
  simp [hm] at h
 ·intro hm
  cases hl:S.mp.lookup s with
  |none=>rfl
  |some v=>
   rw [hl] at h
   simp [hm] at h
theorem mp_some {S:HS α} (I:HInv S) {s:α} (h:s∈live S.al S.cs):∃k:Nat,S.mp.lookup s=some (k:Int):=by
 cases hl:S.mp.lookup s with
 |none=>exact ((mp_none I s).1 hl h).elim
 |some v=>
  obtain ⟨n,rfl,-⟩:=I.core.num hl
  exact ⟨n,rfl⟩
def P0:PS α:={ H:={ cs:=[],al:=[],lv:=[],tr:=[],mp:=[],wk:=0 },N:=N0,all:=[],t:=0 }
def addP (nm:α→Nat) (S:PS α) (s:α):PS α:={ H:=addS S.H s,N:=putS S.N (nm s) S.all.length,all:=S.all++[s],t:=S.t+1 }
theorem lvs_add {nm:α→Nat} {S:PS α} (I:PInv nm S) (s:α):lvs (addP nm S s)=lvs S++[s]:=live_addS I.half s
theorem add_inv {nm:α→Nat} {S:PS α} (I:PInv nm S) (s:α) (hp:place S.N (nm s)=none) (ht:S.t<90000):PInv nm (addP nm S s):=by
 have hn:=(I.none (nm s)).1 hp
 have hm:S.H.mp.lookup s=none:=(mp_none I.half s).2 fun h=>hn s h rfl
 have hlen:=HInv.len I.half
 have hal:=I.al
 have hal2:=I.alls
 have hg:2 ^ firstE (setB S.H.cs)≤S.H.cs.length+1:=by
  rw [←(gath_set S.H.cs (s,S.H.al.length)).2]
  rw [(gath_set S.H.cs (s,S.H.al.length)).1,List.length_append,List.length_drop];simp
 refine ⟨I.half.add s hm (by omega),Nm.put_inv I.dir _ hp,Nm.put_low I.dir I.low ht _ _,?_,?_,?_,?_,?_,?_⟩
 ·show (S.H.al++[true]).length≤S.t+1
  rw [List.length_append];simp;omega
 ·show S.H.wk+2 ^ firstE (setB S.H.cs)≤100000*(S.t+1)
  have:=I.wk
  omega
 ·show (S.all++[s]).length≤S.t+1
  rw [List.length_append];simp;omega
 ·intro x i h
  have h':place (putS S.N (nm s) S.all.length) x=some i:=h
  rw [Nm.put_place I.dir] at h'
  rw [lvs_add I]
  show ∃s'∈lvs S++[s],(S.all++[s])[i]? = some s'∧nm s'=x
  split at h'
  ·rename_i e
   cases h'
   exact ⟨s,by simp,by simp,e.symm⟩
  ·obtain ⟨t,h1,h2,h3⟩:=I.tos x i h'
   exact ⟨t,by simp [h1],by rw [List.getElem?_append_left (List.getElem?_eq_some_iff.1 h2).1];exact h2,h3⟩
 ·intro u hu
  rw [lvs_add I] at hu
  show ∃i,place (putS S.N (nm s) S.all.length) (nm u)=some i∧(S.all++[s])[i]? = some u
  rw [Nm.put_place I.dir]
  rcases List.mem_append.1 hu with h | h
  ·rw [if_neg (hn u h)]
   obtain ⟨i,h1,h2⟩:=I.ofs u h
   exact ⟨i,h1,by rw [List.getElem?_append_left (List.getElem?_eq_some_iff.1 h2).1];exact h2⟩
  ·simp at h
   subst h
   rw [if_pos rfl]
   exact ⟨_,rfl,by simp⟩
 ·rw [lvs_add I,List.map_append,List.nodup_append]
  refine ⟨I.names,by simp,?_⟩
  intro a ha b hb
  obtain ⟨u,hu,rfl⟩:=List.mem_map.1 ha
  simp at hb
  rw [hb]
  exact hn u hu
def dropP (S:PS α) (x:Nat) (s:α) (k:Nat):PS α:={ H:=dropS S.H s k,N:=Nm.dropS S.N x,all:=S.all,t:=S.t+1 }
theorem viewAll_kill (V:List (α×Bool)) (s:α):viewAll (viewKill V s)=(viewAll V).filter fun y=>y != s:=by
 unfold viewAll viewKill
 induction V with
 |nil=>rfl
 |cons p V ih=>
  rcases p with ⟨a,b⟩
  simp only [List.map_cons] at ih ⊢
  by_cases e:a=s
  ·subst e
   rw [if_pos rfl,List.filter_cons,if_neg (by simp),ih]
   cases b
   ·rw [List.filter_cons,if_neg (by simp)]
   ·rw [List.filter_cons,if_pos rfl,List.map_cons,List.filter_cons,if_neg (by simp)]
  ·rw [if_neg e]
   cases b
   ·rw [List.filter_cons,if_neg (by simp),List.filter_cons,if_neg (by simp),ih]
   ·rw [List.filter_cons,if_pos rfl,List.map_cons,List.filter_cons,if_pos rfl,List.map_cons,List.filter_cons,if_pos (by simpa using e),ih]
theorem viewAll_drop (V:List (α×Bool)) (s:α):viewAll (viewDrop V s)=(viewAll V).filter fun y=>y != s:=by
 unfold viewDrop
 split
 ·rw [←viewAll_kill]
  generalize viewAll (viewKill V s)=L
  unfold viewAll
  induction L with
  |nil=>rfl
  |cons a L ih=>
   rw [List.map_cons,List.filter_cons,if_pos rfl,List.map_cons,ih]
 ·exact viewAll_kill V s
theorem lvs_drop0 {S:HS α} (I:HInv S) {s:α} {k:Nat} (hk:S.mp.lookup s=some (k:Int)):live (dropS S s k).al (dropS S s k).cs=(live S.al S.cs).filter fun y=>y != s:=by
 rw [←view_all,view_drop I hk,viewAll_drop,view_all]
theorem lvs_drop {nm:α→Nat} {S:PS α} (I:PInv nm S) {x k:Nat} {s:α} (hs:get S x=some s) (hk:S.H.mp.lookup s=some (k:Int)):lvs (dropP S x s k)=(lvs S).filter fun y=>nm y != x:=by
 show live (dropS S.H s k).al (dropS S.H s k).cs=_
 rw [lvs_drop0 I.half hk]
 obtain ⟨h1,h2⟩:=(I.get x s).1 hs
 refine List.filter_congr fun y hy=>?_
 have hy':y∈lvs S:=hy
 by_cases e:y=s
 ·subst e;simp [h2]
 ·have:nm y≠x:=fun h=>e (name_inj I.names hy' h1 (h.trans h2.symm))
  have g1:(y != s)=true:=by simpa using e
  have g2:(nm y != x)=true:=by simpa using this
  rw [g1,g2]
theorem drop_al {S:HS α} (s:α) (k:Nat):(dropS S s k).al.length=S.al.length:=by
 unfold dropS
 split
 ·unfold anewS
  rw [(anewTo_keep _ _).2.1]
  show (S.al.set k false).length=_
  rw [List.length_set]
 ·show (S.al.set k false).length=_
  rw [List.length_set]
theorem drop_wk {S:HS α} (s:α) (k:Nat):(dropS S s k).wk≤S.wk+S.cs.length:=by
 unfold dropS
 split
 ·unfold anewS
  rw [(anewTo_keep _ _).2.2.2.1]
  show S.wk+(liv (S.al.set k false) S.cs).length≤_
  have:(liv (S.al.set k false) S.cs).length≤S.cs.length:=List.length_filter_le _ _
  omega
 ·show S.wk≤_
  omega
theorem drop_inv {nm:α→Nat} {S:PS α} (I:PInv nm S) {x k:Nat} {s:α} (hs:get S x=some s) (hk:S.H.mp.lookup s=some (k:Int)) (ht:S.t<90000):PInv nm (dropP S x s k):=by
 have hlen:=HInv.len I.half
 have hal:=I.al
 have hal2:=I.alls
 obtain ⟨h1,h2⟩:=(I.get x s).1 hs
 have hpx:(place S.N x).isSome=true:=by
  obtain ⟨i,hi,-⟩:=I.ofs s h1
  rw [h2] at hi
  rw [hi];rfl
 have hl:=lvs_drop I hs hk
 refine ⟨I.half.drop hk (by omega),Nm.drop_inv I.dir hpx,Nm.drop_low I.dir I.low ht _,?_,?_,?_,?_,?_,?_⟩
 ·show (dropS S.H s k).al.length≤S.t+1
  rw [drop_al];omega
 ·show (dropS S.H s k).wk≤100000*(S.t+1)
  have h3:=drop_wk (S:=S.H) s k
  have h4:=I.wk
  omega
 ·show S.all.length≤S.t+1
  omega
 ·intro y i h
  have h':place (Nm.dropS S.N x) y=some i:=h
  rw [Nm.drop_place I.dir hpx] at h'
  split at h'
  ·cases h'
  ·rename_i e
   obtain ⟨u,g1,g2,g3⟩:=I.tos y i h'
   refine ⟨u,?_,g2,g3⟩
   rw [hl,List.mem_filter]
   refine ⟨g1,?_⟩
   rw [g3];simp [e]
 ·intro u hu
  rw [hl,List.mem_filter] at hu
  obtain ⟨i,g1,g2⟩:=I.ofs u hu.1
  refine ⟨i,?_,g2⟩
  show place (Nm.dropS S.N x) (nm u)=some i
  rw [Nm.drop_place I.dir hpx,if_neg (by simpa using hu.2)]
  exact g1
 ·rw [hl]
  exact I.names.sublist (List.filter_sublist.map _)
theorem lvs_len {nm:α→Nat} {S:PS α} (I:PInv nm S):S.H.mp.length=(lvs S).length:=by
 rw [I.half.core.mp_len,view_all];rfl
omit [DecidableEq α] in
theorem inv0 {nm:α→Nat} (h:HInv (P0:PS α).H):PInv nm (P0:PS α) where
 half:=h
 dir:=NInv.zero
 low:=⟨Nat.le_refl _,Nat.le_refl _⟩
 al:=Nat.le_refl _
 wk:=Nat.le_refl _
 alls:=Nat.le_refl _
 tos:=by intro x i h;simp [P0,N0,place] at h
 ofs:=by intro s hs;simp [lvs,P0,live,liv] at hs
 names:=by simp [lvs,P0,live,liv]
end
end Go.Proofs.YtkbaaonchdeneaaGreat.Ps
namespace Go.Proofs.YtkbaaonchdeneaaGreat.Nm
open Go.RowKit
attribute [local go_sem ↓] Go.wp_at_zero Go.wp_at_succ
variable {w w':World} {q cb:Nat} {vb vp va:Value} {vs:List Value} {bk:List (List (Nat×Nat))} {Fc:List Nat} {S:NS}
theorem NmAt.wide {w1 w2:World} (H:NmAt w q cb vb vp va vs bk Fc S) {o:Obj} {A:Option Addr} {C:Nat} (HP:AppPost (w.alloc o) w1 0 187 1 vb vs.length vs 1 [.slice none 0 0] A C)
 (hw:w2=w1.setCell ⟨q,1,none⟩ (.slice A (vs.length+1) C)) :
 NStep w w2 q cb (parts q Fc vb vs vp va).flatten (bk++[[]]) S:=by
 subst hw
 obtain ⟨p1,p2⟩:=H.rows.snoc HP
 have hqb:q∉rfoot vb vs:=fun hc=>H.dis (i:=0) (j:=2) rfl rfl (by omega) q (by simp) hc
 have hu1:Upd (rfoot vb vs) w w1:=(((Upd.refl _ _).alloc _).trans HP.upd).mono (fun x hx=>.inl (mem_rfoot.2 (.inl hx)))
 have hh1:=(H.head.upd hu1 hqb).set 1 (.slice A (vs.length+1) C)
 have hus:Upd [q] w1 (w1.setCell ⟨q,1,none⟩ (.slice A (vs.length+1) C)):=(Upd.refl _ _).setCell (p:=⟨q,1,none⟩) (.inl (by simp)) _
 have hnq:∀x∈rfoot (.slice A (vs.length+1) C) (vs++[.slice none 0 0]),x∉[q]:=by
  intro x hx hc
  simp at hc
  subst hc
  rcases p2 x hx with g | g
  ·exact hqb g
  ·have:=H.head.lt;omega
 have hbks:=H.bks (vb':=.slice A (vs.length+1) C) (vs':=vs++[.slice none 0 0]) (bk':=bk++[[]]) (w':=w1.setCell ⟨q,1,none⟩ (.slice A (vs.length+1) C)) ((hu1.mono (by intro x hx;left;simp [hx])).trans (hus.mono (by intro x hx;left;simp at hx;simp [hx])))
  (by simpa using hh1) (p1.upd hus hnq) p2
 refine ⟨_,_,_,_,_,hbks,(hu1.mono (fun x hx=>.inl (mem_part (i:=2) rfl hx))).trans (hus.mono (fun x hx=>.inl (mem_part (i:=0) (P:=[q]) rfl hx))),fun x hx=>?_⟩
 have e:parts q Fc (.slice A (vs.length+1) C) (vs++[.slice none 0 0]) vp va=(parts q Fc vb vs vp va).set 2 (rfoot (.slice A (vs.length+1) C) (vs++[.slice none 0 0])):=rfl
 rw [e] at hx
 rcases flat_set hx with g | g
 ·exact .inl g
 ·rcases p2 x g with g | g
  ·exact .inl (mem_part (i:=2) rfl g)
  ·exact .inr g
theorem NmAt.turn (H:NmAt w q cb vb vp va vs bk Fc S) {g N C:Nat} (hv:vb=.slice (some ⟨g,0,none⟩) N C) (i:Nat) (u:Value) (l:List (Nat×Nat)) (hrow:CEn.KI.row w 0 u l) (hap:∀k∈blk u,k∉(parts q Fc vb vs vp va).flatten) :
 NmAt (w.setCell ⟨g,i,none⟩ u) q cb vb vp va (vs.set i u) (bk.set i l) Fc S∧Upd (parts q Fc vb vs vp va).flatten w (w.setCell ⟨g,i,none⟩ u)∧∀x∈(parts q Fc vb (vs.set i u) vp va).flatten,x∈(parts q Fc vb vs vp va).flatten∨x∈blk u:=by
 subst hv
 have hgF:g∈(parts q Fc (.slice (some ⟨g,0,none⟩) N C) vs vp va).flatten:=mem_part (i:=2) rfl (mem_rfoot.2 (.inl (by simp [blk])))
 have hN:N=vs.length:=by
  obtain ⟨A',C',he⟩:=own_form H.rows.list
  cases he;rfl
 have hu:Upd [g] w (w.setCell ⟨g,i,none⟩ u):=(Upd.refl _ _).setCell (p:=⟨g,i,none⟩) (.inl (by simp)) _
 have d:∀(j:Nat) (Q:List Nat),j≠2→(parts q Fc (.slice (some ⟨g,0,none⟩) N C) vs vp va)[j]? = some Q→Disj Q [g]:=fun j Q hne hj x hx hc=>by
  simp at hc
  subst hc
  exact H.dis hj (j:=2) rfl hne x hx (mem_rfoot.2 (.inl (by simp [blk])))
 have hr:=H.rows.put hN i u l hrow (fun k hk=>⟨fun e=>hap k hk (by rw [e];exact hgF),fun j t _ ht hc=>hap k hk (mem_part (i:=2) rfl (mem_rfoot.2 (.inr ⟨j,t,ht,hc⟩)))⟩)
 have hrf:∀x∈rfoot (.slice (some ⟨g,0,none⟩) N C) (vs.set i u),x∈rfoot (.slice (some ⟨g,0,none⟩) N C) vs∨x∈blk u:=by
  intro x hx
  rcases mem_rfoot.1 hx with h | ⟨j,t,ht,hx⟩
  ·exact .inl (mem_rfoot.2 (.inl h))
  ·rw [List.getElem?_set] at ht
   split at ht
   ·split at ht
    ·simp at ht;subst ht;exact .inr hx
    ·cases ht
   ·exact .inl (mem_rfoot.2 (.inr ⟨j,t,ht,hx⟩))
 refine ⟨⟨H.head.upd hu (d 0 [q] (by omega) rfl q (by simp)),H.car.upd hu (d 1 _ (by omega) rfl),hr,own_upd H.prow hu (d 3 _ (by omega) rfl),own_upd H.arow hu (d 4 _ (by omega) rfl),?_⟩,hu.mono (fun x hx=>.inl (by simp at hx;subst hx;exact hgF)),?_⟩
 ·have:=pw_put H.apart (i:=2) (G':=rfoot (.slice (some ⟨g,0,none⟩) N C) (vs.set i u)) (fun j hj hne x hx hc=>by
   rcases hrf x hx with g1 | g1
   ·exact H.dis (i:=2) (j:=j) rfl (List.getElem?_eq_getElem hj) (Ne.symm hne) x g1 hc
   ·exact hap x g1 (mem_part (List.getElem?_eq_getElem hj) hc))
  exact this
 ·intro x hx
  have e:parts q Fc (.slice (some ⟨g,0,none⟩) N C) (vs.set i u) vp va=(parts q Fc (.slice (some ⟨g,0,none⟩) N C) vs vp va).set 2 (rfoot (.slice (some ⟨g,0,none⟩) N C) (vs.set i u)):=rfl
  rw [e] at hx
  rcases flat_set hx with h | h
  ·exact .inl h
  ·exact (hrf x h).imp (mem_part (i:=2) rfl) id
theorem none_step (bk:List (List (Nat×Nat))) (i:Nat) (hi:i<bk.length):(List.replicate i []++bk.drop i).set i []=List.replicate (i+1) []++bk.drop (i+1):=by
 apply List.ext_getElem?
 intro j
 rw [List.getElem?_set]
 simp only [List.length_append,List.length_replicate,List.length_drop]
 rcases Nat.lt_trichotomy i j with h | h | h
 ·rw [if_neg (by omega),List.getElem?_append_right (by simp;omega),List.getElem?_append_right (by simp;omega)]
  simp only [List.length_replicate,List.getElem?_drop]
  congr 1
  omega
 ·subst h
  rw [if_pos rfl,if_pos (by omega),List.getElem?_append_left (by simp),List.getElem?_replicate,if_pos (by omega)]
 ·rw [if_neg (by omega),List.getElem?_append_left (by simp;omega),List.getElem?_append_left (by simp;omega),List.getElem?_replicate,List.getElem?_replicate,if_pos (by omega),if_pos (by omega)]
theorem put_at (bk:List (List (Nat×Nat))) (t:Nat) (l:List (Nat×Nat)) (ht:t<bk.length):(List.replicate t []++bk.drop t).set t l=List.replicate t []++l::bk.drop (t+1):=by
 rw [List.set_append_right _ _ (by simp)]
 simp only [List.length_replicate,Nat.sub_self]
 rw [List.drop_eq_getElem_cons ht]
 rfl
end Go.Proofs.YtkbaaonchdeneaaGreat.Nm
