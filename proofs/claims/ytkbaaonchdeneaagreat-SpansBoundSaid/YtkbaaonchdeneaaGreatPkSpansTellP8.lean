/- A directory of names, plainly: what Put and Drop make of it. Things with names that come and go, plainly: a Half of them, the directory of their names, all there were. names' Put. Printed by genNmI.py. names' Put, of a new name. Printed by genNmJ.py. Half, plainly, over things of any kind: few things are placed (P22.3). -/
import Derived.Deep.RegionLaw
import Derived.Deep.RegionHeld3
import Derived.Deep.DrawnRows
import Derived.WalkMore
import Derived.Test.YtkbaaonchdeneaaGreatPk46
set_option maxHeartbeats 2000000
set_option maxRecDepth 100000
namespace Go.Proofs.YtkbaaonchdeneaaGreat.Nm
def revS (S:NS) (k p:Nat):NS:={ S with al:=S.al.set k true,pl:=S.pl.set k p,n:=S.n+1 }
def pushS (S:NS) (x p:Nat):NS:={ cs:=S.cs++[(x,S.al.length)],al:=S.al++[true],pl:=S.pl++[p],n:=S.n+1,wk:=S.wk+(gath (setB S.cs) (x,S.al.length)).length }
def putS (S:NS) (x p:Nat):NS:=match S.cs.lookup x with | some k=>revS S k p | none=>pushS S x p
def killS (S:NS) (k:Nat):NS:={ S with al:=S.al.set k false,n:=S.n - 1 }
def dropS (S:NS) (x:Nat):NS:=match S.cs.lookup x with | some k=>if S.cs.length > 2*(S.n - 1) then anewN (killS S k) else killS S k | none=>S
theorem count_true_set {l:List Bool} {k:Nat} (hk:k<l.length) (h:l.getD k false=false):(l.set k true).count true=l.count true+1:=by
 induction l generalizing k with
 |nil=>simp at hk
 |cons a l ih=>
  rcases k with _ | k
  ·simp at h
   subst h
   simp
  ·have:=ih (k:=k) (by simpa using hk) (by simpa using h)
   rw [List.set_cons_succ,List.count_cons,List.count_cons,this]
   omega
theorem count_false_set {l:List Bool} {k:Nat} (h:l.getD k false=true):(l.set k false).count true+1=l.count true:=by
 induction l generalizing k with
 |nil=>simp at h
 |cons a l ih=>
  rcases k with _ | k
  ·simp at h
   subst h
   simp
  ·have:=ih (k:=k) (by simpa using h)
   rw [List.set_cons_succ,List.count_cons,List.count_cons]
   omega
theorem getD_lt {l:List Bool} {k:Nat} (h:l.getD k false=true):k<l.length:=by
 rcases Nat.lt_or_ge k l.length with h1 | h1
 ·exact h1
 ·rw [List.getD_eq_getElem?_getD,List.getElem?_eq_none h1] at h
  cases h
theorem num_inj {S:NS} (I:NInv S) {x y k:Nat} (hx:S.cs.lookup x=some k) (hy:S.cs.lookup y=some k):x=y:=by
 rw [lookup_iff I.ids] at hx hy
 obtain ⟨i,hi⟩:=List.mem_iff_getElem?.1 hx
 obtain ⟨j,hj⟩:=List.mem_iff_getElem?.1 hy
 have hi':(S.cs.map (·.2))[i]? = some k:=by rw [List.getElem?_map,hi];rfl
 have hj':(S.cs.map (·.2))[j]? = some k:=by rw [List.getElem?_map,hj];rfl
 have e:i=j:=by
  obtain ⟨l1,e1⟩:=List.getElem?_eq_some_iff.1 hi'
  obtain ⟨l2,e2⟩:=List.getElem?_eq_some_iff.1 hj'
  have hp:=List.pairwise_iff_getElem.1 I.nums
  rcases Nat.lt_trichotomy i j with h | h | h
  ·exact (hp i j l1 l2 h (e1.trans e2.symm)).elim
  ·exact h
  ·exact (hp j i l2 l1 h (e2.trans e1.symm)).elim
 subst e
 rw [hi] at hj
 simpa using hj
theorem rev_inv {S:NS} (I:NInv S) {x k:Nat} (p:Nat) (hk:S.cs.lookup x=some k) (hd:S.al.getD k false=false):NInv (revS S k p):=by
 obtain ⟨k1,k2⟩:=num_lt I hk
 refine ⟨I.ids,I.nums,fun y hy=>by show y.2<(S.al.set k true).length;rw [List.length_set];exact I.lt y hy,by show (S.pl.set k p).length=(S.al.set k true).length;rw [List.length_set,List.length_set,I.pll],?_,?_⟩
 ·show S.n+1=(S.al.set k true).count true
  rw [count_true_set k1 hd,I.cnt]
 ·intro j hj
  have hj':(S.al.set k true)[j]? = some true:=hj
  rw [List.getElem?_set] at hj'
  split at hj'
  ·rename_i e
   subst e
   rw [lookup_iff I.ids] at hk
   exact ⟨_,hk,rfl⟩
  ·exact I.all j hj'
theorem rev_place {S:NS} (I:NInv S) {x k:Nat} (p:Nat) (hk:S.cs.lookup x=some k) (y:Nat):place (revS S k p) y=if y=x then some p else place S y:=by
 obtain ⟨k1,k2⟩:=num_lt I hk
 unfold place
 show (match S.cs.lookup y with | some j=>if (S.al.set k true).getD j false then some ((S.pl.set k p).getD j 0) else none | none=>none)=_
 by_cases e:y=x
 ·subst e
  rw [hk,if_pos rfl]
  simp [List.getD_eq_getElem?_getD,k1,k2]
 ·rw [if_neg e]
  cases hy:S.cs.lookup y with
  |none=>rfl
  |some j=>
   have hne:k≠j:=fun h=>e (num_inj I (by rw [h];exact hy) hk)
   simp only [List.getD_eq_getElem?_getD,List.getElem?_set_ne hne]
theorem push_inv {S:NS} (I:NInv S) {x:Nat} (p:Nat) (hk:S.cs.lookup x=none):NInv (pushS S x p):=by
 rw [lookup_none] at hk
 refine ⟨?_,?_,?_,?_,?_,?_⟩
 ·show ((S.cs++[(x,S.al.length)]).map (·.1)).Nodup
  rw [List.map_append,List.nodup_append]
  refine ⟨I.ids,by simp,?_⟩
  intro a ha b hb
  simp at hb
  obtain ⟨y,hy,rfl⟩:=List.mem_map.1 ha
  rw [hb]
  exact hk y hy
 ·show ((S.cs++[(x,S.al.length)]).map (·.2)).Nodup
  rw [List.map_append,List.nodup_append]
  refine ⟨I.nums,by simp,?_⟩
  intro a ha b hb
  simp at hb
  obtain ⟨y,hy,rfl⟩:=List.mem_map.1 ha
  have:=I.lt y hy
  omega
 ·intro y hy
  show y.2<(S.al++[true]).length
  rw [List.length_append]
  rcases List.mem_append.1 (show y∈S.cs++[(x,S.al.length)] from hy) with h | h
  ·have:=I.lt y h;omega
  ·simp at h;subst h;simp
 ·show (S.pl++[p]).length=(S.al++[true]).length
  rw [List.length_append,List.length_append,I.pll];rfl
 ·show S.n+1=(S.al++[true]).count true
  rw [List.count_append,I.cnt];rfl
 ·intro j hj
  have hj':(S.al++[true])[j]? = some true:=hj
  rw [List.getElem?_append] at hj'
  split at hj'
  ·obtain ⟨y,hy,e⟩:=I.all j hj'
   exact ⟨y,List.mem_append.2 (.inl hy),e⟩
  ·rename_i hge
   have hl:=(List.getElem?_eq_some_iff.1 hj').1
   simp at hl
   exact ⟨(x,S.al.length),List.mem_append.2 (.inr (by simp)),by show S.al.length=j;omega⟩
theorem push_place {S:NS} (I:NInv S) {x:Nat} (p:Nat) (hk:S.cs.lookup x=none) (y:Nat):place (pushS S x p) y=if y=x then some p else place S y:=by
 have I2:=push_inv I p hk
 unfold place
 show (match (S.cs++[(x,S.al.length)]).lookup y with | some j=>if (S.al++[true]).getD j false then some ((S.pl++[p]).getD j 0) else none | none=>none)=_
 by_cases e:y=x
 ·subst e
  have h:(S.cs++[(y,S.al.length)]).lookup y=some S.al.length:=(lookup_iff I2.ids y S.al.length).2 (List.mem_append.2 (.inr (by simp)))
  rw [h,if_pos rfl]
  have hp:=I.pll
  simp [List.getD_eq_getElem?_getD,←hp]
 ·rw [if_neg e]
  cases hy:S.cs.lookup y with
  |none=>
   have h:(S.cs++[(x,S.al.length)]).lookup y=none:=by
    rw [lookup_none] at hy ⊢
    intro z hz
    rcases List.mem_append.1 hz with hz | hz
    ·exact hy z hz
    ·simp at hz;subst hz;exact fun h=>e h.symm
   rw [h]
  |some j=>
   obtain ⟨k1,k2⟩:=num_lt I hy
   have h:(S.cs++[(x,S.al.length)]).lookup y=some j:=by
    rw [lookup_iff I.ids] at hy
    exact (lookup_iff I2.ids y j).2 (List.mem_append.2 (.inl hy))
   rw [h]
   simp only [List.getD_eq_getElem?_getD,List.getElem?_append_left k1,List.getElem?_append_left k2]
theorem put_inv {S:NS} (I:NInv S) {x:Nat} (p:Nat) (h:place S x=none):NInv (putS S x p):=by
 unfold putS
 cases hk:S.cs.lookup x with
 |none=>exact push_inv I p hk
 |some k=>
  refine rev_inv I p hk ?_
  unfold place at h
  rw [hk] at h
  simp at h
  simpa using h
theorem put_place {S:NS} (I:NInv S) {x:Nat} (p:Nat) (y:Nat):place (putS S x p) y=if y=x then some p else place S y:=by
 unfold putS
 cases hk:S.cs.lookup x with
 |none=>exact push_place I p hk y
 |some k=>exact rev_place I p hk y
theorem kill_inv {S:NS} (I:NInv S) {k:Nat} (h:S.al.getD k false=true):NInv (killS S k):=by
 have hk:=getD_lt h
 refine ⟨I.ids,I.nums,fun y hy=>by show y.2<(S.al.set k false).length;rw [List.length_set];exact I.lt y hy,by show S.pl.length=(S.al.set k false).length;rw [List.length_set,I.pll],?_,?_⟩
 ·show S.n - 1=(S.al.set k false).count true
  have:=count_false_set h
  rw [I.cnt];omega
 ·intro j hj
  have hj':(S.al.set k false)[j]? = some true:=hj
  rw [List.getElem?_set] at hj'
  split at hj'
  ·simp at hj'
  ·exact I.all j hj'
theorem kill_place {S:NS} (I:NInv S) {x k:Nat} (hk:S.cs.lookup x=some k) (y:Nat):place (killS S k) y=if y=x then none else place S y:=by
 obtain ⟨k1,k2⟩:=num_lt I hk
 unfold place
 show (match S.cs.lookup y with | some j=>if (S.al.set k false).getD j false then some (S.pl.getD j 0) else none | none=>none)=_
 by_cases e:y=x
 ·subst e
  rw [hk,if_pos rfl]
  simp [List.getD_eq_getElem?_getD,k1]
 ·rw [if_neg e]
  cases hy:S.cs.lookup y with
  |none=>rfl
  |some j=>
   have hne:k≠j:=fun h=>e (num_inj I (by rw [h];exact hy) hk)
   simp only [List.getD_eq_getElem?_getD,List.getElem?_set_ne hne]
theorem anew_inv {S:NS} (I:NInv S):NInv (anewN S):=by
 have hs:(liv S.al S.cs).Sublist S.cs:=List.filter_sublist
 refine ⟨I.ids.sublist (hs.map _),I.nums.sublist (hs.map _),fun y hy=>I.lt y (hs.subset hy),I.pll,I.cnt,fun k hk=>?_⟩
 have hk':S.al[k]? = some true:=hk
 obtain ⟨y,hy,e⟩:=I.all k hk'
 refine ⟨y,?_,e⟩
 show y∈liv S.al S.cs
 unfold liv
 rw [List.mem_filter]
 refine ⟨hy,?_⟩
 rw [e,List.getD_eq_getElem?_getD,hk'];rfl
theorem anew_place {S:NS} (I:NInv S) (y:Nat):place (anewN S) y=place S y:=by
 have I2:=anew_inv I
 unfold place
 show (match (liv S.al S.cs).lookup y with | some j=>if S.al.getD j false then some (S.pl.getD j 0) else none | none=>none)=_
 cases hy:S.cs.lookup y with
 |none=>
  have h:(liv S.al S.cs).lookup y=none:=by
   rw [lookup_none] at hy ⊢
   intro z hz
   unfold liv at hz
   rw [List.mem_filter] at hz
   exact hy z hz.1
  rw [h]
 |some j=>
  have hm:=(lookup_iff I.ids y j).1 hy
  by_cases hj:S.al.getD j false=true
  ·have h:(liv S.al S.cs).lookup y=some j:=(lookup_iff I2.ids y j).2 (by show _∈liv S.al S.cs;unfold liv;rw [List.mem_filter];exact ⟨hm,hj⟩)
   rw [h]
  ·have h:(liv S.al S.cs).lookup y=none:=by
    rw [lookup_none]
    intro z hz e
    unfold liv at hz
    rw [List.mem_filter] at hz
    obtain ⟨z1,z2⟩:=z
    dsimp only at e
    subst e
    have h2:=(lookup_iff I.ids z1 z2).2 hz.1
    rw [hy] at h2
    cases h2
    exact hj hz.2
   rw [h]
   dsimp only
   rw [if_neg hj]
theorem drop_inv {S:NS} (I:NInv S) {x:Nat} (h:(place S x).isSome=true):NInv (dropS S x):=by
 unfold dropS
 unfold place at h
 cases hk:S.cs.lookup x with
 |none=>rw [hk] at h;simp at h
 |some k=>
  rw [hk] at h
  have hl:S.al.getD k false=true:=by
   by_cases hh:S.al.getD k false=true
   ·exact hh
   ·dsimp only at h;rw [if_neg hh] at h;simp at h
  dsimp only
  split
  ·exact anew_inv (kill_inv I hl)
  ·exact kill_inv I hl
theorem drop_place {S:NS} (I:NInv S) {x:Nat} (h:(place S x).isSome=true) (y:Nat):place (dropS S x) y=if y=x then none else place S y:=by
 unfold dropS
 have h':=h
 unfold place at h'
 cases hk:S.cs.lookup x with
 |none=>rw [hk] at h';simp at h'
 |some k=>
  rw [hk] at h'
  have hl:S.al.getD k false=true:=by
   by_cases hh:S.al.getD k false=true
   ·exact hh
   ·dsimp only at h';rw [if_neg hh] at h';simp at h'
  dsimp only
  split
  ·rw [anew_place (kill_inv I hl),kill_place I hk]
  ·exact kill_place I hk y
theorem NInv.len {S:NS} (I:NInv S):S.cs.length≤S.al.length:=by
 have h1:(S.cs.map (·.2)).length≤(List.range S.al.length).length:=by
  refine List.Nodup.length_le_of_subset I.nums ?_
  intro k hk
  obtain ⟨y,hy,rfl⟩:=List.mem_map.1 hk
  exact List.mem_range.2 (I.lt y hy)
 simpa using h1
def Low (t:Nat) (S:NS):Prop:=S.al.length≤t∧S.wk≤100000*t
theorem put_low {S:NS} {t:Nat} (I:NInv S) (h:Low t S) (ht:t<90000) (x p:Nat):Low (t+1) (putS S x p):=by
 unfold putS Low at *
 have:=I.len
 cases S.cs.lookup x with
 |none=>
  have hg:(gath (setB S.cs) (x,S.al.length)).length≤S.cs.length+1:=by
   rw [(gath_set S.cs (x,S.al.length)).1,List.length_append,List.length_drop];simp
  show (S.al++[true]).length≤t+1∧S.wk+_≤_
  rw [List.length_append]
  simp only [List.length_cons,List.length_nil]
  omega
 |some k=>
  show (S.al.set k true).length≤t+1∧S.wk≤_
  rw [List.length_set]
  omega
theorem drop_low {S:NS} {t:Nat} (I:NInv S) (h:Low t S) (ht:t<90000) (x:Nat):Low (t+1) (dropS S x):=by
 unfold dropS Low at *
 have:=I.len
 cases S.cs.lookup x with
 |none=>dsimp only;omega
 |some k=>
  dsimp only
  split
  ·have hg:=liv_lenE (S.al.set k false) S.cs
   show (S.al.set k false).length≤t+1∧S.wk+(liv (S.al.set k false) S.cs).length≤_
   rw [List.length_set]
   omega
  ·show (S.al.set k false).length≤t+1∧S.wk≤_
   rw [List.length_set]
   omega
theorem bk_push {cs:List (Nat×Nat)} {bk:List (List (Nat×Nat))} (h:BkOk (setB cs) bk) {e:Nat×Nat} {l:List (Nat×Nat)} (hl:l.Perm (gath (setB cs) e)) (hs:l.Pairwise fun a b=>a.1≤b.1) :
 BkOk (setB (cs++[e])) (List.replicate (firstE (setB cs)) []++l::bk.drop (firstE (setB cs)+1)):=by
 rw [←add_set]
 unfold addB
 have hle:=firstE_le (setB cs)
 have hb:=h.1
 obtain ⟨t,ht⟩:∃t,firstE (setB cs)=t:=⟨_,rfl⟩
 rw [ht] at hle ⊢
 refine ⟨by simp;omega,fun i a b ha hb'=>?_⟩
 rw [List.getElem?_append] at ha hb'
 simp only [List.length_replicate] at ha hb'
 split at ha
 ·rename_i hi
  rw [if_pos hi] at hb'
  rw [List.getElem?_replicate,if_pos hi] at ha hb'
  cases ha;cases hb'
  exact ⟨List.Perm.refl _,List.Pairwise.nil⟩
 ·rename_i hi
  rw [if_neg hi] at hb'
  rcases hj:i - t with _ | j
  ·rw [hj] at ha hb'
   simp at ha hb'
   subst ha hb'
   exact ⟨hl,hs⟩
  ·rw [hj] at ha hb'
   rw [List.getElem?_cons_succ] at ha hb'
   rw [List.getElem?_drop] at ha hb'
   exact h.2 _ a b ha hb'
end Go.Proofs.YtkbaaonchdeneaaGreat.Nm
namespace Go.Proofs.YtkbaaonchdeneaaGreat.Ps
open Go.Proofs.YtkbaaonchdeneaaGreat.Nm (NS NInv Low place putS N0)
structure PS (α:Type) where
 H:HS α
 N:NS
 all:List α
 t:Nat
section
variable {α:Type} [DecidableEq α]
def lvs (S:PS α):List α:=live S.H.al S.H.cs
def get (S:PS α) (x:Nat):Option α:=(place S.N x).bind fun i=>S.all[i]?
structure PInv (nm:α→Nat) (S:PS α):Prop where
 half:HInv S.H
 dir:NInv S.N
 low:Low S.t S.N
 al:S.H.al.length≤S.t
 wk:S.H.wk≤100000*S.t
 alls:S.all.length≤S.t
 tos:∀x i,place S.N x=some i→∃s∈lvs S,S.all[i]? = some s∧nm s=x
 ofs:∀s∈lvs S,∃i,place S.N (nm s)=some i∧S.all[i]? = some s
 names:((lvs S).map nm).Nodup
omit [DecidableEq α] in
theorem HInv.len {S:HS α} (I:HInv S):S.cs.length≤S.al.length:=by
 have h2:(S.cs.map (·.2)).Nodup:=I.nums.imp (fun h=>Nat.ne_of_lt h)
 have h1:(S.cs.map (·.2)).length≤(List.range S.al.length).length:=by
  refine List.Nodup.length_le_of_subset h2 ?_
  intro k hk
  obtain ⟨y,hy,rfl⟩:=List.mem_map.1 hk
  exact List.mem_range.2 (I.lt y hy)
 simpa using h1
omit [DecidableEq α] in
theorem name_inj {nm:α→Nat} {l:List α} (h:(l.map nm).Nodup) {a b:α} (ha:a∈l) (hb:b∈l) (e:nm a=nm b):a=b:=by
 induction l with
 |nil=>cases ha
 |cons c l ih=>
  rw [List.map_cons,List.nodup_cons] at h
  rcases List.mem_cons.1 ha with e1 | ha
  ·rcases List.mem_cons.1 hb with e2 | hb
   ·rw [e1,e2]
   ·exact (h.1 (List.mem_map.2 ⟨b,hb,by rw [←e,e1]⟩)).elim
  ·rcases List.mem_cons.1 hb with e2 | hb
   ·exact (h.1 (List.mem_map.2 ⟨a,ha,by rw [e,e2]⟩)).elim
   ·exact ih h.2 ha hb
omit [DecidableEq α] in
theorem PInv.get {nm:α→Nat} {S:PS α} (I:PInv nm S) (x:Nat) (s:α):get S x=some s↔s∈lvs S∧nm s=x:=by
 unfold Ps.get
 constructor
 ·intro h
  rw [Option.bind_eq_some_iff] at h
  obtain ⟨i,h1,h2⟩:=h
  obtain ⟨t,ht,h3,h4⟩:=I.tos x i h1
  rw [h2] at h3
  cases h3
  exact ⟨ht,h4⟩
 ·rintro ⟨h1,rfl⟩
  obtain ⟨i,h2,h3⟩:=I.ofs s h1
  rw [h2]
  exact h3
omit [DecidableEq α] in
theorem PInv.none {nm:α→Nat} {S:PS α} (I:PInv nm S) (x:Nat):place S.N x=none↔∀s∈lvs S,nm s≠x:=by
 constructor
 ·intro h s hs e
  obtain ⟨i,h2,-⟩:=I.ofs s hs
  rw [e,h] at h2
  cases h2
 ·intro h
  cases hp:place S.N x with
  |none=>rfl
  |some i=>
   obtain ⟨t,ht,-,h4⟩:=I.tos x i hp
   exact (h t ht h4).elim
theorem mp_none {S:HS α} (I:HInv S) (s:α):S.mp.lookup s=none↔s∉live S.al S.cs:=by
 have h:=I.core.there s
 rw [←view_all]
 have e:s∈viewAll (view S)↔(s,true)∈view S:=by
  unfold viewAll
  rw [List.mem_map]
  constructor
  ·rintro ⟨⟨a,b⟩,hab,rfl⟩
   rw [List.mem_filter] at hab
   obtain ⟨h1,h2⟩:=hab
   dsimp only at h2
   subst h2
   exact h1
  ·intro h
   exact ⟨(s,true),List.mem_filter.2 ⟨h,rfl⟩,rfl⟩
 rw [e]
 constructor
 ·intro hn hm
  rw [hn] at h
  simp [hm] at h
 ·intro hm
  cases hl:S.mp.lookup s with
  |none=>rfl
  |some v=>
   rw [hl] at h
   simp [hm] at h
theorem mp_some {S:HS α} (I:HInv S) {s:α} (h:s∈live S.al S.cs):∃k:Nat,S.mp.lookup s=some (k:Int):=by
 cases hl:S.mp.lookup s with
 |none=>exact ((mp_none I s).1 hl h).elim
 |some v=>
  obtain ⟨n,rfl,-⟩:=I.core.num hl
  exact ⟨n,rfl⟩
def P0:PS α:={ H:={ cs:=[],al:=[],lv:=[],tr:=[],mp:=[],wk:=0 },N:=N0,all:=[],t:=0 }
def addP (nm:α→Nat) (S:PS α) (s:α):PS α:={ H:=addS S.H s,N:=putS S.N (nm s) S.all.length,all:=S.all++[s],t:=S.t+1 }
theorem lvs_add {nm:α→Nat} {S:PS α} (I:PInv nm S) (s:α):lvs (addP nm S s)=lvs S++[s]:=live_addS I.half s
theorem add_inv {nm:α→Nat} {S:PS α} (I:PInv nm S) (s:α) (hp:place S.N (nm s)=none) (ht:S.t<90000):PInv nm (addP nm S s):=by
 have hn:=(I.none (nm s)).1 hp
 have hm:S.H.mp.lookup s=none:=(mp_none I.half s).2 fun h=>hn s h rfl
 have hlen:=HInv.len I.half
 have hal:=I.al
 have hal2:=I.alls
 have hg:2 ^ firstE (setB S.H.cs)≤S.H.cs.length+1:=by
  rw [←(gath_set S.H.cs (s,S.H.al.length)).2]
  rw [(gath_set S.H.cs (s,S.H.al.length)).1,List.length_append,List.length_drop];simp
 refine ⟨I.half.add s hm (by omega),Nm.put_inv I.dir _ hp,Nm.put_low I.dir I.low ht _ _,?_,?_,?_,?_,?_,?_⟩
 ·show (S.H.al++[true]).length≤S.t+1
  rw [List.length_append];simp;omega
 ·show S.H.wk+2 ^ firstE (setB S.H.cs)≤100000*(S.t+1)
  have:=I.wk
  omega
 ·show (S.all++[s]).length≤S.t+1
  rw [List.length_append];simp;omega
 ·intro x i h
  have h':place (putS S.N (nm s) S.all.length) x=some i:=h
  rw [Nm.put_place I.dir] at h'
  rw [lvs_add I]
  show ∃s'∈lvs S++[s],(S.all++[s])[i]? = some s'∧nm s'=x
  split at h'
  ·rename_i e
   cases h'
   exact ⟨s,by simp,by simp,e.symm⟩
  ·obtain ⟨t,h1,h2,h3⟩:=I.tos x i h'
   exact ⟨t,by simp [h1],by rw [List.getElem?_append_left (List.getElem?_eq_some_iff.1 h2).1];exact h2,h3⟩
 ·intro u hu
  rw [lvs_add I] at hu
  show ∃i,place (putS S.N (nm s) S.all.length) (nm u)=some i∧(S.all++[s])[i]? = some u
  rw [Nm.put_place I.dir]
  rcases List.mem_append.1 hu with h | h
  ·rw [if_neg (hn u h)]
   obtain ⟨i,h1,h2⟩:=I.ofs u h
   exact ⟨i,h1,by rw [List.getElem?_append_left (List.getElem?_eq_some_iff.1 h2).1];exact h2⟩
  ·simp at h
   subst h
   rw [if_pos rfl]
   exact ⟨_,rfl,by simp⟩
 ·rw [lvs_add I,List.map_append,List.nodup_append]
  refine ⟨I.names,by simp,?_⟩
  intro a ha b hb
  obtain ⟨u,hu,rfl⟩:=List.mem_map.1 ha
  simp at hb
  rw [hb]
  exact hn u hu
def dropP (S:PS α) (x:Nat) (s:α) (k:Nat):PS α:={ H:=dropS S.H s k,N:=Nm.dropS S.N x,all:=S.all,t:=S.t+1 }
theorem viewAll_kill (V:List (α×Bool)) (s:α):viewAll (viewKill V s)=(viewAll V).filter fun y=>y != s:=by
 unfold viewAll viewKill
 induction V with
 |nil=>rfl
 |cons p V ih=>
  rcases p with ⟨a,b⟩
  simp only [List.map_cons] at ih ⊢
  by_cases e:a=s
  ·subst e
   rw [if_pos rfl,List.filter_cons,if_neg (by simp),ih]
   cases b
   ·rw [List.filter_cons,if_neg (by simp)]
   ·rw [List.filter_cons,if_pos rfl,List.map_cons,List.filter_cons,if_neg (by simp)]
  ·rw [if_neg e]
   cases b
   ·rw [List.filter_cons,if_neg (by simp),List.filter_cons,if_neg (by simp),ih]
   ·rw [List.filter_cons,if_pos rfl,List.map_cons,List.filter_cons,if_pos rfl,List.map_cons,List.filter_cons,if_pos (by simpa using e),ih]
theorem viewAll_drop (V:List (α×Bool)) (s:α):viewAll (viewDrop V s)=(viewAll V).filter fun y=>y != s:=by
 unfold viewDrop
 split
 ·rw [←viewAll_kill]
  generalize viewAll (viewKill V s)=L
  unfold viewAll
  induction L with
  |nil=>rfl
  |cons a L ih=>
   rw [List.map_cons,List.filter_cons,if_pos rfl,List.map_cons,ih]
 ·exact viewAll_kill V s
theorem lvs_drop0 {S:HS α} (I:HInv S) {s:α} {k:Nat} (hk:S.mp.lookup s=some (k:Int)):live (dropS S s k).al (dropS S s k).cs=(live S.al S.cs).filter fun y=>y != s:=by
 rw [←view_all,view_drop I hk,viewAll_drop,view_all]
theorem lvs_drop {nm:α→Nat} {S:PS α} (I:PInv nm S) {x k:Nat} {s:α} (hs:get S x=some s) (hk:S.H.mp.lookup s=some (k:Int)):lvs (dropP S x s k)=(lvs S).filter fun y=>nm y != x:=by
 show live (dropS S.H s k).al (dropS S.H s k).cs=_
 rw [lvs_drop0 I.half hk]
 obtain ⟨h1,h2⟩:=(I.get x s).1 hs
 refine List.filter_congr fun y hy=>?_
 have hy':y∈lvs S:=hy
 by_cases e:y=s
 ·subst e;simp [h2]
 ·have:nm y≠x:=fun h=>e (name_inj I.names hy' h1 (h.trans h2.symm))
  have g1:(y != s)=true:=by simpa using e
  have g2:(nm y != x)=true:=by simpa using this
  rw [g1,g2]
theorem drop_al {S:HS α} (s:α) (k:Nat):(dropS S s k).al.length=S.al.length:=by
 unfold dropS
 split
 ·unfold anewS
  rw [(anewTo_keep _ _).2.1]
  show (S.al.set k false).length=_
  rw [List.length_set]
 ·show (S.al.set k false).length=_
  rw [List.length_set]
theorem drop_wk {S:HS α} (s:α) (k:Nat):(dropS S s k).wk≤S.wk+S.cs.length:=by
 unfold dropS
 split
 ·unfold anewS
  rw [(anewTo_keep _ _).2.2.2.1]
  show S.wk+(liv (S.al.set k false) S.cs).length≤_
  have:(liv (S.al.set k false) S.cs).length≤S.cs.length:=List.length_filter_le _ _
  omega
 ·show S.wk≤_
  omega
theorem drop_inv {nm:α→Nat} {S:PS α} (I:PInv nm S) {x k:Nat} {s:α} (hs:get S x=some s) (hk:S.H.mp.lookup s=some (k:Int)) (ht:S.t<90000):PInv nm (dropP S x s k):=by
 have hlen:=HInv.len I.half
 have hal:=I.al
 have hal2:=I.alls
 obtain ⟨h1,h2⟩:=(I.get x s).1 hs
 have hpx:(place S.N x).isSome=true:=by
  obtain ⟨i,hi,-⟩:=I.ofs s h1
  rw [h2] at hi
  rw [hi];rfl
 have hl:=lvs_drop I hs hk
 refine ⟨I.half.drop hk (by omega),Nm.drop_inv I.dir hpx,Nm.drop_low I.dir I.low ht _,?_,?_,?_,?_,?_,?_⟩
 ·show (dropS S.H s k).al.length≤S.t+1
  rw [drop_al];omega
 ·show (dropS S.H s k).wk≤100000*(S.t+1)
  have h3:=drop_wk (S:=S.H) s k
  have h4:=I.wk
  omega
 ·show S.all.length≤S.t+1
  omega
 ·intro y i h
  have h':place (Nm.dropS S.N x) y=some i:=h
  rw [Nm.drop_place I.dir hpx] at h'
  split at h'
  ·cases h'
  ·rename_i e
   obtain ⟨u,g1,g2,g3⟩:=I.tos y i h'
   refine ⟨u,?_,g2,g3⟩
   rw [hl,List.mem_filter]
   refine ⟨g1,?_⟩
   rw [g3];simp [e]
 ·intro u hu
  rw [hl,List.mem_filter] at hu
  obtain ⟨i,g1,g2⟩:=I.ofs u hu.1
  refine ⟨i,?_,g2⟩
  show place (Nm.dropS S.N x) (nm u)=some i
  rw [Nm.drop_place I.dir hpx,if_neg (by simpa using hu.2)]
  exact g1
 ·rw [hl]
  exact I.names.sublist (List.filter_sublist.map _)
theorem lvs_len {nm:α→Nat} {S:PS α} (I:PInv nm S):S.H.mp.length=(lvs S).length:=by
 rw [I.half.core.mp_len,view_all];rfl
omit [DecidableEq α] in
theorem inv0 {nm:α→Nat} (h:HInv (P0:PS α).H):PInv nm (P0:PS α) where
 half:=h
 dir:=NInv.zero
 low:=⟨Nat.le_refl _,Nat.le_refl _⟩
 al:=Nat.le_refl _
 wk:=Nat.le_refl _
 alls:=Nat.le_refl _
 tos:=by intro x i h;simp [P0,N0,place] at h
 ofs:=by intro s hs;simp [lvs,P0,live,liv] at hs
 names:=by simp [lvs,P0,live,liv]
end
end Go.Proofs.YtkbaaonchdeneaaGreat.Ps
namespace Go.Proofs.YtkbaaonchdeneaaGreat.Nm
open Go.RowKit
attribute [local go_sem ↓] Go.wp_at_zero Go.wp_at_succ
theorem pw_put {Ps:List (List Nat)} (h:Ps.Pairwise Disj) {i:Nat} {G':List Nat} (hG:∀j (hj:j<Ps.length),j≠i→Disj G' Ps[j]):(Ps.set i G').Pairwise Disj:=by
 rw [List.pairwise_iff_getElem] at h ⊢
 intro a b ha hb hab
 rw [List.length_set] at ha hb
 rw [List.getElem_set,List.getElem_set]
 split
 ·split
  ·omega
  ·exact hG b hb (by omega)
 ·split
  ·exact (hG a ha (by omega)).symm
  ·exact h a b ha hb hab
theorem own_apart {w:World} {b1 b2:Nat} {e1 e2:TypeId} {s1 s2:Nat} {v1 v2:Value} {n1 n2:Nat} {x1 x2:List Value} (h1:w.ownsRow b1 e1 s1 v1 n1 x1) (h2:w.ownsRow b2 e2 s2 v2 n2 x2) (hne:e1≠e2):Disj (blk v1) (blk v2):=by
 intro x hx hc
 rcases h1.2 with ⟨rfl,_⟩ | ⟨g1,c1,k1,rfl,_,g,_⟩
 ·simp [blk] at hx
 ·rcases h2.2 with ⟨rfl,_⟩ | ⟨g2,c2,k2,rfl,_,g',_⟩
  ·simp [blk] at hc
  ·simp [blk] at hx hc
   subst hx
   rw [hc] at g
   rw [g] at g'
   injection g' with g'
   injection g' with g1 g2
   exact hne g2
theorem app_out {w wb w4:World} {e n m A C:_} {xs news:List Value} {v:Value} (hb:Upd [] w wb) (HP:AppPost wb w4 0 e 1 v n xs m news A C) :
 Upd (blk v) w w4∧w4.ownsRow 0 e 1 (.slice A (n+m) C) (n+m) (xs++news)∧∀x∈blk (.slice A (n+m) C),x∈blk v∨w.heap.size≤x:=by
 refine ⟨(hb.mono (by simp)).trans HP.upd,HP.own,fun x hx=>?_⟩
 rcases HP.at with h | h
 ·rw [h] at hx;exact .inl hx
 ·rw [h] at hx;simp at hx;rw [hx];exact .inr hb.size
theorem info_bool:(Tryz.prog.info? 4).map (fun i=>(i.zero,i.size,i.bytes))=some (some (.bool false),1,1):=by kernel_rfl
theorem info_int:(Tryz.prog.info? 3).map (fun i=>(i.zero,i.size,i.bytes))=some (some (.int .i64 0),1,8):=by kernel_rfl
variable {w w':World} {q cb:Nat} {vb vp va:Value} {vs:List Value} {bk:List (List (Nat×Nat))} {Fc:List Nat} {S:NS}
theorem NmAt.two (H:NmAt w q cb vb vp va vs bk Fc S) {vp' va':Value} {al:List Bool} {pl:List Nat} (hu:Upd (q::(blk va++blk vp)) w w') (hh:HcC w' q #[.pointer (some ⟨cb,0,none⟩),vb,vp',va',.int .i64 (S.n:Int)] 175)
 (ha:boolRow w' va' al) (hl:natRow w' vp' pl) (hba:∀x∈blk va',x∈blk va∨w.heap.size≤x) (hbl:∀x∈blk vp',x∈blk vp∨w.heap.size≤x) :
 NmAt w' q cb vb vp' va' vs bk Fc { S with al:=al,pl:=pl }:=by
 have d:∀(j:Nat) (Q:List Nat),j≠0→j≠3→j≠4→(parts q Fc vb vs vp va)[j]? = some Q→Disj Q (q::(blk va++blk vp)):=by
  intro j Q h0 h3 h4 hj x hx hc
  rcases List.mem_cons.1 hc with rfl | hc
  ·exact H.dis hj (j:=0) rfl h0 x hx (by simp)
  ·rcases List.mem_append.1 hc with hc | hc
   ·exact H.dis hj (j:=4) rfl h4 x hx hc
   ·exact H.dis hj (j:=3) rfl h3 x hx hc
 refine ⟨hh,H.car.upd hu (d 1 _ (by omega) (by omega) (by omega) rfl),H.rows.upd hu (d 2 _ (by omega) (by omega) (by omega) rfl),hl,ha,?_⟩
 have h1:((parts q Fc vb vs vp va).set 4 (blk va')).Pairwise Disj:=pw_set H.apart H.lt rfl hba
 have h2:(((parts q Fc vb vs vp va).set 4 (blk va')).set 3 (blk vp')).Pairwise Disj:=by
  refine pw_put h1 fun j hj hne x hx hc=>?_
  rw [List.getElem_set] at hc
  split at hc
  ·exact own_apart hl ha (by decide) x hx hc
  ·rw [List.length_set] at hj
   rcases hbl x hx with g | g
   ·exact H.dis (i:=3) (j:=j) rfl (List.getElem?_eq_getElem hj) (Ne.symm hne) x g hc
   ·have:=H.lt _ (List.getElem_mem hj) x hc;omega
 simpa [parts] using h2
theorem NmAt.pushed {w4 w5 wf:World} (H:NmAt w q cb vb vp va vs bk Fc S) {A4 A5:Option Addr} {C4 C5 t:Nat}
 (hu4:Upd (blk va) w w4) (ho4:w4.ownsRow 0 4 1 (.slice A4 (S.al.length+1) C4) (S.al.length+1) (S.al.map .bool++[.bool true])) (hb4:∀x∈blk (.slice A4 (S.al.length+1) C4),x∈blk va∨w.heap.size≤x)
 (hu5:Upd (blk vp) w4 w5) (ho5:w5.ownsRow 0 3 1 (.slice A5 (S.pl.length+1) C5) (S.pl.length+1) ((S.pl.map fun (n:Nat)=>.int .i64 (n:Int))++[.int .i64 (t:Int)])) (hb5:∀x∈blk (.slice A5 (S.pl.length+1) C5),x∈blk vp∨w4.heap.size≤x)
 (hwf:wf=(w5.setCell ⟨q,3,none⟩ (.slice A4 (S.al.length+1) C4)).setCell ⟨q,2,none⟩ (.slice A5 (S.pl.length+1) C5)∨wf=(w5.setCell ⟨q,2,none⟩ (.slice A5 (S.pl.length+1) C5)).setCell ⟨q,3,none⟩ (.slice A4 (S.al.length+1) C4)) :
 NStep w wf q cb (parts q Fc vb vs vp va).flatten bk { S with al:=S.al++[true],pl:=S.pl++[t] }:=by
 have hha:q∉blk va:=fun hc=>H.dis (i:=0) (j:=4) rfl rfl (by omega) q (by simp) hc
 have hhl:q∉blk vp:=fun hc=>H.dis (i:=0) (j:=3) rfl rfl (by omega) q (by simp) hc
 have hlt:=H.head.lt
 have hh5:=(H.head.upd hu4 hha).upd hu5 hhl
 have hu45:Upd (q::(blk va++blk vp)) w w5:=(hu4.mono (by intro x hx;left;simp [hx])).trans (hu5.mono (by intro x hx;left;simp [hx]))
 have hl4:=own_lt H.prow
 have n4:∀x∈blk (.slice A4 (S.al.length+1) C4),x≠q:=by
  intro x hx e;subst e
  rcases hb4 x hx with g | g
  ·exact hha g
  ·omega
 have n5:∀x∈blk (.slice A5 (S.pl.length+1) C5),x≠q:=by
  intro x hx e;subst e
  rcases hb5 x hx with g | g
  ·exact hhl g
  ·have:=hu4.size;omega
 have d45:∀x∈blk (.slice A4 (S.al.length+1) C4),x∉blk vp:=by
  intro x hx hc
  rcases hb4 x hx with g | g
  ·exact H.dis (i:=4) (j:=3) rfl rfl (by omega) x g hc
  ·have:=hl4 x hc;omega
 have ho4':=own_upd ho4 hu5 d45
 have huf:Upd [q] w5 wf:=by
  rcases hwf with rfl | rfl
  ·exact ((Upd.refl _ _).setCell (p:=⟨q,3,none⟩) (.inl (by simp)) _).setCell (p:=⟨q,2,none⟩) (.inl (by simp)) _
  ·exact ((Upd.refl _ _).setCell (p:=⟨q,2,none⟩) (.inl (by simp)) _).setCell (p:=⟨q,3,none⟩) (.inl (by simp)) _
 have hhf:HcC wf q #[.pointer (some ⟨cb,0,none⟩),vb,.slice A5 (S.pl.length+1) C5,.slice A4 (S.al.length+1) C4,.int .i64 (S.n:Int)] 175:=by
  rcases hwf with rfl | rfl
  ·have g:=(hh5.set 3 (.slice A4 (S.al.length+1) C4)).set 2 (.slice A5 (S.pl.length+1) C5)
   simpa using g
  ·have g:=(hh5.set 2 (.slice A5 (S.pl.length+1) C5)).set 3 (.slice A4 (S.al.length+1) C4)
   simpa using g
 have hu:Upd (q::(blk va++blk vp)) w wf:=hu45.trans (huf.mono (by intro x hx;left;simp at hx;simp [hx]))
 have hb5':∀x∈blk (.slice A5 (S.pl.length+1) C5),x∈blk vp∨w.heap.size≤x:=fun x hx=>(hb5 x hx).imp id fun g=>Nat.le_trans hu4.size g
 have hr:=H.two (al:=S.al++[true]) (pl:=S.pl++[t]) hu hhf
  (by have:=own_upd ho4' huf (fun x hx=>by simpa using n4 x hx);unfold boolRow;simpa using this)
  (by have:=own_upd ho5 huf (fun x hx=>by simpa using n5 x hx);unfold natRow;simpa using this) hb4 hb5'
 refine ⟨_,_,_,_,_,hr,hu.mono fun x hx=>.inl ?_,fun x hx=>?_⟩
 ·rcases List.mem_cons.1 hx with rfl | hx
  ·exact mem_part (i:=0) (P:=[x]) rfl (by simp)
  ·rcases List.mem_append.1 hx with hx | hx
   ·exact mem_part (i:=4) rfl hx
   ·exact mem_part (i:=3) rfl hx
 ·obtain ⟨P,hP,hxP⟩:=List.mem_flatten.1 hx
  simp only [parts,List.mem_cons,List.not_mem_nil,or_false] at hP
  rcases hP with rfl | rfl | rfl | rfl | rfl
  ·exact .inl (mem_part (i:=0) (P:=[q]) rfl hxP)
  ·exact .inl (mem_part (i:=1) rfl hxP)
  ·exact .inl (mem_part (i:=2) rfl hxP)
  ·exact (hb5' x hxP).imp (mem_part (i:=3) rfl) id
  ·exact (hb4 x hxP).imp (mem_part (i:=4) rfl) id
theorem NStep.next {w'':World} {F F1:List Nat} (hu:Upd F w w') (hF:∀x∈F1,x∈F∨w.heap.size≤x) (K:NStep w' w'' q cb F1 bk S):NStep w w'' q cb F bk S:=by
 obtain ⟨vb,vp,va,vs,Fc,h,h1,h2⟩:=K
 refine ⟨vb,vp,va,vs,Fc,h,hu.trans' h1 hF,fun x hx=>?_⟩
 rcases h2 x hx with g | g
 ·exact hF x g
 ·exact .inr (Nat.le_trans hu.size g)
theorem putOld (tv:Value) (F:List Nat) (S:NS) (x p k:Nat) (w:World) (H:IsNm w tv F S) (I:NInv S) (hl:S.cs.length<90000) (hn:S.n<100000) (hk:S.cs.lookup x=some k) :
 Calls Tryz.prog 72 #[tv,.int .u32 (x:Int),.int .i64 (p:Int)] w fun e w'=>
  (S.al.getD k false=true∧e=.returned (.int .i64 2)∧Upd [] w w')∨(S.al.getD k false=false∧e=.returned (.int .i64 0)∧NmStep w w' tv F (revS S k p)):=by
 have HN:=Lib.hid (noneN tv F w H)
 have hfc:=findC tv F S x w H I hl
 unfold FindPost at hfc
 rw [hk] at hfc
 have HF:=Lib.hid hfc
 have HH:=Lib.hid H
 have HI:=Lib.hid I
 obtain ⟨q,cb,vb,vp,va,vs,bk,Fc,rfl,-⟩:=H
 obtain ⟨hk1,hk2⟩:=num_lt I hk
 have hd:numV (some k)=(k:Int):=rfl
 rw [hd] at HF
 clear I hk hfc hd
 go_enter Tryz.func72,Tryz.ntmps72
 go_wp2_with fail
 (with_reducible refine HN.out.mono ?_)
 rintro e w' ⟨rfl,rfl⟩
 go_wp2_with fail
 (with_reducible refine HF.out.mono ?_)
 rintro e w1 ⟨t,rfl,ht,hu⟩
 have HU:=Lib.hid hu
 obtain ⟨q,cb,vb,vp,va,vs,bk,Fc,he,H1,hb,hF⟩:=HH.out.upd hu (by simp)
 cases he
 obtain ⟨-,-,h2,h3,h4,hfr⟩:=H1.cell
 obtain ⟨ga,Ca,rfl,a1,a2,-⟩:=alive_at H1.arow hk1
 obtain ⟨gp,Cp,rfl,p1,p2,-⟩:=place_at H1.prow hk2
 have hf4:=hfr 4
 have k0:(0:Int)≤(k:Int):=Int.natCast_nonneg _
 have k1:(k:Int)<(S.al.length:Int):=by omega
 have k2:(k:Int)<(S.pl.length:Int):=by omega
 have HH1:=Lib.hid (And.intro H1 (And.intro hb hF))
 by_cases hal:S.al.getD k false=true
 ·rw [hal] at a1
  clear H1 hb hF hu hfr hk1 hk2 p1 p2 a2 hf4 h4 HH1
  have HAL:=Lib.hid hal
  clear hal
  dsimp only
  go_wp2_with fail
  go_ret
  exact .inl ⟨HAL.out,rfl,HU.out⟩
 ·have hal2:S.al.getD k false=false:=by simpa using hal
  rw [hal2] at a1
  have HAL:=Lib.hid hal2
  clear hal hal2
  have n0:(0:Int)≤(S.n:Int):=Int.natCast_nonneg _
  have n1:(S.n:Int)<100000:=by omega
  have hqa:q≠ga:=fun e=>H1.dis (i:=0) (j:=4) rfl rfl (by omega) q (by simp) (by simp [blk,e])
  have hqp:q≠gp:=fun e=>H1.dis (i:=0) (j:=3) rfl rfl (by omega) q (by simp) (by simp [blk,e])
  have hap:ga≠gp:=fun e=>H1.dis (i:=4) (j:=3) rfl rfl (by omega) ga (by simp [blk]) (by simp [blk,e])
  have hcn:=H1.count (S.n+1)
  have he:Value.int .i64 ((S.n+1:Nat):Int)=Value.int .i64 ((S.n:Int)+1):=by congr 1
  rw [he] at hcn
  have hm1:=hcn.mark rfl k true
  have hm2:=hm1.lay rfl k p
  have hus:Upd (parts q Fc vb vs (.slice (some ⟨gp,0,none⟩) S.pl.length Cp) (.slice (some ⟨ga,0,none⟩) S.al.length Ca)).flatten w1 (((w1.setCell ⟨q,4,none⟩ (.int .i64 ((S.n:Int)+1))).setCell ⟨ga,k,none⟩ (.bool true)).setCell ⟨gp,k,none⟩ (.int .i64 (p:Int))):=
   (((Upd.refl _ _).setCell (p:=⟨q,4,none⟩) (.inl (mem_part (i:=0) (P:=[q]) rfl (by simp))) _).setCell (p:=⟨ga,k,none⟩) (.inl (mem_part (i:=4) (P:=[ga]) rfl (by simp))) _).setCell (p:=⟨gp,k,none⟩) (.inl (mem_part (i:=3) (P:=[gp]) rfl (by simp))) _
  have hfin:NmStep w1 (((w1.setCell ⟨q,4,none⟩ (.int .i64 ((S.n:Int)+1))).setCell ⟨ga,k,none⟩ (.bool true)).setCell ⟨gp,k,none⟩ (.int .i64 (p:Int))).drew (.pointer (some ⟨q,0,none⟩)) (parts q Fc vb vs (.slice (some ⟨gp,0,none⟩) S.pl.length Cp) (.slice (some ⟨ga,0,none⟩) S.al.length Ca)).flatten (revS S k p):=by
   refine (NStep.is (bk:=bk) ⟨_,_,_,_,_,hm2,hus,fun x hx=>.inl hx⟩ (by exact hb)).quiet ((Upd.refl _ _).drew)
  have hm3:=(hcn.lay rfl k p).mark rfl k true
  have hus2:Upd (parts q Fc vb vs (.slice (some ⟨gp,0,none⟩) S.pl.length Cp) (.slice (some ⟨ga,0,none⟩) S.al.length Ca)).flatten w1 (((w1.setCell ⟨q,4,none⟩ (.int .i64 ((S.n:Int)+1))).setCell ⟨gp,k,none⟩ (.int .i64 (p:Int))).setCell ⟨ga,k,none⟩ (.bool true)):=
   (((Upd.refl _ _).setCell (p:=⟨q,4,none⟩) (.inl (mem_part (i:=0) (P:=[q]) rfl (by simp))) _).setCell (p:=⟨gp,k,none⟩) (.inl (mem_part (i:=3) (P:=[gp]) rfl (by simp))) _).setCell (p:=⟨ga,k,none⟩) (.inl (mem_part (i:=4) (P:=[ga]) rfl (by simp))) _
  have hfin2:NmStep w1 (((w1.setCell ⟨q,4,none⟩ (.int .i64 ((S.n:Int)+1))).setCell ⟨gp,k,none⟩ (.int .i64 (p:Int))).setCell ⟨ga,k,none⟩ (.bool true)).drew (.pointer (some ⟨q,0,none⟩)) (parts q Fc vb vs (.slice (some ⟨gp,0,none⟩) S.pl.length Cp) (.slice (some ⟨ga,0,none⟩) S.al.length Ca)).flatten (revS S k p):=by
   refine (NStep.is (bk:=bk) ⟨_,_,_,_,_,hm3,hus2,fun x hx=>.inl hx⟩ (by exact hb)).quiet ((Upd.refl _ _).drew)
  have HFIN:=Lib.hid (And.intro hfin (And.intro hfin2 hF))
  clear hm1 hm2 hm3 hus hus2 hfin hfin2 hcn hb hF H1 hu hfr hk1 hk2
  dsimp only
  go_upto_region 7 with fail
  have e2:(w1.setCell ⟨q,4,none⟩ (.int .i64 ((S.n:Int)+1))).cell? ⟨q,2,none⟩=some (.slice (some ⟨gp,0,none⟩) S.pl.length Cp):=by rw [World.cell?_setCell_other _ _ _ _ (by simp)];exact h2
  have e3:(w1.setCell ⟨q,4,none⟩ (.int .i64 ((S.n:Int)+1))).cell? ⟨q,3,none⟩=some (.slice (some ⟨ga,0,none⟩) S.al.length Ca):=by rw [World.cell?_setCell_other _ _ _ _ (by simp)];exact h3
  have e4:(w1.setCell ⟨q,4,none⟩ (.int .i64 ((S.n:Int)+1))).cell? ⟨ga,k,none⟩=some (.bool false):=by rw [World.cell?_setCell_other _ _ _ _ (by simp)];exact a1
  have e5:(w1.setCell ⟨q,4,none⟩ (.int .i64 ((S.n:Int)+1))).cell? ⟨gp,k,none⟩=some (.int .i64 ((S.pl.getD k 0:Nat):Int)):=by rw [World.cell?_setCell_other _ _ _ _ (by simp)];exact p1
  have e6:(w1.setCell ⟨q,4,none⟩ (.int .i64 ((S.n:Int)+1))).frozen? ⟨ga,k,none⟩=false:=by rw [World.frozen?_setCell];exact a2
  have e7:(w1.setCell ⟨q,4,none⟩ (.int .i64 ((S.n:Int)+1))).frozen? ⟨gp,k,none⟩=false:=by rw [World.frozen?_setCell];exact p2
  generalize (w1.setCell ⟨q,4,none⟩ (.int .i64 ((S.n:Int)+1)))=w2 at HFIN e2 e3 e4 e5 e6 e7 ⊢
  clear h2 h3 h4 a1 a2 p1 p2 hf4 hqa hqp
  go_upto_region 8 with fail
  go_region
  all_goals
   go_wp2_with fail
   go_ret
   refine .inr ⟨HAL.out,rfl,?_⟩
   obtain ⟨h9,h8,hF⟩:=HFIN.out
   rw [←hF] at h9 h8
   first
    |exact h9.ahead HU.out
    |exact h8.ahead HU.out
end Go.Proofs.YtkbaaonchdeneaaGreat.Nm
namespace Go.Proofs.YtkbaaonchdeneaaGreat.Nm
open Go.RowKit
attribute [local go_sem ↓] Go.wp_at_zero Go.wp_at_succ
variable {w w':World} {q cb:Nat} {vb vp va:Value} {vs:List Value} {bk:List (List (Nat×Nat))} {Fc:List Nat} {S:NS}
theorem NmAt.wide {w1 w2:World} (H:NmAt w q cb vb vp va vs bk Fc S) {o:Obj} {A:Option Addr} {C:Nat} (HP:AppPost (w.alloc o) w1 0 187 1 vb vs.length vs 1 [.slice none 0 0] A C)
 (hw:w2=w1.setCell ⟨q,1,none⟩ (.slice A (vs.length+1) C)) :
 NStep w w2 q cb (parts q Fc vb vs vp va).flatten (bk++[[]]) S:=by
 subst hw
 obtain ⟨p1,p2⟩:=H.rows.snoc HP
 have hqb:q∉rfoot vb vs:=fun hc=>H.dis (i:=0) (j:=2) rfl rfl (by omega) q (by simp) hc
 have hu1:Upd (rfoot vb vs) w w1:=(((Upd.refl _ _).alloc _).trans HP.upd).mono (fun x hx=>.inl (mem_rfoot.2 (.inl hx)))
 have hh1:=(H.head.upd hu1 hqb).set 1 (.slice A (vs.length+1) C)
 have hus:Upd [q] w1 (w1.setCell ⟨q,1,none⟩ (.slice A (vs.length+1) C)):=(Upd.refl _ _).setCell (p:=⟨q,1,none⟩) (.inl (by simp)) _
 have hnq:∀x∈rfoot (.slice A (vs.length+1) C) (vs++[.slice none 0 0]),x∉[q]:=by
  intro x hx hc
  simp at hc
  subst hc
  rcases p2 x hx with g | g
  ·exact hqb g
  ·have:=H.head.lt;omega
 have hbks:=H.bks (vb':=.slice A (vs.length+1) C) (vs':=vs++[.slice none 0 0]) (bk':=bk++[[]]) (w':=w1.setCell ⟨q,1,none⟩ (.slice A (vs.length+1) C)) ((hu1.mono (by intro x hx;left;simp [hx])).trans (hus.mono (by intro x hx;left;simp at hx;simp [hx])))
  (by simpa using hh1) (p1.upd hus hnq) p2
 refine ⟨_,_,_,_,_,hbks,(hu1.mono (fun x hx=>.inl (mem_part (i:=2) rfl hx))).trans (hus.mono (fun x hx=>.inl (mem_part (i:=0) (P:=[q]) rfl hx))),fun x hx=>?_⟩
 have e:parts q Fc (.slice A (vs.length+1) C) (vs++[.slice none 0 0]) vp va=(parts q Fc vb vs vp va).set 2 (rfoot (.slice A (vs.length+1) C) (vs++[.slice none 0 0])):=rfl
 rw [e] at hx
 rcases flat_set hx with g | g
 ·exact .inl g
 ·rcases p2 x g with g | g
  ·exact .inl (mem_part (i:=2) rfl g)
  ·exact .inr g
theorem NmAt.turn (H:NmAt w q cb vb vp va vs bk Fc S) {g N C:Nat} (hv:vb=.slice (some ⟨g,0,none⟩) N C) (i:Nat) (u:Value) (l:List (Nat×Nat)) (hrow:CEn.KI.row w 0 u l) (hap:∀k∈blk u,k∉(parts q Fc vb vs vp va).flatten) :
 NmAt (w.setCell ⟨g,i,none⟩ u) q cb vb vp va (vs.set i u) (bk.set i l) Fc S∧Upd (parts q Fc vb vs vp va).flatten w (w.setCell ⟨g,i,none⟩ u)∧∀x∈(parts q Fc vb (vs.set i u) vp va).flatten,x∈(parts q Fc vb vs vp va).flatten∨x∈blk u:=by
 subst hv
 have hgF:g∈(parts q Fc (.slice (some ⟨g,0,none⟩) N C) vs vp va).flatten:=mem_part (i:=2) rfl (mem_rfoot.2 (.inl (by simp [blk])))
 have hN:N=vs.length:=by
  obtain ⟨A',C',he⟩:=own_form H.rows.list
  cases he;rfl
 have hu:Upd [g] w (w.setCell ⟨g,i,none⟩ u):=(Upd.refl _ _).setCell (p:=⟨g,i,none⟩) (.inl (by simp)) _
 have d:∀(j:Nat) (Q:List Nat),j≠2→(parts q Fc (.slice (some ⟨g,0,none⟩) N C) vs vp va)[j]? = some Q→Disj Q [g]:=fun j Q hne hj x hx hc=>by
  simp at hc
  subst hc
  exact H.dis hj (j:=2) rfl hne x hx (mem_rfoot.2 (.inl (by simp [blk])))
 have hr:=H.rows.put hN i u l hrow (fun k hk=>⟨fun e=>hap k hk (by rw [e];exact hgF),fun j t _ ht hc=>hap k hk (mem_part (i:=2) rfl (mem_rfoot.2 (.inr ⟨j,t,ht,hc⟩)))⟩)
 have hrf:∀x∈rfoot (.slice (some ⟨g,0,none⟩) N C) (vs.set i u),x∈rfoot (.slice (some ⟨g,0,none⟩) N C) vs∨x∈blk u:=by
  intro x hx
  rcases mem_rfoot.1 hx with h | ⟨j,t,ht,hx⟩
  ·exact .inl (mem_rfoot.2 (.inl h))
  ·rw [List.getElem?_set] at ht
   split at ht
   ·split at ht
    ·simp at ht;subst ht;exact .inr hx
    ·cases ht
   ·exact .inl (mem_rfoot.2 (.inr ⟨j,t,ht,hx⟩))
 refine ⟨⟨H.head.upd hu (d 0 [q] (by omega) rfl q (by simp)),H.car.upd hu (d 1 _ (by omega) rfl),hr,own_upd H.prow hu (d 3 _ (by omega) rfl),own_upd H.arow hu (d 4 _ (by omega) rfl),?_⟩,hu.mono (fun x hx=>.inl (by simp at hx;subst hx;exact hgF)),?_⟩
 ·have:=pw_put H.apart (i:=2) (G':=rfoot (.slice (some ⟨g,0,none⟩) N C) (vs.set i u)) (fun j hj hne x hx hc=>by
   rcases hrf x hx with g1 | g1
   ·exact H.dis (i:=2) (j:=j) rfl (List.getElem?_eq_getElem hj) (Ne.symm hne) x g1 hc
   ·exact hap x g1 (mem_part (List.getElem?_eq_getElem hj) hc))
  exact this
 ·intro x hx
  have e:parts q Fc (.slice (some ⟨g,0,none⟩) N C) (vs.set i u) vp va=(parts q Fc (.slice (some ⟨g,0,none⟩) N C) vs vp va).set 2 (rfoot (.slice (some ⟨g,0,none⟩) N C) (vs.set i u)):=rfl
  rw [e] at hx
  rcases flat_set hx with h | h
  ·exact .inl h
  ·exact (hrf x h).imp (mem_part (i:=2) rfl) id
theorem none_step (bk:List (List (Nat×Nat))) (i:Nat) (hi:i<bk.length):(List.replicate i []++bk.drop i).set i []=List.replicate (i+1) []++bk.drop (i+1):=by
 apply List.ext_getElem?
 intro j
 rw [List.getElem?_set]
 simp only [List.length_append,List.length_replicate,List.length_drop]
 rcases Nat.lt_trichotomy i j with h | h | h
 ·rw [if_neg (by omega),List.getElem?_append_right (by simp;omega),List.getElem?_append_right (by simp;omega)]
  simp only [List.length_replicate,List.getElem?_drop]
  congr 1
  omega
 ·subst h
  rw [if_pos rfl,if_pos (by omega),List.getElem?_append_left (by simp),List.getElem?_replicate,if_pos (by omega)]
 ·rw [if_neg (by omega),List.getElem?_append_left (by simp;omega),List.getElem?_append_left (by simp;omega),List.getElem?_replicate,List.getElem?_replicate,if_pos (by omega),if_pos (by omega)]
theorem put_at (bk:List (List (Nat×Nat))) (t:Nat) (l:List (Nat×Nat)) (ht:t<bk.length):(List.replicate t []++bk.drop t).set t l=List.replicate t []++l::bk.drop (t+1):=by
 rw [List.set_append_right _ _ (by simp)]
 simp only [List.length_replicate,Nat.sub_self]
 rw [List.drop_eq_getElem_cons ht]
 rfl
end Go.Proofs.YtkbaaonchdeneaaGreat.Nm
namespace Go.Proofs.YtkbaaonchdeneaaGreat
theorem gath_end {α:Type} (l:List α) (x:α):2 ^ firstE (setB l)≤l.length+1∧(l.length+1) % 2 ^ firstE (setB l)=0∧(l.length+1) % 2 ^ (firstE (setB l)+1)≠0:=by
 obtain ⟨h1,h2⟩:=firstE_bits l
 obtain ⟨h3,h4,h5⟩:=bits_next _ _ h1 h2
 obtain ⟨h6,h7⟩:=gath_set l x
 generalize firstE (setB l)=t at *
 have hp:=Nat.two_pow_pos t
 have hpt:2 ^ (t+1)=2*2 ^ t:=by rw [Nat.pow_succ,Nat.mul_comm]
 have hr:=rest_is l.length (t+1)
 have hle:l.length / 2 ^ (t+1)*2 ^ (t+1)≤l.length:=Nat.div_mul_le_self _ _
 have hq:l.length / 2 ^ (t+1)*2 ^ (t+1)=l.length+1 - 2 ^ t:=by omega
 have hm:(l.length+1) % 2 ^ (t+1)=2 ^ t:=by
  have:=Nat.div_add_mod l.length (2 ^ (t+1))
  have e:l.length+1=2 ^ (t+1)*(l.length / 2 ^ (t+1))+2 ^ t:=by omega
  rw [e,Nat.mul_add_mod,Nat.mod_eq_of_lt (by omega)]
 refine ⟨by omega,?_,by omega⟩
 have:=Nat.div_add_mod (l.length+1) (2 ^ (t+1))
 rw [hm,hpt] at this
 have e:l.length+1=2 ^ t*(2*((l.length+1) / (2*2 ^ t))+1):=by
  rw [Nat.mul_add,Nat.mul_one,←Nat.mul_assoc,Nat.mul_comm (2 ^ t) 2];exact this.symm
 rw [e]
 exact Nat.mul_mod_right _ _
def wN:Nat→Nat
 |0=>0
 |n+1=>wN n+Nat.gcd (n+1) 512
def wG (n:Nat):Nat→Nat
 |0=>0
 |t+1=>wG n t+2 ^ t*((n+2 ^ t) / (2*2 ^ t))
theorem wN_dec:∀n<402,wN n=wG n 9:=by decide +kernel
def gcdOk (n t:Nat):Bool:=!((n+1) % 2 ^ t==0&&(n+1) % 2 ^ (t+1) != 0)||Nat.gcd (n+1) 512==2 ^ t
theorem gcd_dec:∀n<402,∀t<9,gcdOk n t=true:=by decide +kernel
theorem put_gcd (n:Nat) (hn:n<402) {α:Type} (l:List α) (hl:l.length=n) (x:α):2 ^ firstE (setB l)=Nat.gcd (n+1) 512:=by
 obtain ⟨h1,h2,h3⟩:=gath_end l x
 rw [hl] at h1 h2 h3
 have ht:firstE (setB l)<9:=by
  refine Nat.lt_of_not_le fun h=>?_
  have:=Nat.pow_le_pow_right (n:=2) (by omega) h
  omega
 have:=gcd_dec n hn _ ht
 unfold gcdOk at this
 simp [h2,h3] at this
 exact this.symm
theorem dterm (n k p:Nat) (hk:k≤n) (hp:0<p):2*(p*((n+p) / (2*p)))≤2*(p*((k+p) / (2*p)))+(n - k)+2*p:=by
 have h1:2*p*((n+p) / (2*p))≤n+p:=Nat.mul_div_le _ _
 have h2:=Nat.div_add_mod (k+p) (2*p)
 have h3:=Nat.mod_lt (k+p) (show 2*p > 0 by omega)
 rw [←Nat.mul_assoc,←Nat.mul_assoc]
 omega
theorem dzero (n p:Nat) (h:n<p):(n+p) / (2*p)=0:=Nat.div_eq_of_lt (by omega)
theorem pow_le_of (n T T0:Nat) (h1:n<2 ^ (T+1)) (h2:2 ^ T0≤n):T0≤T:=by
 refine Nat.le_of_not_lt fun h=>?_
 have:=Nat.pow_le_pow_right (n:=2) (by omega) (show T+1≤T0 from h)
 omega
theorem wG_diff (n k:Nat) (hk:k≤n):∀t,2*wG n t+2≤2*wG k t+(n - k)*t+2*2 ^ t
 |0=>by simp [wG]
 |t+1=>by
  have ih:=wG_diff n k hk t
  have h:=dterm n k (2 ^ t) hk (Nat.pow_pos (by omega))
  simp only [wG]
  rw [Nat.mul_add,Nat.mul_add,Nat.mul_add (n - k),Nat.mul_one,Nat.pow_succ]
  omega
theorem wG_over (n s:Nat) (h:n<2 ^ s):∀t,wG n (s+t)=wG n s
 |0=>rfl
 |t+1=>by
  have h1:2 ^ s≤2 ^ (s+t):=Nat.pow_le_pow_right (by omega) (by omega)
  show wG n (s+t)+2 ^ (s+t)*((n+2 ^ (s+t)) / (2*2 ^ (s+t)))=wG n s
  rw [dzero n _ (by omega),wG_over n s h t]
  omega
theorem wdiff (T n k:Nat) (hk:k≤n) (hn:n<402) (hT:n<2 ^ (T+1)):2*wN n≤2*wN k+(n - k)*(T+1)+4*n:=by
 rw [wN_dec n hn,wN_dec k (by omega)]
 by_cases h0:n=0
 ·have:k=0:=by omega
  subst h0 this
  omega
 ·have h1:=Nat.log2_self_le h0
  have h2:=Nat.lt_log2_self (n:=n)
  have h3:=pow_le_of n T _ hT h1
  obtain ⟨L,hL⟩:∃L,Nat.log2 n=L:=⟨_,rfl⟩
  rw [hL] at h1 h2 h3
  have h8:L≤8:=by
   refine Nat.le_of_not_lt fun h=>?_
   have:=Nat.pow_le_pow_right (n:=2) (by omega) (show 9≤L from h)
   omega
  have e1:=wG_over n (L+1) h2 (8 - L)
  have e2:=wG_over k (L+1) (by omega) (8 - L)
  rw [show L+1+(8 - L)=9 by omega] at e1 e2
  have h5:=wG_diff n k hk (L+1)
  have h6:(n - k)*(L+1)≤(n - k)*(T+1):=Nat.mul_le_mul_left _ (by omega)
  rw [e1,e2]
  rw [Nat.pow_succ] at h5
  omega
def BdN (n v wk A D:Nat):Prop:=∃k R a d,n=k+a∧v+d=n∧a≤A∧d≤D∧n≤A∧n≤2*v∧wk+wN k≤wN n+R∧
 ∀T,A+D<2 ^ (T+1)→2*R+4*k≤(A - a)*(T+1)+4*(A - a)+6*(D - d)
theorem bd0:BdN 0 0 0 0 0:=⟨0,0,0,0,rfl,rfl,by omega,by omega,by omega,by omega,by simp [wN],fun _ _=>by omega⟩
theorem bd_put {n v wk A D:Nat} (h:BdN n v wk A D):BdN (n+1) (v+1) (wk+Nat.gcd (n+1) 512) (A+1) D:=by
 obtain ⟨k,R,a,d,h1,h2,h3,h4,h5,h6,h7,h8⟩:=h
 refine ⟨k,R,a+1,d,by omega,by omega,by omega,h4,by omega,by omega,?_,fun T hT=>?_⟩
 ·show wk+Nat.gcd (n+1) 512+wN k≤wN n+Nat.gcd (n+1) 512+R
  omega
 ·have:=h8 T (by omega)
  rw [show A+1 - (a+1)=A - a by omega]
  exact this
theorem bd_keep {n v wk A D:Nat} (h:BdN n (v+1) wk A D) (hn:¬2*v<n):BdN n v wk A (D+1):=by
 obtain ⟨k,R,a,d,h1,h2,h3,h4,h5,h6,h7,h8⟩:=h
 refine ⟨k,R,a,d+1,h1,by omega,h3,by omega,h5,by omega,h7,fun T hT=>?_⟩
 have:=h8 T (by omega)
 rw [show D+1 - (d+1)=D - d by omega]
 exact this
theorem bd_anew {n v wk A D:Nat} (h:BdN n (v+1) wk A D) (hn:2*v<n) (hl:n<402):BdN v v (wk+v) A (D+1):=by
 obtain ⟨k,R,a,d,h1,h2,h3,h4,h5,h6,h7,h8⟩:=h
 refine ⟨v,wk+v,0,0,rfl,by omega,by omega,by omega,by omega,by omega,by omega,fun T hT=>?_⟩
 have e1:=h8 T (by omega)
 have e2:=wdiff T n k (by omega) hl (by omega)
 rw [show n - k=a by omega] at e2
 have e3:a*(T+1)+(A - a)*(T+1)=A*(T+1):=by rw [←Nat.add_mul];congr 1;omega
 rw [Nat.sub_zero,Nat.sub_zero]
 generalize a*(T+1)=p at *
 generalize (A - a)*(T+1)=q at *
 omega
theorem bd_end {n v wk A D:Nat} (h:BdN n v wk A D) (hl:n<402):wk≤(A+D)*(bitsN (A+D)+2):=by
 obtain ⟨k,R,a,d,h1,h2,h3,h4,h5,h6,h7,h8⟩:=h
 have hb:=bitsN_lt (A+D)
 obtain ⟨b,hbb⟩:∃b,bitsN (A+D)=b:=⟨_,rfl⟩
 rw [hbb] at hb ⊢
 by_cases h0:b=0
 ·subst h0
  have:A+D=0:=by simp at hb;omega
  have hA:A=0:=by omega
  have hD:D=0:=by omega
  subst hA hD
  have e1:=h8 0 (by simp)
  have ha:a=0:=by omega
  have hk:k=0:=by omega
  subst ha hk
  have hn:n=0:=by omega
  subst hn
  simp [wN] at h7
  omega
 ·obtain ⟨T,rfl⟩:∃T,b=T+1:=⟨b - 1,by omega⟩
  have e1:=h8 T hb
  have e2:=wdiff T n k (by omega) hl (by omega)
  rw [show n - k=a by omega] at e2
  have e3:a*(T+1)+(A - a)*(T+1)=A*(T+1):=by rw [←Nat.add_mul];congr 1;omega
  have e4:D≤D*(T+1):=Nat.le_mul_of_pos_right _ (by omega)
  have e5:(A+D)*(T+1+2)=A*(T+1)+D*(T+1)+2*A+2*D:=by rw [Nat.mul_add,Nat.add_mul];omega
  rw [e5]
  generalize a*(T+1)=p at *
  generalize (A - a)*(T+1)=q at *
  generalize A*(T+1)=r at *
  generalize D*(T+1)=t at *
  omega
theorem bd_two {n v wk A D:Nat} (h:BdN n v wk A D):v≤n∧n≤2*v:=by
 obtain ⟨k,R,a,d,h1,h2,h3,h4,h5,h6,h7,h8⟩:=h
 omega
section
variable {α:Type} [DecidableEq α]
def BdS (S:HS α) (A D:Nat):Prop:=BdN S.cs.length (live S.al S.cs).length S.wk A D
theorem bds_put {S:HS α} {A D:Nat} (h:BdS S A D) (I:HInv S) (x:α) (hm:S.cs.length<401):BdS (addS S x) (A+1) D:=by
 have e1:=live_addS I x
 have e2:=put_gcd S.cs.length (by omega) S.cs rfl (x,S.al.length)
 unfold BdS
 rw [e1,List.length_append]
 show BdN (S.cs++[(x,S.al.length)]).length ((live S.al S.cs).length+1) (S.wk+2 ^ firstE (setB S.cs)) (A+1) D
 rw [List.length_append,e2]
 exact bd_put h
theorem bds_drop {S:HS α} {A D:Nat} (h:BdS S A D) (I:HInv S) {x:α} {k:Nat} (hk:S.mp.lookup x=some (k:Int)) (hm:S.cs.length<402):BdS (dropS S x k) A (D+1):=by
 have e2:=wk_drop I hk
 have e3:=view_drop I hk
 have e0:(viewAll (viewKill (view S) x)).length+1=(live S.al S.cs).length:=by
  have h1:=(I.core.drop1 hk).mp_len
  rw [view_drop1 I.core hk] at h1
  have h1':(mdel S.mp x).length=(viewAll (viewKill (view S) x)).length:=h1
  have h2:=length_mdel I.keys x
  rw [hk] at h2
  simp at h2
  have h3:=I.core.mp_len
  rw [view_all] at h3
  omega
 unfold BdS at h ⊢
 rw [←view_all (dropS S x k),←view_len (dropS S x k),e2,e3]
 rw [←e0,←view_len] at h
 have hcl:(view S).length<402:=by rw [view_len];omega
 have e4:(viewAll (viewDrop (view S) x)).length=(viewAll (viewKill (view S) x)).length:=by rw [Ps.viewAll_drop,Ps.viewAll_kill]
 have e5:(viewDrop (view S) x).length=if 2*(viewAll (viewKill (view S) x)).length<(view S).length then (viewAll (viewKill (view S) x)).length else (view S).length:=by
  unfold viewDrop
  split
  ·rw [List.length_map]
  ·unfold viewKill
   rw [List.length_map]
 rw [e4,e5]
 generalize (viewAll (viewKill (view S) x)).length=v at *
 by_cases hv:2*v<(view S).length
 ·rw [if_pos hv,if_pos hv]
  exact bd_anew h hv hcl
 ·rw [if_neg hv,if_neg hv]
  exact bd_keep h hv
end
end Go.Proofs.YtkbaaonchdeneaaGreat
