/- Who stabs, who meets, plainly: as a number goes up. -/
import Derived.Test.YtkbaaonchdeneaaGreatPkSpansTellP12
namespace Go.Proofs.YtkbaaonchdeneaaGreat.PSp
open Go.RowKit
theorem mem_stab {l:List Sp} {x:Int} {n:Nat}:n∈stabL l x↔∃s∈l,s.id=n∧s.lo≤x∧x≤s.hi:=by
 unfold stabL
 rw [(sortN_perm _).mem_iff,List.mem_map]
 simp only [List.mem_filter,stabBM,Bool.and_eq_true,decide_eq_true_eq]
 constructor
 ·rintro ⟨s,⟨h1,h2,h3⟩,rfl⟩
  exact ⟨s,h1,rfl,h2,h3⟩
 ·rintro ⟨s,h1,rfl,h2,h3⟩
  exact ⟨s,⟨h1,h2,h3⟩,rfl⟩
theorem mem_meet {l:List Sp} {lo hi:Int} (h:lo≤hi) {n:Nat}:n∈meetL l lo hi↔∃s∈l,s.id=n∧lo≤s.hi∧s.lo≤hi:=by
 unfold meetL
 rw [if_neg (by omega),(sortN_perm _).mem_iff,List.mem_map]
 simp only [List.mem_filter,Bool.and_eq_true,decide_eq_true_eq]
 constructor
 ·rintro ⟨s,⟨h1,h2,h3⟩,rfl⟩
  exact ⟨s,h1,rfl,h2,h3⟩
 ·rintro ⟨s,h1,rfl,h2,h3⟩
  exact ⟨s,⟨h1,h2,h3⟩,rfl⟩
theorem stab_nodup {l:List Sp} (h:(l.map Sp.id).Nodup) (x:Int):(stabL l x).Nodup:=by
 unfold stabL
 rw [(sortN_perm _).nodup_iff]
 exact h.sublist (List.filter_sublist.map _)
theorem meet_nodup {l:List Sp} (h:(l.map Sp.id).Nodup) (lo hi:Int):(meetL l lo hi).Nodup:=by
 unfold meetL
 split
 ·exact List.nodup_nil
 ·rw [(sortN_perm _).nodup_iff]
  exact h.sublist (List.filter_sublist.map _)
theorem get_some {l:List Sp} (h:(l.map Sp.id).Nodup) {s:Sp} (hs:s∈l):getL l s.id=some s:=by
 unfold getL
 cases hf:l.find? fun y=>y.id==s.id with
 |none=>
  rw [List.find?_eq_none] at hf
  have:=hf s hs
  simp at this
 |some t=>
  have h3:=List.mem_of_find?_eq_some hf
  have h4:=List.find?_some hf
  simp at h4
  rw [Ps.name_inj h h3 hs h4]
theorem stab_was {l:List Sp} (h:(l.map Sp.id).Nodup) {x:Int} {n:Nat} (hn:n∈stabL l x):∃s,getL l n=some s∧s∈l∧(n∈stabL l (x - 1)↔s.lo≠x):=by
 obtain ⟨s,h1,rfl,h2,h3⟩:=mem_stab.1 hn
 refine ⟨s,get_some h h1,h1,?_⟩
 rw [mem_stab]
 constructor
 ·rintro ⟨t,g1,g2,g3,g4⟩ e
  have:=Ps.name_inj h g1 h1 g2
  subst this
  omega
 ·intro e
  exact ⟨s,h1,rfl,by omega,by omega⟩
theorem stab_goes {l:List Sp} (h:(l.map Sp.id).Nodup) {x:Int} {n:Nat} (hn:n∈stabL l (x - 1)):∃s,getL l n=some s∧s∈l∧(n∉stabL l x↔s.hi=x - 1):=by
 obtain ⟨s,h1,rfl,h2,h3⟩:=mem_stab.1 hn
 refine ⟨s,get_some h h1,h1,?_⟩
 rw [mem_stab]
 constructor
 ·intro e
  refine Classical.byContradiction fun g=>e ⟨s,h1,rfl,by omega,by omega⟩
 ·rintro e ⟨t,g1,g2,g3,g4⟩
  have:=Ps.name_inj h g1 h1 g2
  subst this
  omega
theorem meet_stabs {l:List Sp} (hr:∀s∈l,s.lo≤s.hi) {lo:Int} {k:Nat} {n:Nat}:n∈meetL l lo (lo+k)↔∃j:Nat,j≤k∧n∈stabL l (lo+j):=by
 rw [mem_meet (by omega)]
 constructor
 ·rintro ⟨s,h1,rfl,h2,h3⟩
  have:=hr s h1
  rcases Int.le_total s.lo lo with h | h
  ·exact ⟨0,Nat.zero_le _,mem_stab.2 ⟨s,h1,rfl,by omega,by omega⟩⟩
  ·refine ⟨(s.lo - lo).toNat,by omega,mem_stab.2 ⟨s,h1,rfl,by omega,by omega⟩⟩
 ·rintro ⟨j,hj,hn⟩
  obtain ⟨s,h1,rfl,h2,h3⟩:=mem_stab.1 hn
  exact ⟨s,h1,rfl,by omega,by omega⟩
theorem perm_of {a b:List Nat} (ha:a.Nodup) (hb:b.Nodup) (h:∀n,n∈a↔n∈b):a.Perm b:=(List.perm_ext_iff_of_nodup ha hb).2 h
end Go.Proofs.YtkbaaonchdeneaaGreat.PSp
