/- Where a name stands in a list of spans, plainly. -/
import Derived.Test.YtkbaaonchdeneaaGreatPkSpansTellP12
import Derived.Test.YtkbaaonchdeneaaGreatPkSpansTellP13
namespace Go.Proofs.YtkbaaonchdeneaaGreat.PSp
open Go.RowKit
theorem find_none {l:List Sp} {x:Nat} (h:findN l x=none):hasL l x=false∧getL l x=none∧(∀u∈l,u.id≠x):=by
 unfold findN at h
 rw [List.findIdx?_eq_none_iff] at h
 have h1:∀u∈l,u.id≠x:=fun u hu=>by simpa using h u hu
 refine ⟨?_,?_,h1⟩
 ·unfold hasL
  rw [List.any_eq_false]
  intro u hu
  simpa using h1 u hu
 ·unfold getL
  rw [List.find?_eq_none]
  intro u hu
  simpa using h1 u hu
theorem find_some {l:List Sp} (hn:(l.map Sp.id).Nodup) {x i:Nat} (h:findN l x=some i):∃s,l[i]? = some s∧s.id=x∧hasL l x=true∧getL l x=some s∧l.eraseIdx i=lessL l x:=by
 unfold findN at h
 rw [List.findIdx?_eq_some_iff_getElem] at h
 obtain ⟨h1,h2,h3⟩:=h
 have hs:l[i]? = some l[i]:=List.getElem?_eq_getElem h1
 have he:(l[i]).id=x:=by simpa using h2
 have hm:l[i]∈l:=List.getElem_mem h1
 refine ⟨l[i],hs,he,?_,?_,?_⟩
 ·unfold hasL
  rw [List.any_eq_true]
  exact ⟨l[i],hm,by simpa using he⟩
 ·unfold getL
  cases hf:l.find? fun y=>y.id==x with
  |none=>
   rw [List.find?_eq_none] at hf
   have:=hf _ hm
   simp [he] at this
  |some t=>
   have h4:=List.mem_of_find?_eq_some hf
   have h5:=List.find?_some hf
   simp at h5
   rw [Ps.name_inj hn h4 hm (h5.trans he.symm)]
 ·rw [eraseIdx_filter (nodup_of_names hn) hs]
  unfold lessL
  refine List.filter_congr fun y hy=>?_
  by_cases e:y=l[i]
  ·subst e
   simp [he]
  ·have:y.id≠x:=fun h=>e (Ps.name_inj hn hy hm (h.trans he.symm))
   simp [e,this]
theorem find_may (l:List Sp) (s:Sp):mayL l s=(decide (s.lo≤s.hi)&&(findN l s.id).isNone):=by
 unfold mayL
 congr 1
 cases h:findN l s.id with
 |none=>rw [decide_eq_true (find_none h).2.2];rfl
 |some i=>
  unfold findN at h
  rw [List.findIdx?_eq_some_iff_getElem] at h
  obtain ⟨h1,h2,-⟩:=h
  rw [decide_eq_false]
  ·rfl
  ·intro hc
   exact hc _ (List.getElem_mem h1) (by simpa using h2)
end Go.Proofs.YtkbaaonchdeneaaGreat.PSp
