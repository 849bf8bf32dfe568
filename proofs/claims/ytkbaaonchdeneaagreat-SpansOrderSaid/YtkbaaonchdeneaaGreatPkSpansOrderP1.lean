/- Spans in any order, plainly. -/
import Derived.Test.YtkbaaonchdeneaaGreatPkSpansTellP12
namespace Go.Proofs.YtkbaaonchdeneaaGreat.PSp
open Go.RowKit
def okS (l:List Sp):List Sp:=l.filter fun s=>decide (s.lo≤s.hi)
theorem put_ok {l:List Sp} {s:Sp} (h:∀u∈l,u.id≠s.id):putL l s=l++okS [s]:=by
 unfold putL mayL okS
 by_cases e:s.lo≤s.hi
 ·rw [decide_eq_true e,decide_eq_true h]
  simp [e]
 ·rw [decide_eq_false e]
  simp
  omega
theorem okS_app (a b:List Sp):okS (a++b)=okS a++okS b:=by unfold okS;rw [List.filter_append]
theorem put_less {l:List Sp} {s:Sp} (h:∀u∈l,u.id≠s.id):lessL (putL l s) s.id=l:=by
 have h1:lessL l s.id=l:=by
  unfold lessL
  rw [List.filter_eq_self]
  intro y hy
  simpa using h y hy
 unfold putL
 split
 ·unfold lessL at h1 ⊢
  rw [List.filter_append,h1,List.filter_cons,if_neg (by simp)]
  simp
 ·exact h1
theorem stab_perm {l m:List Sp} (h:l.Perm m) (x:Int):stabL l x=stabL m x:=stabL_perm h x
theorem meet_perm {l m:List Sp} (h:l.Perm m) (lo hi:Int):meetL l lo hi=meetL m lo hi:=by
 unfold meetL
 split
 ·rfl
 ·exact sortN_congr ((h.filter _).map _)
theorem ok_perm {l m:List Sp} (h:l.Perm m):(okS l).Perm (okS m):=h.filter _
end Go.Proofs.YtkbaaonchdeneaaGreat.PSp
