/- sort.order: which key stands ahead. sort.merged: two lists of places as one. sort.places, sort.ordered, sort.Order. -/
import Derived.Test.YtkmnbodlciepaaaGreatProg
import Derived.WalkKit
import Derived.Deep.Cut
import Derived.Deep.QuietTactic
import Derived.Deep.LoopGhost
import Derived.IntWalk
import Derived.Laws.MakeOwn
import Derived.Test.YtkmnbodlciepaaaGreatPk4
import Derived.Test.YtkmnbodlciepaaaGreatPk17
import Derived.Test.YtkmnbodlciepaaaGreatPk5
set_option maxRecDepth 100000
namespace Go.Proofs.YtkmnbodlciepaaaGreat
open Go.RowKit
def cmpZ (a b:Int):Int:=if a<b then -1 else if b<a then 1 else 0
theorem isNan64 (x:Int) (w:World):Calls Tryz.prog 146 #[.int .i64 x] w fun e w'=>e=.returned (.bool false)∧w=w':=by
 have h:(x==x)=true:=by simp
 go_enter Tryz.func146,Tryz.ntmps146
 go_wp2_with fail
 go_ret
 exact ⟨rfl,rfl⟩
theorem isNan32 (x:Int) (w:World):Calls Tryz.prog 179 #[.int .u32 x] w fun e w'=>e=.returned (.bool false)∧w=w':=by
 have h:(x==x)=true:=by simp
 go_enter Tryz.func179,Tryz.ntmps179
 go_wp2_with fail
 go_ret
 exact ⟨rfl,rfl⟩
theorem compare64 (a b:Int) (w:World):Calls Tryz.prog 119 #[.int .i64 a,.int .i64 b] w fun e w'=>e=.returned (.int .i64 (cmpZ a b))∧w=w':=by
 unfold cmpZ
 by_cases h1:a<b
 ·rw [if_pos h1]
  go_enter Tryz.func119,Tryz.ntmps119
  go_wp2_with ((with_reducible refine (isNan64 _ _).mono ?_);rintro e w' ⟨rfl,rfl⟩)
  go_ret
  exact ⟨rfl,rfl⟩
 ·rw [if_neg h1]
  by_cases h2:b<a
  ·rw [if_pos h2]
   go_enter Tryz.func119,Tryz.ntmps119
   go_wp2_with ((with_reducible refine (isNan64 _ _).mono ?_);rintro e w' ⟨rfl,rfl⟩)
   go_ret
   exact ⟨rfl,rfl⟩
  ·rw [if_neg h2]
   go_enter Tryz.func119,Tryz.ntmps119
   go_wp2_with ((with_reducible refine (isNan64 _ _).mono ?_);rintro e w' ⟨rfl,rfl⟩)
   go_ret
   exact ⟨rfl,rfl⟩
theorem compare32 (a b:Int) (w:World):Calls Tryz.prog 148 #[.int .u32 a,.int .u32 b] w fun e w'=>e=.returned (.int .i64 (cmpZ a b))∧w=w':=by
 unfold cmpZ
 by_cases h1:a<b
 ·rw [if_pos h1]
  go_enter Tryz.func148,Tryz.ntmps148
  go_wp2_with ((with_reducible refine (isNan32 _ _).mono ?_);rintro e w' ⟨rfl,rfl⟩)
  go_ret
  exact ⟨rfl,rfl⟩
 ·rw [if_neg h1]
  by_cases h2:b<a
  ·rw [if_pos h2]
   go_enter Tryz.func148,Tryz.ntmps148
   go_wp2_with ((with_reducible refine (isNan32 _ _).mono ?_);rintro e w' ⟨rfl,rfl⟩)
   go_ret
   exact ⟨rfl,rfl⟩
  ·rw [if_neg h2]
   go_enter Tryz.func148,Tryz.ntmps148
   go_wp2_with ((with_reducible refine (isNan32 _ _).mono ?_);rintro e w' ⟨rfl,rfl⟩)
   go_ret
   exact ⟨rfl,rfl⟩
def orZ (a b:Int):Int:=if a=0 then b else a
end Go.Proofs.YtkmnbodlciepaaaGreat
