/- A box by value; a list of boxes, seen. -/
import Derived.Test.YthnbgfnclpkdjaaGreatKinds
import Derived.Test.YthnbgfnclpkdjaaGreatBoxP
import Derived.Test.YthnbgfnclpkdjaaGreatQuietU
import Derived.Test.YthnbgfnclpkdjaaGreatProg
import Derived.WalkKit
import Derived.LoopTactic
import Derived.Deep.Cut
import Derived.Deep.QuietTactic
import Derived.IntWalk
namespace Go.Proofs.YthnbgfnclpkdjaaGreat
open Go.RowKit

/-- A box by value. -/
def bxV (b : Bx) : Value := .agg #[.int .i64 b.x1, .int .i64 b.x2, .int .i64 b.y1, .int .i64 b.y2, .int .u32 (b.id : Int)]

def KBx : Kind Bx := { T := 0, sT := 60, eT := 43, sz := 5, enc := fun b => [.int .i64 b.x1, .int .i64 b.x2, .int .i64 b.y1, .int .i64 b.y2, .int .u32 (b.id : Int)], len := fun _ => rfl, one := fun b u hu => by simp at hu; rcases hu with rfl | rfl | rfl | rfl | rfl <;> rfl }

theorem KBx.at {w : World} {A : Option Addr} {n C : Nat} {l : List Bx} (h : See KBx w (.slice A n C) l) {k : Nat} {x : Bx} (hx : l[k]? = some x) :
    ∃ b o, A = some ⟨b, o, none⟩ ∧ n ≤ C ∧ C ≤ maxLen ∧ w.cell? ⟨b, o + k * 5, none⟩ = some (.int .i64 x.x1) ∧ w.cell? ⟨b, o + k * 5 + 1, none⟩ = some (.int .i64 x.x2) ∧ w.cell? ⟨b, o + k * 5 + 2, none⟩ = some (.int .i64 x.y1) ∧ w.cell? ⟨b, o + k * 5 + 3, none⟩ = some (.int .i64 x.y2) ∧ w.cell? ⟨b, o + k * 5 + 4, none⟩ = some (.int .u32 (x.id : Int)) := by
  obtain ⟨b, o, h1, h2, h3, h4⟩ := h.at hx
  exact ⟨b, o, h1, h2, h3, h4 0 _ rfl, h4 1 _ rfl, h4 2 _ rfl, h4 3 _ rfl, h4 4 _ rfl⟩

end Go.Proofs.YthnbgfnclpkdjaaGreat
