/- The whole of a cover, by its gaps. -/
import Derived.Test.YtcpompbiohaomaaNewP
import Derived.Test.YtcpompbiohaomaaQuietU
import Derived.Test.YtcpompbiohaomaaSame16
namespace Go.Proofs.Ytcpompbiohaomaa
open Go.RowKit

/-- Which gaps are covered, gap by gap. -/
def gapsH (M : List Int) (H : List (Nat × Nat)) : List Bool := (List.range (M.length - 1)).map (holdsG H)
def wholeG (M : List Int) (H : List (Nat × Nat)) : Part := partG (mf M) 0 (gapsH M H)

theorem gapsM_eq {M : List Int} {H : List (Nat × Nat)} (hH : HOkC M H) : gapsM M H = gapsH M H := by
  unfold gapsM gapsH
  split
  · rename_i h; rw [h]; rfl
  · exact gaps_all (by omega) (fun s hs => by have := (hH s hs).2; omega)

theorem wholeP_eq {M : List Int} {H : List (Nat × Nat)} (hH : HOkC M H) : wholeP M H = wholeG M H := by
  unfold wholeP wholeG gapsH
  split
  · rename_i h; rw [h]; rfl
  · rw [partV_gaps (M.length - 1) 0 _ _ _ (by omega) (by omega), gaps_all (by omega) (fun s hs => by have := (hH s hs).2; omega)]

/-- The example of the chapter. -/
structure Rw where
  d : Bool
  lo : Int
  hi : Int
  e : Int
  lg : Int
  rn : Int

def TT : List Rw := [⟨false, 0, 5, 0, 5, 1⟩, ⟨false, 2, 9, 0, 9, 1⟩, ⟨true, 0, 5, 0, 7, 1⟩, ⟨true, 0, 5, 160, 7, 1⟩, ⟨false, 0, 2, 0, 9, 1⟩, ⟨true, 2, 9, 0, 2, 1⟩, ⟨false, 5, 9, 0, 6, 2⟩, ⟨false, 0, 3, 2, 6, 2⟩, ⟨false, 2, 2, 0, 6, 2⟩]
def M4 : List Int := [0, 2, 5, 9]
def stepH (M : List Int) (H : List (Nat × Nat)) (d : Bool) (lo hi : Int) : List (Nat × Nat) := bif d then dropH M H lo hi else addH M H lo hi
def stepX (M : List Int) (H : List (Nat × Nat)) (d : Bool) (lo hi : Int) : Int := bif d then dropX M H lo hi else addX M lo hi
def stepK (M : List Int) (H : List (Nat × Nat)) (d : Bool) (lo hi : Int) : Nat := bif d then dropK M H lo hi else addK M lo hi
def rw9 (k : Nat) : Rw := TT.getD k ⟨false, 0, 0, 0, 0, 0⟩
def stH (k : Nat) : List (Nat × Nat) := (TT.take k).foldl (fun H r => stepH M4 H r.d r.lo r.hi) []

theorem M4_ok : MarksOk M4 := ⟨by decide, by decide, by decide⟩

theorem nine {k : Nat} (h : k < 9) : k = 0 ∨ k = 1 ∨ k = 2 ∨ k = 3 ∨ k = 4 ∨ k = 5 ∨ k = 6 ∨ k = 7 ∨ k = 8 := by omega

theorem stH_succ (k : Nat) (h : k < 9) : stepH M4 (stH k) (rw9 k).d (rw9 k).lo (rw9 k).hi = stH (k + 1) := by
  rcases nine h with rfl | rfl | rfl | rfl | rfl | rfl | rfl | rfl | rfl <;> rfl
theorem stX (k : Nat) (h : k < 9) : stepX M4 (stH k) (rw9 k).d (rw9 k).lo (rw9 k).hi = (rw9 k).e := by
  rcases nine h with rfl | rfl | rfl | rfl | rfl | rfl | rfl | rfl | rfl <;> decide +kernel
theorem stHok (k : Nat) (h : k ≤ 9) : HOkC M4 (stH k) := by
  rcases (by omega : k < 9 ∨ k = 9) with h | rfl
  · rcases nine h with rfl | rfl | rfl | rfl | rfl | rfl | rfl | rfl | rfl <;> (unfold HOkC; decide +kernel)
  · unfold HOkC; decide +kernel
theorem stWhole (k : Nat) (h : k < 9) : (wholeP M4 (stH (k + 1))).long = (rw9 k).lg ∧ ((wholeP M4 (stH (k + 1))).runs : Int) = (rw9 k).rn := by
  rw [wholeP_eq (stHok (k + 1) (by omega))]
  rcases nine h with rfl | rfl | rfl | rfl | rfl | rfl | rfl | rfl | rfl <;> decide +kernel
theorem stLen (k : Nat) (h : k ≤ 9) : (stH k).length ≤ 1000000 := by
  rcases (by omega : k < 9 ∨ k = 9) with h | rfl
  · rcases nine h with rfl | rfl | rfl | rfl | rfl | rfl | rfl | rfl | rfl <;> decide +kernel
  · decide +kernel
theorem stGaps : gapsM M4 (stH 9) = [true, false, true] := by
  rw [gapsM_eq (stHok 9 (Nat.le_refl _))]
  decide +kernel
end Go.Proofs.Ytcpompbiohaomaa
