/- The chapter's examples of areas, plainly. -/
import Derived.Test.YtokpdocabmaagaaGreatSweepQ
import Derived.Test.YtokpdocabmaagaaGreatRiseP
namespace Go.Proofs.YtokpdocabmaagaaGreat

def EZ1 : List Bx := [⟨0, 2, 0, 2, 0⟩]
def EZ2 : List Bx := [⟨0, 2, 0, 2, 0⟩, ⟨1, 3, 1, 3, 0⟩]
def EZ3 : List Bx := [⟨-9223372036854775808, 9223372036854775807, -9223372036854775808, 9223372036854775807, 0⟩]
def EZ0 : List Bx := [⟨0, 0, 0, 5, 0⟩, ⟨3, 1, 3, 1, 0⟩]

theorem EZ_in : (∀ b ∈ EZ1, b.in64) ∧ (∀ b ∈ EZ2, b.in64) ∧ (∀ b ∈ EZ3, b.in64) ∧ (∀ b ∈ EZ0, b.in64) := by
  refine ⟨?_, ?_, ?_, ?_⟩ <;> intro b hb
  · unfold EZ1 at hb
    simp at hb
    subst hb; unfold Bx.in64; decide
  · unfold EZ2 at hb
    simp at hb
    rcases hb with rfl | rfl <;> (unfold Bx.in64; decide)
  · unfold EZ3 at hb
    simp at hb
    subst hb; unfold Bx.in64; decide
  · unfold EZ0 at hb
    simp at hb
    rcases hb with rfl | rfl <;> (unfold Bx.in64; decide)

theorem areaA_eq {l : List Bx} {xs ys : List Int} (hxs : xs.Pairwise (· < ·)) (hys : ys.Pairwise (· < ·)) (mx : ∀ v, v ∈ xs ↔ v ∈ linX l) (my : ∀ v, v ∈ ys ↔ v ∈ linY l)
    (hx : ∀ v ∈ xs, -9223372036854775808 ≤ v ∧ v ≤ 9223372036854775807) (hy : ∀ v ∈ ys, -9223372036854775808 ≤ v ∧ v ≤ 9223372036854775807) : areaA l = areaS l xs ys := areaR_eq hxs hys mx my hx hy

theorem EZ1_a : areaA EZ1 = 4 := by
  rw [areaA_eq (xs := [0, 2]) (ys := [0, 2]) (by decide) (by decide) (fun v => by have e : linX EZ1 = [0, 2] := by decide
                                                                                  rw [e]) (fun v => by have e : linY EZ1 = [0, 2] := by decide
                                                                                                       rw [e]) (by decide) (by decide)]
  decide

theorem EZ2_a : areaA EZ2 = 7 := by
  rw [areaA_eq (xs := [0, 1, 2, 3]) (ys := [0, 1, 2, 3]) (by decide) (by decide) (fun v => by
    have e : linX EZ2 = [0, 2, 1, 3] := by decide
    rw [e]; simp only [List.mem_cons, List.not_mem_nil, or_false]; omega) (fun v => by
    have e : linY EZ2 = [0, 2, 1, 3] := by decide
    rw [e]; simp only [List.mem_cons, List.not_mem_nil, or_false]; omega) (by decide) (by decide)]
  decide

theorem EZ3_a : areaA EZ3 = 18446744073709551615 * 18446744073709551615 := by
  rw [areaA_eq (xs := [-9223372036854775808, 9223372036854775807]) (ys := [-9223372036854775808, 9223372036854775807]) (by decide) (by decide) (fun v => by
    have e : linX EZ3 = [-9223372036854775808, 9223372036854775807] := by decide
    rw [e]) (fun v => by
    have e : linY EZ3 = [-9223372036854775808, 9223372036854775807] := by decide
    rw [e]) (by decide) (by decide)]
  decide

theorem EZ0_a : areaA EZ0 = 0 := by
  rw [areaA_eq (xs := []) (ys := []) (by decide) (by decide) (fun v => by
    have e : linX EZ0 = [] := by decide
    rw [e]) (fun v => by
    have e : linY EZ0 = [] := by decide
    rw [e]) (by decide) (by decide)]
  decide

theorem EZ1_y : sqz (linY EZ1) = [0, 2] := sqz_eq (by decide) fun x => by
  have e : linY EZ1 = [0, 2] := by decide
  rw [e]

theorem EZ1_e : sweepE (sqz (linY EZ1)) (turnsL EZ1) = 2 := by
  rw [EZ1_y]
  have e : turnsL EZ1 = [⟨0, ⟨0, 2, 0, 2, 0⟩, false⟩, ⟨2, ⟨0, 2, 0, 2, 0⟩, true⟩] := by decide
  have h1 : entN (0, 1) 1 = 1 := by
    unfold entN
    rw [if_neg (by decide), ent_in (by decide)]
  have h2 : ∀ g x, spT [0, 2] ⟨x, ⟨0, 2, 0, 2, 0⟩, g⟩ = (0, 1) := by
    intro g x
    show (below [0, 2] 0, below [0, 2] 2) = (0, 1)
    decide
  rw [e]
  unfold sweepE
  simp only [List.map_cons, List.map_nil, h2, List.length_cons, List.length_nil, Nat.reduceAdd, Nat.reduceSub, h1]
  rfl

theorem EZ0_e : sweepE (sqz (linY EZ0)) (turnsL EZ0) = 0 := by
  have e : turnsL EZ0 = [] := by decide
  rw [e]; rfl
end Go.Proofs.YtokpdocabmaagaaGreat
