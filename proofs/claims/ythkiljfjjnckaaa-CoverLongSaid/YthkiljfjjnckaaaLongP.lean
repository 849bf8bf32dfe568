/- CoverLong: what is reckoned gap by gap, plainly. -/
import Derived.Test.YthkiljfjjnckaaaCoverParts
namespace Go.Proofs.Ythkiljfjjnckaaa

theorem longG_bounds {M : List Int} (h : M.Pairwise (· < ·)) : ∀ (G : List Bool) (f : Nat), f + G.length < M.length → 0 ≤ longG (mf M) f G ∧ longG (mf M) f G ≤ mf M (f + G.length) - mf M f := by
  intro G
  induction G with
  | nil => intro f hf; simp [longG]
  | cons b G ih =>
    intro f hf
    rw [List.length_cons] at hf ⊢
    have h1 := ih (f + 1) (by omega)
    have h2 := mf_rise h (i := f) (j := f + 1) (by omega) (by omega)
    rw [show f + 1 + G.length = f + (G.length + 1) by omega] at h1
    unfold longG
    split <;> omega

theorem runsG_leN : ∀ (G : List Bool) (p : Bool), runsG p G ≤ G.length := by
  intro G
  induction G with
  | nil => intro p; exact Nat.le_refl _
  | cons b G ih =>
    intro p
    have := ih b
    unfold runsG
    rw [List.length_cons]
    split <;> omega

theorem take_snoc {α : Type} {G : List α} {k : Nat} {x : α} (h : G[k]? = some x) : G.take (k + 1) = G.take k ++ [x] := by
  rw [List.take_add_one, h]; rfl

theorem long_step {M : Nat → Int} {G : List Bool} {k : Nat} {x : Bool} (h : G[k]? = some x) : longG M 0 (G.take (k + 1)) = longG M 0 (G.take k) + (if x then M (k + 1) - M k else 0) := by
  have hk := (List.getElem?_eq_some_iff.1 h).1
  rw [take_snoc h, longG_app, List.length_take, Nat.min_eq_left (by omega)]
  simp [longG]

theorem runs_step {G : List Bool} {k : Nat} {x : Bool} (h : G[k]? = some x) : runsG false (G.take (k + 1)) = runsG false (G.take k) + (if x && !((G.take k).getLastD false) then 1 else 0) := by
  rw [take_snoc h, runsG_app]
  simp [runsG]

theorem last_succ {G : List Bool} {i : Nat} {y : Bool} (h : G[i]? = some y) : (G.take (i + 1)).getLastD false = y := by
  rw [take_snoc h]; simp

/-- Whether a span covers gap i, by its marks. -/
theorem covers_iff {M : List Int} (h : M.Pairwise (· < ·)) {s : Nat × Nat} {i : Nat} (hs : s.1 ≤ s.2 ∧ s.2 < M.length) (hi : i + 1 < M.length) :
    (mf M s.1 ≤ mf M i ↔ s.1 ≤ i) ∧ (mf M (i + 1) ≤ mf M s.2 ↔ i < s.2) := by
  refine ⟨⟨fun h1 => ?_, fun h1 => mf_mono h h1 (by omega)⟩, ⟨fun h1 => ?_, fun h1 => mf_mono h h1 hs.2⟩⟩
  · rcases Nat.lt_or_ge i s.1 with h2 | h2
    · have := mf_rise h h2 (by omega); omega
    · exact h2
  · rcases Nat.lt_or_ge i s.2 with h2 | h2
    · exact h2
    · have := mf_rise h (i := s.2) (j := i + 1) (by omega) hi; omega

/-- What the first j spans say of gap i. -/
def isG (M : List Int) (L : List (Nat × Nat)) (j i : Nat) : Bool := holdsG ((L.take j).map fun p => pairP M p.1 p.2) i

theorem isG_step {M : List Int} {L : List (Nat × Nat)} {j i : Nat} {p : Nat × Nat} (h : L[j]? = some p) : isG M L (j + 1) i = (isG M L j i || (decide ((pairP M p.1 p.2).1 ≤ i) && decide (i < (pairP M p.1 p.2).2))) := by
  unfold isG holdsG
  rw [take_snoc h]
  simp

theorem isG_all (M : List Int) (L : List (Nat × Nat)) (i : Nat) : isG M L L.length i = holdsG (covH M L) i := by
  unfold isG holdsG covH
  rw [List.take_length, List.any_reverse]
end Go.Proofs.Ythkiljfjjnckaaa
