/- A span between two marks, plainly; marks at every third number. -/
import Derived.Test.YthkiljfjjnckaaaWhole
namespace Go.Proofs.Ythkiljfjjnckaaa
open Go.RowKit

theorem mf_rise {M : List Int} (h : M.Pairwise (· < ·)) {i j : Nat} (hij : i < j) (hj : j < M.length) : mf M i < mf M j := by
  have := List.pairwise_iff_getElem.1 h i j (by omega) hj hij
  have e1 := mf_get (M := M) (i := i) (by omega)
  have e2 := mf_get hj
  rw [List.getElem?_eq_getElem (by omega)] at e1
  rw [List.getElem?_eq_getElem hj] at e2
  rw [Option.some.inj e1, Option.some.inj e2] at this
  exact this

theorem below_mf {M : List Int} (h : M.Pairwise (· < ·)) {i : Nat} (hi : i < M.length) : below M (mf M i) = i := by
  have hle := h.imp (fun {a b} (hab : a < b) => Int.le_of_lt hab)
  have h1 := below_at hle (mf M i) i _ (mf_get hi)
  rcases Nat.lt_trichotomy (below M (mf M i)) i with hlt | he | hgt
  · have h2 := below_at hle (mf M i) _ _ (mf_get (M := M) (i := below M (mf M i)) (by omega))
    have h3 := h2.1 (mf_rise h hlt hi)
    omega
  · exact he
  · have := h1.2 hgt
    omega

theorem span_pair {M : List Int} (h : M.Pairwise (· < ·)) {s : Nat × Nat} (hs : s.1 ≤ s.2 ∧ s.2 < M.length) :
    spanOk M (mf M s.1) (mf M s.2) = true ∧ spanP M (mf M s.1) (mf M s.2) = s := by
  have e1 := below_mf h (i := s.1) (by omega)
  have e2 := below_mf h hs.2
  refine ⟨?_, by unfold spanP; rw [e1, e2]⟩
  unfold spanOk
  rw [e1, e2]
  have m1 : mf M s.1 ∈ M := List.mem_of_getElem? (mf_get (by omega))
  have m2 : mf M s.2 ∈ M := List.mem_of_getElem? (mf_get hs.2)
  simp [m1, m2, hs.1]

theorem pair_add {M : List Int} (h : M.Pairwise (· < ·)) (H : List (Nat × Nat)) {s : Nat × Nat} (hs : s.1 ≤ s.2 ∧ s.2 < M.length) :
    addH M H (mf M s.1) (mf M s.2) = s :: H ∧ addK M (mf M s.1) (mf M s.2) = entN s (M.length - 1) ∧ addX M (mf M s.1) (mf M s.2) = 0 := by
  obtain ⟨h1, h2⟩ := span_pair h hs
  unfold addH addK addX
  rw [if_pos h1, if_pos h1, if_pos h1, h2]
  exact ⟨rfl, rfl, rfl⟩

theorem pair_drop {M : List Int} (h : M.Pairwise (· < ·)) {H : List (Nat × Nat)} {s : Nat × Nat} (hs : s.1 ≤ s.2 ∧ s.2 < M.length) (hm : s ∈ H) :
    dropH M H (mf M s.1) (mf M s.2) = H.erase s ∧ dropK M H (mf M s.1) (mf M s.2) = entN s (M.length - 1) ∧ dropX M H (mf M s.1) (mf M s.2) = 0 := by
  obtain ⟨h1, h2⟩ := span_pair h hs
  unfold dropH dropK dropX
  rw [if_pos h1, if_pos h1, if_pos h1, h2, if_pos hm, if_pos hm]
  exact ⟨rfl, rfl, rfl⟩

theorem longG_false (M : Nat → Int) (k : Nat) : ∀ f, longG M f (List.replicate k false) = 0 := by
  induction k with
  | zero => intro f; rfl
  | succ k ih => intro f; rw [List.replicate_succ, longG, ih]; rfl

theorem holds_nil (n : Nat) : (List.range n).map (holdsG []) = List.replicate n false := by
  apply List.ext_getElem?
  intro i
  by_cases h : i < n
  · simp [h, holdsG]
  · simp [h]

theorem holds_one (s : Nat × Nat) (n : Nat) (h1 : s.1 ≤ s.2) (h2 : s.2 ≤ n) : (List.range n).map (holdsG [s]) = List.replicate s.1 false ++ (List.replicate (s.2 - s.1) true ++ List.replicate (n - s.2) false) := by
  apply List.ext_getElem?
  intro i
  rw [List.getElem?_append, List.getElem?_append]
  simp only [List.length_replicate, List.getElem?_replicate, List.getElem?_map]
  by_cases hn : i < n
  · rw [List.getElem?_range hn]
    have e : holdsG [s] i = (decide (s.1 ≤ i) && decide (i < s.2)) := by simp [holdsG]
    rw [Option.map_some, e]
    by_cases ha : i < s.1
    · rw [if_pos ha, if_pos ha, decide_eq_false (by omega)]; rfl
    · rw [if_neg ha, decide_eq_true (by omega)]
      by_cases hb : i < s.2
      · rw [if_pos (by omega), if_pos (by omega), decide_eq_true hb]; rfl
      · rw [if_neg (by omega), if_pos (by omega), decide_eq_false hb]; rfl
  · rw [List.getElem?_eq_none (by simp; omega), if_neg (by omega), if_neg (by omega), if_neg (by omega)]; rfl

theorem long_one {M : List Int} {s : Nat × Nat} (hs : s.1 ≤ s.2 ∧ s.2 < M.length) : (wholeP M [s]).long = mf M s.2 - mf M s.1 := by
  rw [wholeP_eq (by intro u hu; simp at hu; rw [hu]; exact hs)]
  unfold wholeG gapsH partG
  dsimp only
  rw [holds_one s _ hs.1 (by omega), longG_app, longG_app, longG_false, longG_true, longG_false, List.length_replicate]
  rw [show 0 + s.1 + (s.2 - s.1) = s.2 by omega, show 0 + s.1 = s.1 by omega]
  omega

theorem long_none (M : List Int) : (wholeP M []).long = 0 := by
  rw [wholeP_eq (by intro u hu; simp at hu)]
  unfold wholeG gapsH partG
  dsimp only
  rw [holds_nil, longG_false]

/-- Every third number. -/
def M3 (k : Nat) : List Int := (List.range k).map fun (i : Nat) => (i : Int) * 3

theorem M3_len (k : Nat) : (M3 k).length = k := by simp [M3]
theorem M3_succ (k : Nat) : M3 (k + 1) = M3 k ++ [(k : Int) * 3] := by simp [M3, List.range_succ]
theorem M3_mf (k i : Nat) (h : i < k) : mf (M3 k) i = (i : Int) * 3 := by
  unfold mf M3
  rw [List.getElem?_map, List.getElem?_range h]
  rfl
theorem M3_ok (k : Nat) (h : k < 100000) : MarksOk (M3 k) := by
  refine ⟨?_, ?_, by rw [M3_len]; omega⟩
  · unfold M3
    rw [List.pairwise_map]
    exact (List.pairwise_lt_range).imp (fun h => by omega)
  · intro x hx
    simp only [M3, List.mem_map, List.mem_range] at hx
    obtain ⟨i, hi, rfl⟩ := hx
    omega
end Go.Proofs.Ythkiljfjjnckaaa
