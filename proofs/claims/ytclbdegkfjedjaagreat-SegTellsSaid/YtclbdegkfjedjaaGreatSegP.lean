/- Chapter 8 plainly: which nodes of a frame make up a range, which lie over a leaf; what stands at nodes. No program. -/
import Derived.Test.YtclbdegkfjedjaaGreatCovE
namespace Go.Proofs.YtclbdegkfjedjaaGreat

/-- The places of the nodes that make up a to b, below the node f to t, whose nodes begin at place o. -/
def canonL (a b f t o : Nat) : List Nat :=
  if t ≤ a ∨ b ≤ f then [] else if a ≤ f ∧ t ≤ b then [o + 2 * (t - f) - 2] else
  if _h : f + 1 < t then canonL a b f (mid f t) o ++ canonL a b (mid f t) t (o + 2 * (mid f t - f) - 1) else []
termination_by t - f
decreasing_by
  · have := mid_in (by assumption); omega
  · have := mid_in (by assumption); omega

/-- The places from the node f to t down to leaf s. -/
def pathL (s f t o : Nat) : List Nat :=
  (o + 2 * (t - f) - 2) :: (if _h : f + 1 < t then (if s < mid f t then pathL s f (mid f t) o else pathL s (mid f t) t (o + 2 * (mid f t - f) - 1)) else [])
termination_by t - f
decreasing_by
  · have := mid_in (by assumption); omega
  · have := mid_in (by assumption); omega

theorem canonL_out {a b f t o : Nat} (h : t ≤ a ∨ b ≤ f) : canonL a b f t o = [] := by rw [canonL, if_pos h]
theorem canonL_in {a b f t o : Nat} (h : ¬ (t ≤ a ∨ b ≤ f)) (h1 : a ≤ f ∧ t ≤ b) : canonL a b f t o = [o + 2 * (t - f) - 2] := by rw [canonL, if_neg h, if_pos h1]
theorem canonL_node {a b f t o : Nat} (h : ¬ (t ≤ a ∨ b ≤ f)) (h1 : ¬ (a ≤ f ∧ t ≤ b)) (h2 : f + 1 < t) : canonL a b f t o = canonL a b f (mid f t) o ++ canonL a b (mid f t) t (o + 2 * (mid f t - f) - 1) := by rw [canonL, if_neg h, if_neg h1, dif_pos h2]
theorem pathL_leaf {s f t o : Nat} (h : ¬ f + 1 < t) : pathL s f t o = [o + 2 * (t - f) - 2] := by rw [pathL, dif_neg h]
theorem pathL_left {s f t o : Nat} (h : f + 1 < t) (hs : s < mid f t) : pathL s f t o = (o + 2 * (t - f) - 2) :: pathL s f (mid f t) o := by rw [pathL, dif_pos h, if_pos hs]
theorem pathL_right {s f t o : Nat} (h : f + 1 < t) (hs : ¬ s < mid f t) : pathL s f t o = (o + 2 * (t - f) - 2) :: pathL s (mid f t) t (o + 2 * (mid f t - f) - 1) := by rw [pathL, dif_pos h, if_neg hs]

theorem canonL_range : ∀ (d a b f t o : Nat), t - f ≤ d → f < t → ∀ k ∈ canonL a b f t o, o ≤ k ∧ k < o + 2 * (t - f) - 1
  | 0, _, _, _, _, _, hd, hft => by omega
  | d + 1, a, b, f, t, o, hd, hft => by
    intro k hk
    by_cases h : t ≤ a ∨ b ≤ f
    · rw [canonL_out h] at hk; simp at hk
    · by_cases h1 : a ≤ f ∧ t ≤ b
      · rw [canonL_in h h1] at hk; simp at hk; omega
      · have h2 : f + 1 < t := by omega
        have hm := mid_in h2
        rw [canonL_node h h1 h2, List.mem_append] at hk
        rcases hk with hk | hk
        · have := canonL_range d a b f (mid f t) o (by omega) hm.1 k hk; omega
        · have := canonL_range d a b (mid f t) t (o + 2 * (mid f t - f) - 1) (by omega) hm.2 k hk; omega

theorem canonL_nodup : ∀ (d a b f t o : Nat), t - f ≤ d → f < t → (canonL a b f t o).Nodup
  | 0, _, _, _, _, _, hd, hft => by omega
  | d + 1, a, b, f, t, o, hd, hft => by
    by_cases h : t ≤ a ∨ b ≤ f
    · rw [canonL_out h]; exact List.nodup_nil
    · by_cases h1 : a ≤ f ∧ t ≤ b
      · rw [canonL_in h h1]; simp
      · have h2 : f + 1 < t := by omega
        have hm := mid_in h2
        rw [canonL_node h h1 h2, List.nodup_append]
        refine ⟨canonL_nodup d a b f (mid f t) o (by omega) hm.1, canonL_nodup d a b (mid f t) t _ (by omega) hm.2, fun x hx y hy => ?_⟩
        have h3 := canonL_range (mid f t - f) a b f (mid f t) o (Nat.le_refl _) hm.1 x hx
        have h4 := canonL_range (t - mid f t) a b (mid f t) t _ (Nat.le_refl _) hm.2 y hy
        omega

theorem pathL_range : ∀ (d s f t o : Nat), t - f ≤ d → f < t → ∀ k ∈ pathL s f t o, o ≤ k ∧ k < o + 2 * (t - f) - 1
  | 0, _, _, _, _, hd, hft => by omega
  | d + 1, s, f, t, o, hd, hft => by
    intro k hk
    by_cases h2 : f + 1 < t
    · have hm := mid_in h2
      by_cases hs : s < mid f t
      · rw [pathL_left h2 hs] at hk
        rcases List.mem_cons.1 hk with rfl | hk
        · omega
        · have := pathL_range d s f (mid f t) o (by omega) hm.1 k hk; omega
      · rw [pathL_right h2 hs] at hk
        rcases List.mem_cons.1 hk with rfl | hk
        · omega
        · have := pathL_range d s (mid f t) t (o + 2 * (mid f t - f) - 1) (by omega) hm.2 k hk; omega
    · rw [pathL_leaf h2] at hk; simp at hk; omega

theorem countP_none {l : List Nat} {C : List Nat} (h : ∀ k ∈ l, k ∉ C) : l.countP (fun k => decide (k ∈ C)) = 0 := by
  rw [List.countP_eq_zero]
  intro k hk
  simpa using h k hk

/-- Of the nodes over a leaf just one is of those that make up a range with the leaf; none, else. -/
theorem path_canon : ∀ (d a b s f t o : Nat), t - f ≤ d → f ≤ s → s < t → (pathL s f t o).countP (fun k => decide (k ∈ canonL a b f t o)) = if a ≤ s ∧ s < b then 1 else 0
  | 0, _, _, _, _, _, _, hd, hfs, hst => by omega
  | d + 1, a, b, s, f, t, o, hd, hfs, hst => by
    by_cases h : t ≤ a ∨ b ≤ f
    · rw [canonL_out h, if_neg (by omega)]
      exact countP_none fun k _ => by simp
    · by_cases h1 : a ≤ f ∧ t ≤ b
      · rw [canonL_in h h1, if_pos (by omega)]
        by_cases h2 : f + 1 < t
        · have hm := mid_in h2
          have key : ∀ l : List Nat, (∀ k ∈ l, k < o + 2 * (t - f) - 2) → ((o + 2 * (t - f) - 2) :: l).countP (fun k => decide (k ∈ [o + 2 * (t - f) - 2])) = 1 := by
            intro l hl
            rw [List.countP_cons_of_pos (by simp), countP_none fun k hk => by have := hl k hk; simp; omega]
          by_cases hs : s < mid f t
          · rw [pathL_left h2 hs]
            exact key _ fun k hk => by have := pathL_range (mid f t - f) s f (mid f t) o (Nat.le_refl _) hm.1 k hk; omega
          · rw [pathL_right h2 hs]
            exact key _ fun k hk => by have := pathL_range (t - mid f t) s (mid f t) t _ (Nat.le_refl _) hm.2 k hk; omega
        · rw [pathL_leaf h2]
          simp
      · have h2 : f + 1 < t := by omega
        have hm := mid_in h2
        rw [canonL_node h h1 h2]
        have hroot : (o + 2 * (t - f) - 2) ∉ canonL a b f (mid f t) o ++ canonL a b (mid f t) t (o + 2 * (mid f t - f) - 1) := by
          rw [List.mem_append]
          rintro (hk | hk)
          · have := canonL_range (mid f t - f) a b f (mid f t) o (Nat.le_refl _) hm.1 _ hk; omega
          · have := canonL_range (t - mid f t) a b (mid f t) t _ (Nat.le_refl _) hm.2 _ hk; omega
        by_cases hs : s < mid f t
        · rw [pathL_left h2 hs, List.countP_cons_of_neg (by simpa using hroot), ← path_canon d a b s f (mid f t) o (by omega) hfs hs]
          refine List.countP_congr fun k hk => ?_
          have h3 := pathL_range (mid f t - f) s f (mid f t) o (Nat.le_refl _) hm.1 k hk
          have h4 : k ∉ canonL a b (mid f t) t (o + 2 * (mid f t - f) - 1) := fun hc => by have := canonL_range (t - mid f t) a b (mid f t) t _ (Nat.le_refl _) hm.2 _ hc; omega
          simp [List.mem_append, h4]
        · rw [pathL_right h2 hs, List.countP_cons_of_neg (by simpa using hroot), ← path_canon d a b s (mid f t) t (o + 2 * (mid f t - f) - 1) (by omega) (by omega) hst]
          refine List.countP_congr fun k hk => ?_
          have h3 := pathL_range (t - mid f t) s (mid f t) t _ (Nat.le_refl _) hm.2 k hk
          have h4 : k ∉ canonL a b f (mid f t) o := fun hc => by have := canonL_range (mid f t - f) a b f (mid f t) o (Nat.le_refl _) hm.1 _ hc; omega
          simp [List.mem_append, h4]

/-- How long the way down is. -/
theorem pathL_len : ∀ (d s f t o : Nat), t - f ≤ d → f ≤ s → s < t → (pathL s f t o).length ≤ lg (t - f) + 1
  | 0, _, _, _, _, hd, hfs, hst => by omega
  | d + 1, s, f, t, o, hd, hfs, hst => by
    by_cases h2 : f + 1 < t
    · have hm := mid_in h2
      by_cases hs : s < mid f t
      · rw [pathL_left h2 hs, List.length_cons]
        have := pathL_len d s f (mid f t) o (by omega) hfs hs
        have := lg_left h2
        omega
      · rw [pathL_right h2 hs, List.length_cons]
        have := pathL_len d s (mid f t) t (o + 2 * (mid f t - f) - 1) (by omega) (by omega) hst
        have := lg_right h2
        omega
    · rw [pathL_leaf h2]; simp
end Go.Proofs.YtclbdegkfjedjaaGreat
