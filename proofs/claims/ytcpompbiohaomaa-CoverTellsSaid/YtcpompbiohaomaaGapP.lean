/- The covered gaps, by the nodes one by one. No program. -/
import Derived.Test.YtcpompbiohaomaaChangeC
namespace Go.Proofs.Ytcpompbiohaomaa

/-- Each node's leaves, and how often it is covered. -/
def zL (c : Cnt) (f t pf pt : Nat) : List (Nat × Nat × Int) := postL (fun f t pf pt _ => (f, t, c f t pf pt)) f t pf pt 0

def zAt (i : Nat) (z : Nat × Nat × Int) : Bool := decide (0 < z.2.2) && (decide (z.1 ≤ i) && decide (i < z.2.1))

theorem zL_node (c : Cnt) {f t : Nat} (pf pt : Nat) (h : f + 1 < t) : zL c f t pf pt = zL c f (mid f t) f t ++ (zL c (mid f t) t f t ++ [(f, t, c f t pf pt)]) := by
  have := mid_in h
  unfold zL
  rw [postL_node _ pf pt 0 h, postL_off (fun f t pf pt => (f, t, c f t pf pt)) (t - f) (mid f t) t f t _ 0 (by omega) (by omega)]

theorem zL_leaf (c : Cnt) {f t : Nat} (pf pt : Nat) (h : ¬ f + 1 < t) : zL c f t pf pt = [(f, t, c f t pf pt)] := by
  unfold zL; rw [postL_leaf _ pf pt 0 h]

theorem zL_len (c : Cnt) {f t : Nat} (pf pt : Nat) (h : f < t) : (zL c f t pf pt).length = 2 * (t - f) - 1 := postL_length _ pf pt 0 h

theorem zL_in (c : Cnt) : ∀ (d f t pf pt : Nat), t - f ≤ d → f < t → ∀ z ∈ zL c f t pf pt, f ≤ z.1 ∧ z.1 < z.2.1 ∧ z.2.1 ≤ t := by
  intro d
  induction d with
  | zero => intro f t pf pt h1 h2; omega
  | succ d ih =>
    intro f t pf pt h1 h2 z hz
    by_cases h : f + 1 < t
    · have hm := mid_in h
      rw [zL_node c pf pt h] at hz
      simp only [List.mem_append, List.mem_singleton] at hz
      rcases hz with hz | hz | rfl
      · have := ih _ _ _ _ (by omega) hm.1 z hz; omega
      · have := ih _ _ _ _ (by omega) hm.2 z hz; omega
      · exact ⟨Nat.le_refl _, h2, Nat.le_refl _⟩
    · rw [zL_leaf c pf pt h] at hz
      simp at hz; subst hz
      exact ⟨Nat.le_refl _, h2, Nat.le_refl _⟩

theorem zL_out (c : Cnt) {f t pf pt i : Nat} (hf : f < t) (h : i < f ∨ t ≤ i) : (zL c f t pf pt).any (zAt i) = false := by
  rw [List.any_eq_false]
  intro z hz
  have := zL_in c (t - f) f t pf pt (Nat.le_refl _) hf z hz
  unfold zAt
  intro hc
  simp only [Bool.and_eq_true, decide_eq_true_eq] at hc
  omega

/-- A gap is covered just if a node over it is. -/
theorem zL_any (c : Cnt) : ∀ (d f t pf pt i : Nat), t - f ≤ d → f ≤ i → i < t → (gapsL c f t pf pt)[i - f]? = some ((zL c f t pf pt).any (zAt i)) := by
  intro d
  induction d with
  | zero => intro f t pf pt i h1 h2; omega
  | succ d ih =>
    intro f t pf pt i h1 h2 h3
    by_cases h0 : 0 < c f t pf pt
    · rw [gapsL_pos h0, List.getElem?_replicate, if_pos (by omega)]
      have hr : zAt i (f, t, c f t pf pt) = true := by unfold zAt; simp [h0, h2, h3]
      congr 1
      symm
      rw [List.any_eq_true]
      refine ⟨(f, t, c f t pf pt), ?_, hr⟩
      by_cases h : f + 1 < t
      · rw [zL_node c pf pt h]; simp
      · rw [zL_leaf c pf pt h]; simp
    · have hr : zAt i (f, t, c f t pf pt) = false := by unfold zAt; simp [h0]
      by_cases h : f + 1 < t
      · have hm := mid_in h
        have hl := gapsL_length (c := c) f t hm.1
        rw [gapsL_node h0 h, zL_node c pf pt h, List.any_append, List.any_append, List.any_cons, List.any_nil, hr]
        by_cases him : i < mid f t
        · rw [List.getElem?_append_left (by omega), zL_out c hm.2 (.inl him), ih f (mid f t) f t i (by omega) h2 him]
          simp
        · rw [List.getElem?_append_right (by omega), hl, show i - f - (mid f t - f) = i - mid f t by omega, zL_out c hm.1 (.inr (by omega)), ih (mid f t) t f t i (by omega) (by omega) h3]
          simp
      · rw [gapsL_leaf h0 h, zL_leaf c pf pt h, List.any_cons, List.any_nil, hr, show i - f = 0 by omega]
        rfl

/-- A list of n truths. -/
def outL (n : Nat) (p : Nat → Bool) : List Bool := (List.range n).map p

theorem outL_len (n : Nat) (p : Nat → Bool) : (outL n p).length = n := by simp [outL]

theorem outL_set (n : Nat) (p : Nat → Bool) (k : Nat) : (outL n p).set k true = outL n (fun i => p i || i == k) := by
  unfold outL
  refine List.ext_getElem? fun i => ?_
  rw [List.getElem?_set]
  by_cases hk : k = i
  · subst hk
    rw [if_pos rfl]
    by_cases hn : k < n
    · rw [if_pos (by simpa using hn), List.getElem?_map, List.getElem?_range hn]; simp
    · rw [if_neg (by simpa using hn), List.getElem?_eq_none (by simp; omega)]
  · rw [if_neg hk, List.getElem?_map, List.getElem?_map]
    by_cases hn : i < n
    · rw [List.getElem?_range hn]
      have : (i == k) = false := by simpa using Ne.symm hk
      simp [this]
    · rw [List.getElem?_eq_none (by simp; omega)]; rfl

theorem outL_congr {n : Nat} {p q : Nat → Bool} (h : ∀ i, i < n → p i = q i) : outL n p = outL n q := by
  unfold outL
  exact List.map_congr_left fun i hi => h i (List.mem_range.1 hi)

/-- What the nodes ahead of the k-th one cover. -/
def pAt (Z : List (Nat × Nat × Int)) (k i : Nat) : Bool := (Z.take k).any (zAt i)

theorem pAt_succ (Z : List (Nat × Nat × Int)) (k i : Nat) (z : Nat × Nat × Int) (hz : Z[k]? = some z) : pAt Z (k + 1) i = (pAt Z k i || zAt i z) := by
  unfold pAt
  obtain ⟨hk, he⟩ := List.getElem?_eq_some_iff.1 hz
  rw [List.take_succ_eq_append_getElem hk, List.any_append, he]
  simp

theorem gaps_out {H : List (Nat × Nat)} {n : Nat} (hn : 0 < n) : outL n (pAt (zL (cntH H) 0 n 0 (n + 1)) (2 * n - 1)) = gapsL (cntH H) 0 n 0 (n + 1) := by
  have hl := gapsL_length (c := cntH H) 0 (n + 1) hn
  refine List.ext_getElem? fun i => ?_
  by_cases hi : i < n
  · have h1 := zL_any (cntH H) n 0 n 0 (n + 1) i (by omega) (by omega) hi
    rw [Nat.sub_zero] at h1
    rw [h1]
    unfold outL pAt
    rw [List.getElem?_map, List.getElem?_range hi, Option.map_some, List.take_of_length_le (by rw [zL_len _ _ _ hn]; omega)]
  · rw [List.getElem?_eq_none (by rw [outL_len]; omega), List.getElem?_eq_none (by omega)]

/-- The nodes and the counts, one by one. -/
theorem zL_at (c : Cnt) (n : Nat) (hn : 0 < n) (k : Nat) (hk : k < 2 * n - 1) : ∃ f t cc, (zL c 0 n 0 (n + 1))[k]? = some (f, t, cc) ∧ (oL c 0 n 0 (n + 1))[k]? = some cc ∧ f < t ∧ t ≤ n ∧ ∃ x, (nodesL 0 n 0)[k]? = some x ∧ x.fr = f ∧ x.to = t := by
  have hl := zL_len c 0 (n + 1) hn
  obtain ⟨f, t, cc, hz'⟩ : ∃ f t cc, (zL c 0 n 0 (n + 1))[k]? = some (f, t, cc) := ⟨_, _, _, List.getElem?_eq_getElem (by omega)⟩
  have hin := zL_in c n 0 n 0 (n + 1) (by omega) hn _ (List.mem_of_getElem? hz')
  have h1 : (zL c 0 n 0 (n + 1)).map (fun z => z.2.2) = oL c 0 n 0 (n + 1) := postL_map _ _ n 0 n 0 (n + 1) 0 (by omega) hn
  have h2 : (zL c 0 n 0 (n + 1)).map (fun z => (z.1, z.2.1)) = postL (fun f t _ _ _ => (f, t)) 0 n 0 (n + 1) 0 := postL_map _ _ n 0 n 0 (n + 1) 0 (by omega) hn
  have h3 : (nodesL 0 n 0).map (fun x => (x.fr, x.to)) = postL (fun f t _ _ _ => ((f : Int), (t : Int))) 0 n 0 0 0 := by
    unfold nodesL
    rw [postL_map _ _ n 0 n 0 0 0 (by omega) hn]
    congr 1
    funext f t _ _ a
    unfold ndG; split <;> rfl
  have h4 : (postL (fun f t _ _ _ => (f, t)) 0 n 0 (n + 1) 0).map (fun p : Nat × Nat => ((p.1 : Int), (p.2 : Int))) = postL (fun f t _ _ _ => ((f : Int), (t : Int))) 0 n 0 0 0 := by
    rw [postL_map _ _ n 0 n 0 (n + 1) 0 (by omega) hn]
    exact postL_par (fun f t _ => ((f : Int), (t : Int))) n 0 n 0 (n + 1) 0 0 0 (by omega) hn
  refine ⟨f, t, cc, hz', ?_, hin.2.1, hin.2.2, ?_⟩
  · rw [← h1, List.getElem?_map, hz']; rfl
  · have h5 : ((nodesL 0 n 0).map (fun x => (x.fr, x.to)))[k]? = some ((f : Int), (t : Int)) := by
      rw [h3, ← h4, ← h2, List.getElem?_map, List.getElem?_map, hz']; rfl
    rw [List.getElem?_map] at h5
    obtain ⟨x, hx, he⟩ := Option.map_eq_some_iff.1 h5
    simp only [Prod.mk.injEq] at he
    exact ⟨x, hx, he.1, he.2⟩
end Go.Proofs.Ytcpompbiohaomaa
