/- A cover's change, plainly: the lists of the nodes' counts and parts. -/
import Derived.Test.YtokpdocabmaagaaGreatCovE
import Derived.Test.YtokpdocabmaagaaGreatFrameB
namespace Go.Proofs.YtokpdocabmaagaaGreat

section
variable {α : Type}

theorem get_mid (A B C : List α) (x : α) {k : Nat} (hk : k = A.length + B.length) : (A ++ ((B ++ [x]) ++ C))[k]? = some x := by
  subst hk
  rw [List.getElem?_append_right (by omega), List.getElem?_append_left (by simp), List.getElem?_append_right (by omega)]
  simp

theorem set_mid (A B C : List α) (x y : α) {k : Nat} (hk : k = A.length + B.length) : (A ++ ((B ++ [x]) ++ C)).set k y = A ++ ((B ++ [y]) ++ C) := by
  subst hk
  rw [List.set_append_right _ _ (by omega), List.set_append_left _ _ (by simp), List.set_append_right _ _ (by omega)]
  simp
end

/-- The counts, and the parts, of the nodes over f to t. -/
def oL (c : Cnt) (f t pf pt : Nat) : List Int := postL (fun f t pf pt _ => c f t pf pt) f t pf pt 0
def pL (c : Cnt) (M : Nat → Int) (f t pf pt : Nat) : List Part := postL (fun f t pf pt _ => partV c M f t pf pt) f t pf pt 0

theorem postL_off {α : Type} (g : Nat → Nat → Nat → Nat → α) : ∀ (d f t pf pt o o' : Nat), t - f ≤ d → f < t → postL (fun a b c d _ => g a b c d) f t pf pt o = postL (fun a b c d _ => g a b c d) f t pf pt o' := by
  intro d
  induction d with
  | zero => intro f t pf pt o o' h1 h2; omega
  | succ d ih =>
    intro f t pf pt o o' h1 h2
    by_cases h : f + 1 < t
    · have := mid_in h
      rw [postL_node _ pf pt o h, postL_node _ pf pt o' h, ih f (mid f t) f t o o' (by omega) (by omega), ih (mid f t) t f t _ (o' + 2 * (mid f t - f) - 1) (by omega) (by omega)]
    · rw [postL_leaf _ pf pt o h, postL_leaf _ pf pt o' h]

theorem oL_len (c : Cnt) {f t : Nat} (pf pt : Nat) (h : f < t) : (oL c f t pf pt).length = 2 * (t - f) - 1 := postL_length _ pf pt 0 h
theorem pL_len (c : Cnt) (M : Nat → Int) {f t : Nat} (pf pt : Nat) (h : f < t) : (pL c M f t pf pt).length = 2 * (t - f) - 1 := postL_length _ pf pt 0 h

theorem oL_node (c : Cnt) {f t : Nat} (pf pt : Nat) (h : f + 1 < t) : oL c f t pf pt = oL c f (mid f t) f t ++ (oL c (mid f t) t f t ++ [c f t pf pt]) := by
  have := mid_in h
  unfold oL
  rw [postL_node _ pf pt 0 h, postL_off (fun f t pf pt => c f t pf pt) (t - f) (mid f t) t f t _ 0 (by omega) (by omega)]
theorem pL_node (c : Cnt) (M : Nat → Int) {f t : Nat} (pf pt : Nat) (h : f + 1 < t) : pL c M f t pf pt = pL c M f (mid f t) f t ++ (pL c M (mid f t) t f t ++ [partV c M f t pf pt]) := by
  have := mid_in h
  unfold pL
  rw [postL_node _ pf pt 0 h, postL_off (fun f t pf pt => partV c M f t pf pt) (t - f) (mid f t) t f t _ 0 (by omega) (by omega)]

/-- All but the root. -/
def oK (c : Cnt) (f t : Nat) : List Int := if f + 1 < t then oL c f (mid f t) f t ++ oL c (mid f t) t f t else []
def pK (c : Cnt) (M : Nat → Int) (f t : Nat) : List Part := if f + 1 < t then pL c M f (mid f t) f t ++ pL c M (mid f t) t f t else []

theorem oL_kids (c : Cnt) {f t : Nat} (pf pt : Nat) : oL c f t pf pt = oK c f t ++ [c f t pf pt] := by
  unfold oK
  by_cases h : f + 1 < t
  · rw [oL_node c pf pt h, if_pos h, List.append_assoc]
  · rw [if_neg h]; unfold oL; rw [postL_leaf _ pf pt 0 h]; rfl
theorem pL_kids (c : Cnt) (M : Nat → Int) {f t : Nat} (pf pt : Nat) : pL c M f t pf pt = pK c M f t ++ [partV c M f t pf pt] := by
  unfold pK
  by_cases h : f + 1 < t
  · rw [pL_node c M pf pt h, if_pos h, List.append_assoc]
  · rw [if_neg h]; unfold pL; rw [postL_leaf _ pf pt 0 h]; rfl

theorem oK_len (c : Cnt) {f t : Nat} (h : f < t) : (oK c f t).length = 2 * (t - f) - 2 := by
  have h1 := oL_len c 0 0 h
  rw [oL_kids, List.length_append, List.length_singleton] at h1
  omega
theorem pK_len (c : Cnt) (M : Nat → Int) {f t : Nat} (h : f < t) : (pK c M f t).length = 2 * (t - f) - 2 := by
  have h1 := pL_len c M 0 0 h
  rw [pL_kids, List.length_append, List.length_singleton] at h1
  omega

/-- The kids' parts. -/
theorem pK_left (c : Cnt) (M : Nat → Int) {f t : Nat} (h : f + 1 < t) (A C : List Part) {k : Nat} (hk : k = A.length + (2 * (mid f t - f) - 2)) : (A ++ (pK c M f t ++ C))[k]? = some (partV c M f (mid f t) f t) := by
  have hm := mid_in h
  unfold pK
  rw [if_pos h, pL_kids c M f t (f := f) (t := mid f t), List.append_assoc]
  exact get_mid _ _ _ _ (by rw [hk, pK_len c M hm.1])
theorem pK_right (c : Cnt) (M : Nat → Int) {f t : Nat} (h : f + 1 < t) (A C : List Part) {k : Nat} (hk : k = A.length + (2 * (t - f) - 3)) : (A ++ (pK c M f t ++ C))[k]? = some (partV c M (mid f t) t f t) := by
  have hm := mid_in h
  unfold pK
  rw [if_pos h, pL_kids c M f t (f := mid f t) (t := t), List.append_assoc, ← List.append_assoc A]
  refine get_mid _ _ _ _ ?_
  rw [hk, List.length_append, pL_len c M f t hm.1, pK_len c M hm.2]
  omega

/-- c' is c, changed at a span's canonical nodes. -/
def Step (c c' : Cnt) (s : Nat × Nat) (by_ : Int) : Prop := ∀ f t pf pt, c' f t pf pt = c f t pf pt + by_ * can s f t pf pt

theorem oL_same {c c' : Cnt} {f t pf pt : Nat} (hf : f < t) (h : SameOn c c' f t pf pt) : oL c f t pf pt = oL c' f t pf pt :=
  postL_congr _ _ (t - f) f t pf pt 0 (Nat.le_refl _) hf (fun _ => h.1) (fun f' t' pf' pt' _ a1 a2 a3 a4 a5 => h.2 f' t' pf' pt' a1 a2 a3 a4 a5)

theorem SameOn.sub {c c' : Cnt} {f t pf pt : Nat} (h : SameOn c c' f t pf pt) {f' t' pf' pt' : Nat} (a1 : f ≤ f') (a2 : f' < t') (a3 : t' ≤ t) (a4 : f ≤ pf') (a5 : pt' ≤ t) : SameOn c c' f' t' pf' pt' :=
  ⟨h.2 _ _ _ _ a1 a2 a3 a4 a5, fun _ _ _ _ b1 b2 b3 b4 b5 => h.2 _ _ _ _ (by omega) b2 (by omega) (by omega) (by omega)⟩

theorem pL_same {c c' : Cnt} {M : Nat → Int} {f t pf pt : Nat} (hf : f < t) (h : SameOn c c' f t pf pt) : pL c M f t pf pt = pL c' M f t pf pt :=
  postL_congr _ _ (t - f) f t pf pt 0 (Nat.le_refl _) hf (fun _ => partV_same (t - f) f t pf pt (Nat.le_refl _) h) (fun f' t' pf' pt' _ a1 a2 a3 a4 a5 => partV_same (t' - f') f' t' pf' pt' (Nat.le_refl _) (h.sub a1 a2 a3 a4 a5))

theorem Step.out {c c' : Cnt} {s : Nat × Nat} {y : Int} (h : Step c c' s y) {f t : Nat} (pf pt : Nat) (hf : f < t) (ho : t ≤ s.1 ∨ s.2 ≤ f) : SameOn c c' f t pf pt := by
  refine ⟨?_, fun f' t' pf' pt' a1 a2 a3 _ _ => ?_⟩
  · rw [h, can_out ho (Nat.le_refl _) hf (Nat.le_refl _)]; omega
  · rw [h, can_out ho a1 a2 a3]; omega

theorem Step.below {c c' : Cnt} {s : Nat × Nat} {y : Int} (h : Step c c' s y) {f t : Nat} (hs : s.1 ≤ f ∧ t ≤ s.2) {f' t' pf' pt' : Nat} (h1 : f ≤ pf') (h2 : pt' ≤ t) : c f' t' pf' pt' = c' f' t' pf' pt' := by
  rw [h, can_below hs h1 h2]; omega

theorem Step.kids {c c' : Cnt} {s : Nat × Nat} {y : Int} (h : Step c c' s y) {f t : Nat} (M : Nat → Int) (hs : s.1 ≤ f ∧ t ≤ s.2) : oK c f t = oK c' f t ∧ pK c M f t = pK c' M f t := by
  unfold oK pK
  by_cases h1 : f + 1 < t
  · have hm := mid_in h1
    have s1 : SameOn c c' f (mid f t) f t := ⟨h.below hs (by omega) (by omega), fun _ _ _ _ a1 a2 a3 a4 a5 => h.below hs (by omega) (by omega)⟩
    have s2 : SameOn c c' (mid f t) t f t := ⟨h.below hs (by omega) (by omega), fun _ _ _ _ a1 a2 a3 a4 a5 => h.below hs (by omega) (by omega)⟩
    rw [if_pos h1, if_pos h1, if_pos h1, if_pos h1, oL_same hm.1 s1, oL_same hm.2 s2, pL_same hm.1 s1, pL_same hm.2 s2]
    exact ⟨rfl, rfl⟩
  · rw [if_neg h1, if_neg h1, if_neg h1, if_neg h1]
    exact ⟨rfl, rfl⟩

/-- The bounds of a part. -/
theorem longG_le (M : Nat → Int) (G : List Bool) : ∀ f, (∀ i, f ≤ i → i < f + G.length → M i ≤ M (i + 1)) → 0 ≤ longG M f G ∧ longG M f G ≤ M (f + G.length) - M f := by
  induction G with
  | nil => intro f _; simp [longG]
  | cons b G ih =>
    intro f h
    have h0 := h f (Nat.le_refl _) (by simp)
    obtain ⟨i1, i2⟩ := ih (f + 1) (fun i a b => h i (by omega) (by simp only [List.length_cons]; omega))
    rw [List.length_cons, show f + (G.length + 1) = f + 1 + G.length by omega, longG]
    cases b <;> simp <;> omega

theorem runsG_le (G : List Bool) : ∀ p, runsG p G ≤ G.length := by
  induction G with
  | nil => intro p; simp [runsG]
  | cons b G ih =>
    intro p
    have := ih b
    rw [runsG, List.length_cons]
    split <;> omega

theorem partV_bounds {c : Cnt} {M : Nat → Int} {f t : Nat} (pf pt : Nat) (hf : f < t) (hM : ∀ i, f ≤ i → i < t → M i ≤ M (i + 1)) :
    0 ≤ (partV c M f t pf pt).long ∧ (partV c M f t pf pt).long ≤ M t - M f ∧ 0 ≤ (partV c M f t pf pt).runs ∧ (partV c M f t pf pt).runs ≤ ((t - f : Nat) : Int) := by
  have hl := gapsL_length (c := c) pf pt hf
  rw [partV_gaps (t - f) f t pf pt (Nat.le_refl _) hf]
  have h1 := longG_le M (gapsL c f t pf pt) f (fun i a b => hM i a (by omega))
  have h2 := runsG_le (gapsL c f t pf pt) false
  rw [hl] at h1 h2
  rw [show f + (t - f) = t by omega] at h1
  refine ⟨h1.1, h1.2, ?_, ?_⟩
  · exact Int.natCast_nonneg _
  · show ((runsG false (gapsL c f t pf pt) : Nat) : Int) ≤ _
    omega
end Go.Proofs.YtokpdocabmaagaaGreat
