/- The tree over some leaves, as the list of its nodes: left, right, the node. No program. -/
import Derived.WalkKit
namespace Go.Proofs.Ythkiljfjjnckaaa

/-- Where the leaves of a node part. -/
def mid (f t : Nat) : Nat := t - (t - f) / 2

theorem mid_in {f t : Nat} (h : f + 1 < t) : f < mid f t ∧ mid f t < t := by unfold mid; omega

section
variable {α : Type}

/-- What g says of the nodes over the leaves f to t, whose parent is over pf to pt; the first place is o. -/
def postL (g : Nat → Nat → Nat → Nat → Nat → α) (f t pf pt o : Nat) : List α :=
  if _h : f + 1 < t then
    postL g f (mid f t) f t o ++ (postL g (mid f t) t f t (o + 2 * (mid f t - f) - 1) ++ [g f t pf pt (o + 2 * (t - f) - 2)])
  else [g f t pf pt o]
termination_by t - f
decreasing_by all_goals (have := mid_in (by assumption); omega)

theorem postL_leaf (g : Nat → Nat → Nat → Nat → Nat → α) {f t : Nat} (pf pt o : Nat) (h : ¬ f + 1 < t) : postL g f t pf pt o = [g f t pf pt o] := by
  rw [postL, dif_neg h]

theorem postL_node (g : Nat → Nat → Nat → Nat → Nat → α) {f t : Nat} (pf pt o : Nat) (h : f + 1 < t) :
    postL g f t pf pt o = postL g f (mid f t) f t o ++ (postL g (mid f t) t f t (o + 2 * (mid f t - f) - 1) ++ [g f t pf pt (o + 2 * (t - f) - 2)]) := by
  rw [postL, dif_pos h]

theorem postL_len (g : Nat → Nat → Nat → Nat → Nat → α) : ∀ (d f t pf pt o : Nat), t - f ≤ d → f < t → (postL g f t pf pt o).length = 2 * (t - f) - 1 := by
  intro d
  induction d with
  | zero => intro f t pf pt o h1 h2; omega
  | succ d ih =>
    intro f t pf pt o h1 h2
    by_cases h : f + 1 < t
    · have := mid_in h
      rw [postL_node g pf pt o h, List.length_append, List.length_append, ih f (mid f t) f t o (by omega) (by omega), ih (mid f t) t f t _ (by omega) (by omega)]
      simp only [List.length_singleton]
      omega
    · rw [postL_leaf g pf pt o h]
      simp only [List.length_singleton]
      omega

theorem postL_length (g : Nat → Nat → Nat → Nat → Nat → α) {f t : Nat} (pf pt o : Nat) (h : f < t) : (postL g f t pf pt o).length = 2 * (t - f) - 1 :=
  postL_len g (t - f) f t pf pt o (Nat.le_refl _) h

/-- Everything but the node itself. -/
def kidsL (g : Nat → Nat → Nat → Nat → Nat → α) (f t o : Nat) : List α :=
  if f + 1 < t then postL g f (mid f t) f t o ++ postL g (mid f t) t f t (o + 2 * (mid f t - f) - 1) else []

theorem postL_kids (g : Nat → Nat → Nat → Nat → Nat → α) {f t : Nat} (pf pt o : Nat) (h : f < t) : postL g f t pf pt o = kidsL g f t o ++ [g f t pf pt (o + 2 * (t - f) - 2)] := by
  unfold kidsL
  by_cases h1 : f + 1 < t
  · rw [postL_node g pf pt o h1, if_pos h1, List.append_assoc]
  · rw [postL_leaf g pf pt o h1, if_neg h1, show o + 2 * (t - f) - 2 = o by omega]
    rfl

theorem kidsL_length (g : Nat → Nat → Nat → Nat → Nat → α) {f t : Nat} (o : Nat) (h : f < t) : (kidsL g f t o).length = 2 * (t - f) - 2 := by
  have h1 := postL_length g 0 0 o h
  rw [postL_kids g 0 0 o h, List.length_append, List.length_singleton] at h1
  omega

/-- What is told of a node alone is told of the list. -/
theorem postL_congr (g g' : Nat → Nat → Nat → Nat → Nat → α) : ∀ (d f t pf pt o : Nat), t - f ≤ d → f < t →
    (∀ o', g f t pf pt o' = g' f t pf pt o') → (∀ f' t' pf' pt' o', f ≤ f' → f' < t' → t' ≤ t → f ≤ pf' → pt' ≤ t → g f' t' pf' pt' o' = g' f' t' pf' pt' o') → postL g f t pf pt o = postL g' f t pf pt o := by
  intro d
  induction d with
  | zero => intro f t pf pt o h1 h2; omega
  | succ d ih =>
    intro f t pf pt o h1 h2 hr hk
    by_cases h : f + 1 < t
    · have := mid_in h
      rw [postL_node g pf pt o h, postL_node g' pf pt o h, hr,
        ih f (mid f t) f t o (by omega) (by omega) (fun o' => hk _ _ _ _ _ (by omega) (by omega) (by omega) (by omega) (by omega)) (fun f' t' pf' pt' o' a1 a2 a3 a4 a5 => hk _ _ _ _ _ (by omega) (by omega) (by omega) (by omega) (by omega)),
        ih (mid f t) t f t _ (by omega) (by omega) (fun o' => hk _ _ _ _ _ (by omega) (by omega) (by omega) (by omega) (by omega)) (fun f' t' pf' pt' o' a1 a2 a3 a4 a5 => hk _ _ _ _ _ (by omega) (by omega) (by omega) (by omega) (by omega))]
    · rw [postL_leaf g pf pt o h, postL_leaf g' pf pt o h, hr]

theorem postL_map {β : Type} (g : Nat → Nat → Nat → Nat → Nat → α) (k : α → β) : ∀ (d f t pf pt o : Nat), t - f ≤ d → f < t → (postL g f t pf pt o).map k = postL (fun a b c d e => k (g a b c d e)) f t pf pt o := by
  intro d
  induction d with
  | zero => intro f t pf pt o h1 h2; omega
  | succ d ih =>
    intro f t pf pt o h1 h2
    by_cases h : f + 1 < t
    · have := mid_in h
      rw [postL_node g pf pt o h, postL_node _ pf pt o h, List.map_append, List.map_append, ih f (mid f t) f t o (by omega) (by omega), ih (mid f t) t f t _ (by omega) (by omega)]
      rfl
    · rw [postL_leaf g pf pt o h, postL_leaf _ pf pt o h]
      rfl
end
end Go.Proofs.Ythkiljfjjnckaaa
