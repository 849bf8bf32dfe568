/- The tree over some leaves, as the list of its nodes: left, right, the node. No program. A cover, plainly: how often the nodes are covered, what is known of them, which gaps that is. No program. A cover, plainly: how many nodes are entered, at most. No program. -/
import Derived.WalkKit
import Derived.Test.YtjpjlfcjkgmhdaaGreatSetB
namespace Go.Proofs.YtjpjlfcjkgmhdaaGreat

/-- Where the leaves of a node part. -/
def mid (f t : Nat) : Nat := t - (t - f) / 2

theorem mid_in {f t : Nat} (h : f + 1 < t) : f < mid f t ∧ mid f t < t := by unfold mid; omega

section
variable {α : Type}

/-- What g says of the nodes over the leaves f to t, whose parent is over pf to pt; the first place is o. -/
def postL (g : Nat → Nat → Nat → Nat → Nat → α) (f t pf pt o : Nat) : List α :=
  if _h : f + 1 < t then
    postL g f (mid f t) f t o ++ (postL g (mid f t) t f t (o + 2 * (mid f t - f) - 1) ++ [g f t pf pt (o + 2 * (t - f) - 2)])
  else [g f t pf pt o]
termination_by t - f
decreasing_by all_goals (have := mid_in (by assumption); omega)

theorem postL_leaf (g : Nat → Nat → Nat → Nat → Nat → α) {f t : Nat} (pf pt o : Nat) (h : ¬ f + 1 < t) : postL g f t pf pt o = [g f t pf pt o] := by
  rw [postL, dif_neg h]

theorem postL_node (g : Nat → Nat → Nat → Nat → Nat → α) {f t : Nat} (pf pt o : Nat) (h : f + 1 < t) :
    postL g f t pf pt o = postL g f (mid f t) f t o ++ (postL g (mid f t) t f t (o + 2 * (mid f t - f) - 1) ++ [g f t pf pt (o + 2 * (t - f) - 2)]) := by
  rw [postL, dif_pos h]

theorem postL_len (g : Nat → Nat → Nat → Nat → Nat → α) : ∀ (d f t pf pt o : Nat), t - f ≤ d → f < t → (postL g f t pf pt o).length = 2 * (t - f) - 1 := by
  intro d
  induction d with
  | zero => intro f t pf pt o h1 h2; omega
  | succ d ih =>
    intro f t pf pt o h1 h2
    by_cases h : f + 1 < t
    · have := mid_in h
      rw [postL_node g pf pt o h, List.length_append, List.length_append, ih f (mid f t) f t o (by omega) (by omega), ih (mid f t) t f t _ (by omega) (by omega)]
      simp only [List.length_singleton]
      omega
    · rw [postL_leaf g pf pt o h]
      simp only [List.length_singleton]
      omega

theorem postL_length (g : Nat → Nat → Nat → Nat → Nat → α) {f t : Nat} (pf pt o : Nat) (h : f < t) : (postL g f t pf pt o).length = 2 * (t - f) - 1 :=
  postL_len g (t - f) f t pf pt o (Nat.le_refl _) h

/-- Everything but the node itself. -/
def kidsL (g : Nat → Nat → Nat → Nat → Nat → α) (f t o : Nat) : List α :=
  if f + 1 < t then postL g f (mid f t) f t o ++ postL g (mid f t) t f t (o + 2 * (mid f t - f) - 1) else []

theorem postL_kids (g : Nat → Nat → Nat → Nat → Nat → α) {f t : Nat} (pf pt o : Nat) (h : f < t) : postL g f t pf pt o = kidsL g f t o ++ [g f t pf pt (o + 2 * (t - f) - 2)] := by
  unfold kidsL
  by_cases h1 : f + 1 < t
  · rw [postL_node g pf pt o h1, if_pos h1, List.append_assoc]
  · rw [postL_leaf g pf pt o h1, if_neg h1, show o + 2 * (t - f) - 2 = o by omega]
    rfl

theorem kidsL_length (g : Nat → Nat → Nat → Nat → Nat → α) {f t : Nat} (o : Nat) (h : f < t) : (kidsL g f t o).length = 2 * (t - f) - 2 := by
  have h1 := postL_length g 0 0 o h
  rw [postL_kids g 0 0 o h, List.length_append, List.length_singleton] at h1
  omega

/-- What is told of a node alone is told of the list. -/
theorem postL_congr (g g' : Nat → Nat → Nat → Nat → Nat → α) : ∀ (d f t pf pt o : Nat), t - f ≤ d → f < t →
    (∀ o', g f t pf pt o' = g' f t pf pt o') → (∀ f' t' pf' pt' o', f ≤ f' → f' < t' → t' ≤ t → f ≤ pf' → pt' ≤ t → g f' t' pf' pt' o' = g' f' t' pf' pt' o') → postL g f t pf pt o = postL g' f t pf pt o := by
  intro d
  induction d with
  | zero => intro f t pf pt o h1 h2; omega
  | succ d ih =>
    intro f t pf pt o h1 h2 hr hk
    by_cases h : f + 1 < t
    · have := mid_in h
      rw [postL_node g pf pt o h, postL_node g' pf pt o h, hr,
        ih f (mid f t) f t o (by omega) (by omega) (fun o' => hk _ _ _ _ _ (by omega) (by omega) (by omega) (by omega) (by omega)) (fun f' t' pf' pt' o' a1 a2 a3 a4 a5 => hk _ _ _ _ _ (by omega) (by omega) (by omega) (by omega) (by omega)),
        ih (mid f t) t f t _ (by omega) (by omega) (fun o' => hk _ _ _ _ _ (by omega) (by omega) (by omega) (by omega) (by omega)) (fun f' t' pf' pt' o' a1 a2 a3 a4 a5 => hk _ _ _ _ _ (by omega) (by omega) (by omega) (by omega) (by omega))]
    · rw [postL_leaf g pf pt o h, postL_leaf g' pf pt o h, hr]

theorem postL_map {β : Type} (g : Nat → Nat → Nat → Nat → Nat → α) (k : α → β) : ∀ (d f t pf pt o : Nat), t - f ≤ d → f < t → (postL g f t pf pt o).map k = postL (fun a b c d e => k (g a b c d e)) f t pf pt o := by
  intro d
  induction d with
  | zero => intro f t pf pt o h1 h2; omega
  | succ d ih =>
    intro f t pf pt o h1 h2
    by_cases h : f + 1 < t
    · have := mid_in h
      rw [postL_node g pf pt o h, postL_node _ pf pt o h, List.map_append, List.map_append, ih f (mid f t) f t o (by omega) (by omega), ih (mid f t) t f t _ (by omega) (by omega)]
      rfl
    · rw [postL_leaf g pf pt o h, postL_leaf _ pf pt o h]
      rfl
end
end Go.Proofs.YtjpjlfcjkgmhdaaGreat

namespace Go.Proofs.YtjpjlfcjkgmhdaaGreat

/-- How often a node over f to t, whose parent is over pf to pt, is covered as a whole. -/
abbrev Cnt := Nat → Nat → Nat → Nat → Int

structure Part where
  long : Int
  runs : Int
  first : Bool
  last : Bool
deriving DecidableEq

def thenP (p q : Part) : Part := ⟨p.long + q.long, p.runs + q.runs - (if p.last && q.first then 1 else 0), p.first, q.last⟩

/-- What is known of a node. -/
def partV (c : Cnt) (M : Nat → Int) (f t pf pt : Nat) : Part :=
  if 0 < c f t pf pt then ⟨M t - M f, 1, true, true⟩
  else if _h : f + 1 < t then thenP (partV c M f (mid f t) f t) (partV c M (mid f t) t f t)
  else ⟨0, 0, false, false⟩
termination_by t - f
decreasing_by all_goals (have := mid_in (by assumption); omega)

/-- Which gaps are covered. -/
def gapsL (c : Cnt) (f t pf pt : Nat) : List Bool :=
  if 0 < c f t pf pt then List.replicate (t - f) true
  else if _h : f + 1 < t then gapsL c f (mid f t) f t ++ gapsL c (mid f t) t f t
  else [false]
termination_by t - f
decreasing_by all_goals (have := mid_in (by assumption); omega)

/-- How many nodes are entered for a span. -/
def ent (a b : Nat) (f t : Nat) : Nat :=
  if t ≤ a ∨ b ≤ f then 1 else if a ≤ f ∧ t ≤ b then 1
  else if _h : f + 1 < t then 1 + (ent a b f (mid f t) + ent a b (mid f t) t) else 1
termination_by t - f
decreasing_by all_goals (have := mid_in (by assumption); omega)

theorem partV_pos {c : Cnt} {M : Nat → Int} {f t pf pt : Nat} (h : 0 < c f t pf pt) : partV c M f t pf pt = ⟨M t - M f, 1, true, true⟩ := by rw [partV, if_pos h]
theorem partV_node {c : Cnt} {M : Nat → Int} {f t pf pt : Nat} (h : ¬ 0 < c f t pf pt) (h1 : f + 1 < t) : partV c M f t pf pt = thenP (partV c M f (mid f t) f t) (partV c M (mid f t) t f t) := by rw [partV, if_neg h, dif_pos h1]
theorem partV_leaf {c : Cnt} {M : Nat → Int} {f t pf pt : Nat} (h : ¬ 0 < c f t pf pt) (h1 : ¬ f + 1 < t) : partV c M f t pf pt = ⟨0, 0, false, false⟩ := by rw [partV, if_neg h, dif_neg h1]

theorem gapsL_pos {c : Cnt} {f t pf pt : Nat} (h : 0 < c f t pf pt) : gapsL c f t pf pt = List.replicate (t - f) true := by rw [gapsL, if_pos h]
theorem gapsL_node {c : Cnt} {f t pf pt : Nat} (h : ¬ 0 < c f t pf pt) (h1 : f + 1 < t) : gapsL c f t pf pt = gapsL c f (mid f t) f t ++ gapsL c (mid f t) t f t := by rw [gapsL, if_neg h, dif_pos h1]
theorem gapsL_leaf {c : Cnt} {f t pf pt : Nat} (h : ¬ 0 < c f t pf pt) (h1 : ¬ f + 1 < t) : gapsL c f t pf pt = [false] := by rw [gapsL, if_neg h, dif_neg h1]

theorem ent_out {a b f t : Nat} (h : t ≤ a ∨ b ≤ f) : ent a b f t = 1 := by rw [ent, if_pos h]
theorem ent_in {a b f t : Nat} (h : a ≤ f ∧ t ≤ b) : ent a b f t = 1 := by
  rw [ent]
  by_cases h0 : t ≤ a ∨ b ≤ f
  · rw [if_pos h0]
  · rw [if_neg h0, if_pos h]
theorem ent_node {a b f t : Nat} (h : ¬ (t ≤ a ∨ b ≤ f)) (h1 : ¬ (a ≤ f ∧ t ≤ b)) (h2 : f + 1 < t) : ent a b f t = 1 + (ent a b f (mid f t) + ent a b (mid f t) t) := by rw [ent, if_neg h, if_neg h1, dif_pos h2]

/-- Two counts that are the same on all nodes of a tree. -/
def SameOn (c c' : Cnt) (f t pf pt : Nat) : Prop :=
  c f t pf pt = c' f t pf pt ∧ ∀ f' t' pf' pt', f ≤ f' → f' < t' → t' ≤ t → f ≤ pf' → pt' ≤ t → c f' t' pf' pt' = c' f' t' pf' pt'

theorem SameOn.left {c c' : Cnt} {f t pf pt : Nat} (h : SameOn c c' f t pf pt) (h1 : f + 1 < t) : SameOn c c' f (mid f t) f t := by
  have := mid_in h1
  exact ⟨h.2 _ _ _ _ (by omega) (by omega) (by omega) (by omega) (by omega), fun f' t' pf' pt' a1 a2 a3 a4 a5 => h.2 _ _ _ _ (by omega) (by omega) (by omega) (by omega) (by omega)⟩

theorem SameOn.right {c c' : Cnt} {f t pf pt : Nat} (h : SameOn c c' f t pf pt) (h1 : f + 1 < t) : SameOn c c' (mid f t) t f t := by
  have := mid_in h1
  exact ⟨h.2 _ _ _ _ (by omega) (by omega) (by omega) (by omega) (by omega), fun f' t' pf' pt' a1 a2 a3 a4 a5 => h.2 _ _ _ _ (by omega) (by omega) (by omega) (by omega) (by omega)⟩

theorem partV_same {c c' : Cnt} {M : Nat → Int} : ∀ (d f t pf pt : Nat), t - f ≤ d → SameOn c c' f t pf pt → partV c M f t pf pt = partV c' M f t pf pt := by
  intro d
  induction d with
  | zero =>
    intro f t pf pt hd h
    by_cases h0 : 0 < c f t pf pt
    · rw [partV_pos h0, partV_pos (by rw [← h.1]; exact h0)]
    · rw [partV_leaf h0 (by omega), partV_leaf (by rw [← h.1]; exact h0) (by omega)]
  | succ d ih =>
    intro f t pf pt hd h
    by_cases h0 : 0 < c f t pf pt
    · rw [partV_pos h0, partV_pos (by rw [← h.1]; exact h0)]
    · by_cases h1 : f + 1 < t
      · have := mid_in h1
        rw [partV_node h0 h1, partV_node (by rw [← h.1]; exact h0) h1, ih _ _ _ _ (by omega) (h.left h1), ih _ _ _ _ (by omega) (h.right h1)]
      · rw [partV_leaf h0 h1, partV_leaf (by rw [← h.1]; exact h0) h1]

/-- The span a to b, of a node: 1, if it is one of its canonical nodes. -/
def can (s : Nat × Nat) : Cnt := fun f t pf pt => if s.1 ≤ f ∧ t ≤ s.2 ∧ ¬ (s.1 ≤ pf ∧ pt ≤ s.2) then 1 else 0

def cntH (H : List (Nat × Nat)) : Cnt := fun f t pf pt => (H.map fun s => can s f t pf pt).sum

theorem can_nonneg (s : Nat × Nat) (f t pf pt : Nat) : 0 ≤ can s f t pf pt := by unfold can; split <;> simp

theorem cntH_cons (s : Nat × Nat) (H : List (Nat × Nat)) (f t pf pt : Nat) : cntH (s :: H) f t pf pt = can s f t pf pt + cntH H f t pf pt := by simp [cntH]

theorem cntH_nonneg (H : List (Nat × Nat)) (f t pf pt : Nat) : 0 ≤ cntH H f t pf pt := by
  induction H with
  | nil => simp [cntH]
  | cons s H ih => rw [cntH_cons]; have := can_nonneg s f t pf pt; omega

theorem cntH_perm {H H' : List (Nat × Nat)} (h : H.Perm H') : cntH H = cntH H' := by
  funext f t pf pt
  unfold cntH
  induction h with
  | nil => rfl
  | cons _ _ ih => simp only [List.map_cons, List.sum_cons, ih]
  | swap _ _ _ => simp only [List.map_cons, List.sum_cons]; omega
  | trans _ _ ih1 ih2 => exact ih1.trans ih2

theorem cntH_pos {H : List (Nat × Nat)} {f t pf pt : Nat} : 0 < cntH H f t pf pt ↔ ∃ s ∈ H, s.1 ≤ f ∧ t ≤ s.2 ∧ ¬ (s.1 ≤ pf ∧ pt ≤ s.2) := by
  induction H with
  | nil => simp [cntH]
  | cons s H ih =>
    rw [cntH_cons]
    have h0 := cntH_nonneg H f t pf pt
    by_cases hs : s.1 ≤ f ∧ t ≤ s.2 ∧ ¬ (s.1 ≤ pf ∧ pt ≤ s.2)
    · have h1 : can s f t pf pt = 1 := by unfold can; rw [if_pos hs]
      rw [h1]
      exact ⟨fun _ => ⟨s, by simp, hs⟩, fun _ => by omega⟩
    · have h1 : can s f t pf pt = 0 := by unfold can; rw [if_neg hs]
      rw [h1, Int.zero_add, ih]
      constructor
      · rintro ⟨x, hx, h⟩; exact ⟨x, by simp [hx], h⟩
      · rintro ⟨x, hx, h⟩
        rcases List.mem_cons.1 hx with rfl | hx
        · exact (hs h).elim
        · exact ⟨x, hx, h⟩

theorem can_out {s : Nat × Nat} {f t : Nat} (h : t ≤ s.1 ∨ s.2 ≤ f) {f' t' pf' pt' : Nat} (h1 : f ≤ f') (h2 : f' < t') (h3 : t' ≤ t) : can s f' t' pf' pt' = 0 := by
  unfold can; rw [if_neg (by omega)]

theorem can_below {s : Nat × Nat} {f t : Nat} (h : s.1 ≤ f ∧ t ≤ s.2) {f' t' pf' pt' : Nat} (h1 : f ≤ pf') (h2 : pt' ≤ t) : can s f' t' pf' pt' = 0 := by
  unfold can; rw [if_neg (by omega)]

/-- Is gap i within a span? -/
def holdsG (H : List (Nat × Nat)) (i : Nat) : Bool := H.any fun s => decide (s.1 ≤ i) && decide (i < s.2)

theorem gapsL_len {c : Cnt} : ∀ (d f t pf pt : Nat), t - f ≤ d → f < t → (gapsL c f t pf pt).length = t - f := by
  intro d
  induction d with
  | zero => intro f t pf pt h1 h2; omega
  | succ d ih =>
    intro f t pf pt h1 h2
    by_cases h0 : 0 < c f t pf pt
    · rw [gapsL_pos h0, List.length_replicate]
    · by_cases h : f + 1 < t
      · have := mid_in h
        rw [gapsL_node h0 h, List.length_append, ih _ _ _ _ (by omega) (by omega), ih _ _ _ _ (by omega) (by omega)]
        omega
      · rw [gapsL_leaf h0 h]
        simp only [List.length_singleton]; omega

theorem gapsL_length {c : Cnt} {f t : Nat} (pf pt : Nat) (h : f < t) : (gapsL c f t pf pt).length = t - f := gapsL_len (t - f) f t pf pt (Nat.le_refl _) h

theorem gapsL_get {H : List (Nat × Nat)} : ∀ (d f t pf pt i : Nat), t - f ≤ d → pf ≤ f → t ≤ pt → f ≤ i → i < t →
    (gapsL (cntH H) f t pf pt)[i - f]? = some (H.any fun s => decide (s.1 ≤ i) && decide (i < s.2) && !(decide (s.1 ≤ pf) && decide (pt ≤ s.2))) := by
  intro d
  induction d with
  | zero => intro f t pf pt i h1 h2 h3 h4 h5; omega
  | succ d ih =>
    intro f t pf pt i h1 h2 h3 h4 h5
    by_cases h0 : 0 < cntH H f t pf pt
    · rw [gapsL_pos h0, List.getElem?_replicate, if_pos (by omega)]
      obtain ⟨s, hs, hs1, hs2, hs3⟩ := cntH_pos.1 h0
      congr 1
      symm
      rw [List.any_eq_true]
      refine ⟨s, hs, ?_⟩
      have e1 : decide (s.1 ≤ i) = true := decide_eq_true (by omega)
      have e2 : decide (i < s.2) = true := decide_eq_true (by omega)
      rw [e1, e2]
      by_cases h7 : s.1 ≤ pf
      · have e4 : decide (pt ≤ s.2) = false := decide_eq_false (by omega)
        rw [e4]; simp
      · have e4 : decide (s.1 ≤ pf) = false := decide_eq_false h7
        rw [e4]; simp
    · have hno : ∀ s ∈ H, s.1 ≤ f → t ≤ s.2 → s.1 ≤ pf ∧ pt ≤ s.2 := fun s hs a b => by
        by_cases hc : s.1 ≤ pf ∧ pt ≤ s.2
        · exact hc
        · exact (h0 (cntH_pos.2 ⟨s, hs, a, b, hc⟩)).elim
      have hsame : (H.any fun s => decide (s.1 ≤ i) && decide (i < s.2) && !(decide (s.1 ≤ f) && decide (t ≤ s.2))) = (H.any fun s => decide (s.1 ≤ i) && decide (i < s.2) && !(decide (s.1 ≤ pf) && decide (pt ≤ s.2))) := by
        rw [Bool.eq_iff_iff, List.any_eq_true, List.any_eq_true]
        constructor
        · rintro ⟨s, hs, h⟩
          refine ⟨s, hs, ?_⟩
          simp only [Bool.and_eq_true, decide_eq_true_eq, Bool.not_eq_true', Bool.and_eq_false_imp, decide_eq_false_iff_not] at h ⊢
          refine ⟨h.1, fun a b => ?_⟩
          exact h.2 (by omega) (by omega)
        · rintro ⟨s, hs, h⟩
          refine ⟨s, hs, ?_⟩
          simp only [Bool.and_eq_true, decide_eq_true_eq, Bool.not_eq_true', Bool.and_eq_false_imp, decide_eq_false_iff_not] at h ⊢
          refine ⟨h.1, fun a b => ?_⟩
          have := hno s hs a b
          exact h.2 this.1 this.2
      by_cases h : f + 1 < t
      · have hm := mid_in h
        rw [gapsL_node h0 h, ← hsame]
        have hl := gapsL_length (c := cntH H) f t hm.1
        by_cases him : i < mid f t
        · rw [List.getElem?_append_left (by omega)]
          exact ih f (mid f t) f t i (by omega) (by omega) (by omega) h4 him
        · rw [List.getElem?_append_right (by omega), hl, show i - f - (mid f t - f) = i - mid f t by omega]
          exact ih (mid f t) t f t i (by omega) (by omega) (by omega) (by omega) h5
      · rw [gapsL_leaf h0 h, ← hsame, show i - f = 0 by omega]
        simp only [List.getElem?_cons_zero, Option.some.injEq]
        symm
        rw [Bool.eq_false_iff]
        intro hc
        rw [List.any_eq_true] at hc
        obtain ⟨s, hs, h⟩ := hc
        simp only [Bool.and_eq_true, decide_eq_true_eq, Bool.not_eq_true', Bool.and_eq_false_imp, decide_eq_false_iff_not] at h
        exact h.2 (by omega) (by omega)

/-- All gaps. -/
theorem gaps_all {H : List (Nat × Nat)} {n : Nat} (hn : 0 < n) (hH : ∀ s ∈ H, s.2 ≤ n) : gapsL (cntH H) 0 n 0 (n + 1) = (List.range n).map (holdsG H) := by
  have hl := gapsL_length (c := cntH H) 0 (n + 1) hn
  refine List.ext_getElem? fun i => ?_
  by_cases hi : i < n
  · have := gapsL_get (H := H) n 0 n 0 (n + 1) i (by omega) (by omega) (by omega) (by omega) hi
    rw [Nat.sub_zero] at this
    rw [this, List.getElem?_map, List.getElem?_range hi, Option.map_some]
    congr 1
    unfold holdsG
    rw [Bool.eq_iff_iff, List.any_eq_true, List.any_eq_true]
    constructor
    · rintro ⟨s, hs, h⟩
      refine ⟨s, hs, ?_⟩
      simp only [Bool.and_eq_true] at h ⊢
      exact h.1
    · rintro ⟨s, hs, h⟩
      refine ⟨s, hs, ?_⟩
      have h2 := hH s hs
      have e : decide (n + 1 ≤ s.2) = false := decide_eq_false (by omega)
      rw [e]
      simpa using h
  · rw [List.getElem?_eq_none (by omega), List.getElem?_eq_none (by simp; omega)]

/-- How long covered gaps are; how many runs; of gaps behind one that is p. -/
def longG (M : Nat → Int) : Nat → List Bool → Int
  | _, [] => 0
  | f, b :: G => (if b then M (f + 1) - M f else 0) + longG M (f + 1) G

def runsG : Bool → List Bool → Nat
  | _, [] => 0
  | p, b :: G => (if b && !p then 1 else 0) + runsG b G

theorem longG_app (M : Nat → Int) (A B : List Bool) : ∀ f, longG M f (A ++ B) = longG M f A + longG M (f + A.length) B := by
  induction A with
  | nil => intro f; simp [longG]
  | cons a A ih =>
    intro f
    simp only [List.cons_append, longG, ih, List.length_cons]
    rw [show f + 1 + A.length = f + (A.length + 1) by omega]
    omega

theorem longG_true (M : Nat → Int) (k : Nat) : ∀ f, longG M f (List.replicate k true) = M (f + k) - M f := by
  induction k with
  | zero => intro f; simp [longG]
  | succ k ih =>
    intro f
    rw [List.replicate_succ, longG, ih, if_pos rfl, show f + 1 + k = f + (k + 1) by omega]
    omega

theorem runsG_app (A B : List Bool) : ∀ p, runsG p (A ++ B) = runsG p A + runsG (A.getLastD p) B := by
  induction A with
  | nil => intro p; simp [runsG]
  | cons a A ih =>
    intro p
    rw [List.cons_append, runsG, runsG, ih, List.getLastD_cons]
    omega

theorem runsG_true (B : List Bool) : runsG true B + (if B.headD false then 1 else 0) = runsG false B := by
  cases B with
  | nil => rfl
  | cons b B => cases b <;> simp [runsG] <;> omega

theorem runsG_ones (k : Nat) : ∀ p, runsG p (List.replicate k true) = if 0 < k ∧ p = false then 1 else 0 := by
  induction k with
  | zero => intro p; simp [runsG]
  | succ k ih =>
    intro p
    rw [List.replicate_succ, runsG, ih]
    cases p <;> simp

/-- What is known of gaps. -/
def partG (M : Nat → Int) (f : Nat) (G : List Bool) : Part := ⟨longG M f G, runsG false G, G.headD false, G.getLastD false⟩

theorem getLastD_app (A B : List Bool) (hB : B ≠ []) (d : Bool) : (A ++ B).getLastD d = B.getLastD d := by
  rw [List.getLastD_eq_getLast?, List.getLastD_eq_getLast?, List.getLast?_append]
  cases h : B.getLast? with
  | none => exact (hB (List.getLast?_eq_none_iff.1 h)).elim
  | some x => rfl

theorem headD_app (A B : List Bool) (hA : A ≠ []) (d : Bool) : (A ++ B).headD d = A.headD d := by
  cases A with
  | nil => exact (hA rfl).elim
  | cons a A => rfl

theorem partG_app (M : Nat → Int) (f : Nat) (A B : List Bool) (hA : A ≠ []) (hB : B ≠ []) : partG M f (A ++ B) = thenP (partG M f A) (partG M (f + A.length) B) := by
  unfold partG thenP
  have h2 := runsG_true B
  simp only [longG_app, runsG_app, headD_app A B hA, getLastD_app A B hB, Part.mk.injEq, true_and, and_true]
  cases hl : A.getLastD false
  · simp
  · cases hh : B.headD false
    · rw [hh] at h2
      simp at h2 ⊢; omega
    · rw [hh] at h2
      simp at h2 ⊢; omega

theorem partV_gaps {c : Cnt} {M : Nat → Int} : ∀ (d f t pf pt : Nat), t - f ≤ d → f < t → partV c M f t pf pt = partG M f (gapsL c f t pf pt) := by
  intro d
  induction d with
  | zero => intro f t pf pt h1 h2; omega
  | succ d ih =>
    intro f t pf pt h1 h2
    by_cases h0 : 0 < c f t pf pt
    · rw [partV_pos h0, gapsL_pos h0]
      unfold partG
      obtain ⟨k, hk⟩ : ∃ k, t - f = k + 1 := ⟨t - f - 1, by omega⟩
      rw [longG_true, runsG_ones, show f + (t - f) = t by omega, hk, if_pos ⟨by omega, rfl⟩]
      simp only [Part.mk.injEq, true_and]
      refine ⟨rfl, rfl, ?_⟩
      rw [List.replicate_succ', getLastD_app _ _ (by simp)]
      rfl
    · by_cases h : f + 1 < t
      · have hm := mid_in h
        have l1 := gapsL_length (c := c) f t hm.1
        have l2 := gapsL_length (c := c) f t hm.2
        rw [partV_node h0 h, gapsL_node h0 h, ih _ _ _ _ (by omega) (by omega), ih _ _ _ _ (by omega) (by omega), partG_app, l1, show f + (mid f t - f) = mid f t by omega]
        · intro e; rw [e] at l1; simp at l1; omega
        · intro e; rw [e] at l2; simp at l2; omega
      · rw [partV_leaf h0 h, gapsL_leaf h0 h]
        rfl
end Go.Proofs.YtjpjlfcjkgmhdaaGreat

namespace Go.Proofs.YtjpjlfcjkgmhdaaGreat

/-- How often n can be halved. -/
def lg (n : Nat) : Nat := bitsN (n - 1)

theorem bits_halfL (d e : Nat) (hd : 0 < d) (he : e ≤ d / 2) : bitsN e + 1 ≤ bitsN d := by
  have h1 := bitsN_lt d
  have hb : bitsN d ≠ 0 := fun h => by rw [h] at h1; omega
  obtain ⟨b, hbb⟩ : ∃ b, bitsN d = b + 1 := ⟨bitsN d - 1, by omega⟩
  rw [hbb] at h1 ⊢
  have : bitsN e ≤ b := bitsN_le e b (by rw [Nat.pow_succ] at h1; omega)
  omega

theorem lg_left {f t : Nat} (h : f + 1 < t) : lg (mid f t - f) + 1 ≤ lg (t - f) := bits_halfL _ _ (by omega) (by unfold mid; omega)
theorem lg_right {f t : Nat} (h : f + 1 < t) : lg (t - mid f t) + 1 ≤ lg (t - f) := bits_halfL _ _ (by omega) (by unfold mid; omega)

theorem ent_pos (a b f t : Nat) : 0 < ent a b f t := by
  rw [ent]; split
  · omega
  · split
    · omega
    · split <;> omega

theorem ent_leaf {a b f t : Nat} (h : ¬ f + 1 < t) : ent a b f t = 1 := by
  rw [ent]
  by_cases h0 : t ≤ a ∨ b ≤ f
  · rw [if_pos h0]
  · rw [if_neg h0]
    by_cases h1 : a ≤ f ∧ t ≤ b
    · rw [if_pos h1]
    · rw [if_neg h1, dif_neg h]

theorem ent_pre {a b : Nat} : ∀ (d f t : Nat), t - f ≤ d → a ≤ f → ent a b f t ≤ 2 * lg (t - f) + 1 := by
  intro d
  induction d with
  | zero => intro f t hd ha; rw [ent_leaf (by omega)]; omega
  | succ d ih =>
    intro f t hd ha
    by_cases h1 : t ≤ a ∨ b ≤ f
    · rw [ent_out h1]; omega
    · by_cases h2 : a ≤ f ∧ t ≤ b
      · rw [ent_in h2]; omega
      · by_cases h : f + 1 < t
        · have hm := mid_in h
          have g1 := lg_left h
          have g2 := lg_right h
          rw [ent_node h1 h2 h]
          by_cases hb : mid f t ≤ b
          · rw [ent_in (t := mid f t) ⟨ha, hb⟩]
            have := ih (mid f t) t (by omega) (by omega)
            omega
          · rw [ent_out (f := mid f t) (.inr (by omega))]
            have := ih f (mid f t) (by omega) ha
            omega
        · rw [ent_leaf h]; omega

theorem ent_suf {a b : Nat} : ∀ (d f t : Nat), t - f ≤ d → t ≤ b → ent a b f t ≤ 2 * lg (t - f) + 1 := by
  intro d
  induction d with
  | zero => intro f t hd ha; rw [ent_leaf (by omega)]; omega
  | succ d ih =>
    intro f t hd ha
    by_cases h1 : t ≤ a ∨ b ≤ f
    · rw [ent_out h1]; omega
    · by_cases h2 : a ≤ f ∧ t ≤ b
      · rw [ent_in h2]; omega
      · by_cases h : f + 1 < t
        · have hm := mid_in h
          have g1 := lg_left h
          have g2 := lg_right h
          rw [ent_node h1 h2 h]
          by_cases hb : a ≤ mid f t
          · rw [ent_in (f := mid f t) ⟨hb, ha⟩]
            have := ih f (mid f t) (by omega) (by omega)
            omega
          · rw [ent_out (t := mid f t) (.inl (by omega))]
            have := ih (mid f t) t (by omega) ha
            omega
        · rw [ent_leaf h]; omega

theorem ent_any {a b : Nat} : ∀ (d f t : Nat), t - f ≤ d → ent a b f t ≤ 4 * lg (t - f) + 1 := by
  intro d
  induction d with
  | zero => intro f t hd; rw [ent_leaf (by omega)]; omega
  | succ d ih =>
    intro f t hd
    by_cases h1 : t ≤ a ∨ b ≤ f
    · rw [ent_out h1]; omega
    · by_cases h2 : a ≤ f ∧ t ≤ b
      · rw [ent_in h2]; omega
      · by_cases h : f + 1 < t
        · have hm := mid_in h
          have g1 := lg_left h
          have g2 := lg_right h
          rw [ent_node h1 h2 h]
          by_cases hb : b ≤ mid f t
          · rw [ent_out (f := mid f t) (.inr hb)]
            have := ih f (mid f t) (by omega)
            omega
          · by_cases hb2 : mid f t ≤ a
            · rw [ent_out (t := mid f t) (.inl hb2)]
              have := ih (mid f t) t (by omega)
              omega
            · have e1 := ent_suf (a := a) (b := b) (mid f t - f) f (mid f t) (Nat.le_refl _) (by omega)
              have e2 := ent_pre (a := a) (b := b) (t - mid f t) (mid f t) t (Nat.le_refl _) (by omega)
              omega
        · rw [ent_leaf h]; omega
end Go.Proofs.YtjpjlfcjkgmhdaaGreat
