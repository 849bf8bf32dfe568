/- Spans with all numbers the other way round; what meets a wider part; a list that is found within another by one look. No program. -/
import Derived.Test.YtjpjlfcjkgmhdaaGreatIvlM
import Derived.Test.YtjpjlfcjkgmhdaaGreatSpanO
namespace Go.Proofs.YtjpjlfcjkgmhdaaGreat

/-- A span with all numbers the other way round. -/
def turnS (s : Sp) : Sp := ⟨-1 - s.hi, -1 - s.lo, s.id⟩

theorem turnS_ids (l : List Sp) : (l.map turnS).map Sp.id = l.map Sp.id := by
  rw [List.map_map]; rfl

theorem rightS_turn (l : List Sp) : rightS (l.map turnS) = rightS l := by
  rw [Bool.eq_iff_iff, rightS_iff, rightS_iff, turnS_ids]
  constructor
  · rintro ⟨h1, h2⟩
    refine ⟨fun s hs => ?_, h2⟩
    have := h1 (turnS s) (List.mem_map_of_mem hs)
    simp only [turnS] at this
    omega
  · rintro ⟨h1, h2⟩
    refine ⟨fun s hs => ?_, h2⟩
    obtain ⟨t, ht, rfl⟩ := List.mem_map.1 hs
    have := h1 t ht
    simp only [turnS]
    omega

theorem errS_turn (l : List Sp) : errS (l.map turnS) = errS l := by unfold errS; rw [rightS_turn]
theorem keptS_turn (l : List Sp) : keptS (l.map turnS) = (keptS l).map turnS := by
  unfold keptS; rw [rightS_turn]; split <;> rfl

theorem filter_turn {p q : Sp → Bool} (h : ∀ s, q (turnS s) = p s) : ∀ l : List Sp, ((l.map turnS).filter q).map Sp.id = (l.filter p).map Sp.id
  | [] => rfl
  | s :: l => by
    rw [List.map_cons, List.filter_cons, List.filter_cons, h s]
    split
    · rw [List.map_cons, List.map_cons, filter_turn h l]; rfl
    · exact filter_turn h l

theorem stabL_turn (l : List Sp) (x : Int) : stabL (l.map turnS) (-1 - x) = stabL l x := by
  unfold stabL
  rw [filter_turn (p := fun s => stabBM s.lo s.hi x)]
  intro s
  unfold stabBM turnS
  dsimp only
  by_cases h1 : s.lo ≤ x <;> by_cases h2 : x ≤ s.hi
  · rw [decide_eq_true h1, decide_eq_true h2, decide_eq_true (show -1 - s.hi ≤ -1 - x by omega), decide_eq_true (show -1 - x ≤ -1 - s.lo by omega)]
  · rw [decide_eq_true h1, decide_eq_false h2, decide_eq_false (show ¬ -1 - s.hi ≤ -1 - x by omega)]; rfl
  · rw [decide_eq_false h1, decide_eq_false (show ¬ -1 - x ≤ -1 - s.lo by omega), Bool.and_false]; rfl
  · rw [decide_eq_false h1, decide_eq_false (show ¬ -1 - x ≤ -1 - s.lo by omega), Bool.and_false]; rfl

theorem meetL_turn (l : List Sp) (lo hi : Int) : meetL (l.map turnS) (-1 - hi) (-1 - lo) = meetL l lo hi := by
  unfold meetL
  by_cases h : hi < lo
  · rw [if_pos h, if_pos (by omega)]
  rw [if_neg h, if_neg (by omega), filter_turn (p := fun s => decide (lo ≤ s.hi) && decide (s.lo ≤ hi))]
  intro s
  unfold turnS
  dsimp only
  by_cases h1 : lo ≤ s.hi <;> by_cases h2 : s.lo ≤ hi
  · rw [decide_eq_true h1, decide_eq_true h2, decide_eq_true (show -1 - hi ≤ -1 - s.lo by omega), decide_eq_true (show -1 - s.hi ≤ -1 - lo by omega)]
  · rw [decide_eq_false h2, decide_eq_false (show ¬ -1 - hi ≤ -1 - s.lo by omega), Bool.and_false]; rfl
  · rw [decide_eq_false h1, decide_eq_false (show ¬ -1 - s.hi ≤ -1 - lo by omega), Bool.and_false]; rfl
  · rw [decide_eq_false h1, decide_eq_false (show ¬ -1 - s.hi ≤ -1 - lo by omega), Bool.and_false]; rfl

/-- How far a list is found in another, by one look. -/
def gF (A : List Nat) : List Nat → Nat → Nat
  | [], k => k
  | n :: W, k => gF A W (if A[k]? = some n then k + 1 else k)

theorem gF_app (A : List Nat) : ∀ (V W : List Nat) (k : Nat), gF A (V ++ W) k = gF A W (gF A V k)
  | [], _, _ => rfl
  | v :: V, W, k => by rw [List.cons_append, gF, gF, gF_app A V W]

theorem gF_le (A : List Nat) : ∀ (W : List Nat) (k : Nat), k ≤ A.length → gF A W k ≤ A.length
  | [], _, h => h
  | n :: W, k, h => by
    rw [gF]
    apply gF_le A W
    split
    · rename_i hq
      have := (List.getElem?_eq_some_iff.1 hq).1
      omega
    · exact h

theorem gF_all (A : List Nat) : ∀ (W : List Nat) (k : Nat), k ≤ A.length → (A.drop k).Sublist W → gF A W k = A.length
  | [], k, hk, h => by
    have := List.sublist_nil.1 h
    have hl := List.length_drop (i := k) (l := A)
    rw [this] at hl
    simp at hl
    rw [gF]; omega
  | n :: W, k, hk, h => by
    rw [gF]
    split
    · rename_i hq
      obtain ⟨h1, h2⟩ := List.getElem?_eq_some_iff.1 hq
      refine gF_all A W (k + 1) h1 ?_
      rw [List.drop_eq_getElem_cons h1, h2] at h
      exact List.Sublist.of_cons_cons h
    · rename_i hq
      refine gF_all A W k hk ?_
      by_cases hkl : k < A.length
      · rw [List.drop_eq_getElem_cons hkl] at h ⊢
        cases h with
        | cons _ h => exact h
        | cons_cons _ h => exact absurd (List.getElem?_eq_getElem hkl) hq
      · rw [List.drop_of_length_le (by omega)]
        exact List.nil_sublist _

theorem sub_of_rise : ∀ {A W : List Nat}, A.Pairwise (· < ·) → W.Pairwise (· < ·) → (∀ x ∈ A, x ∈ W) → A.Sublist W
  | A, [], _, _, h => by
    cases A with
    | nil => exact List.Sublist.refl _
    | cons a A => exact absurd (h a (by simp)) (by simp)
  | [], w :: W, _, _, _ => List.nil_sublist _
  | a :: A, w :: W, hA, hW, h => by
    have hA' := List.pairwise_cons.1 hA
    have hW' := List.pairwise_cons.1 hW
    by_cases e : a = w
    · subst e
      refine (sub_of_rise hA'.2 hW'.2 fun x hx => ?_).cons_cons a
      have := h x (List.mem_cons_of_mem _ hx)
      rcases List.mem_cons.1 this with rfl | hm
      · exact absurd (hA'.1 _ hx) (Nat.lt_irrefl _)
      · exact hm
    · refine (sub_of_rise hA hW'.2 fun x hx => ?_).cons w
      have := h x hx
      rcases List.mem_cons.1 this with rfl | hm
      · rcases List.mem_cons.1 hx with h5 | h5
        · exact absurd h5.symm e
        · have h1 := hA'.1 _ h5
          have h2 := h a (by simp)
          rcases List.mem_cons.1 h2 with h3 | h3
          · exact absurd h3 e
          · have := hW'.1 _ h3
            omega
      · exact hm

theorem sortN_rise {l : List Nat} (h : l.Nodup) : (sortN l).Pairwise (· < ·) := by
  have h1 := sortN_le l
  have h2 : (sortN l).Nodup := (sortN_perm l).nodup_iff.2 h
  exact (h1.and h2).imp (by intro a b h; omega)

theorem names_filter {l : List Sp} (h : (l.map Sp.id).Nodup) (p : Sp → Bool) : ((l.filter p).map Sp.id).Nodup := List.Nodup.sublist (List.filter_sublist.map _) h

theorem meetL_rise {l : List Sp} (h : (l.map Sp.id).Nodup) (lo hi : Int) : (meetL l lo hi).Pairwise (· < ·) := by
  unfold meetL
  split
  · exact List.Pairwise.nil
  · exact sortN_rise (names_filter h _)

theorem meetL_mem {l : List Sp} {lo hi : Int} {n : Nat} : n ∈ meetL l lo hi ↔ lo ≤ hi ∧ ∃ s ∈ l, s.id = n ∧ lo ≤ s.hi ∧ s.lo ≤ hi := by
  unfold meetL
  split
  · rename_i h
    constructor
    · intro hc; simp at hc
    · rintro ⟨h1, -⟩; omega
  · rename_i h
    rw [(sortN_perm _).mem_iff, List.mem_map]
    constructor
    · rintro ⟨s, hs, rfl⟩
      rw [List.mem_filter] at hs
      simp at hs
      exact ⟨by omega, s, hs.1, rfl, hs.2⟩
    · rintro ⟨-, s, hs, rfl, h1, h2⟩
      refine ⟨s, List.mem_filter.2 ⟨hs, ?_⟩, rfl⟩
      simp [h1, h2]

theorem meetL_wide {l : List Sp} (h : (l.map Sp.id).Nodup) {a b c d : Int} (h1 : a ≤ c) (h2 : d ≤ b) (h3 : c ≤ d) : (meetL l c d).Sublist (meetL l a b) :=
  sub_of_rise (meetL_rise h _ _) (meetL_rise h _ _) fun n hn => by
    rw [meetL_mem] at hn ⊢
    obtain ⟨-, s, hs, e, h4, h5⟩ := hn
    exact ⟨by omega, s, hs, e, by omega, by omega⟩

theorem meetL_all {l : List Sp} (h : ∀ s ∈ l, s.in64) : (meetL l (-9223372036854775808) 9223372036854775807).length = l.length := by
  unfold meetL
  rw [if_neg (by omega), sortN_len, List.length_map, List.filter_eq_self.2]
  intro s hs
  have := h s hs
  unfold Sp.in64 at this
  have h1 : -9223372036854775808 ≤ s.hi := by omega
  have h2 : s.lo ≤ 9223372036854775807 := by omega
  simp [h1, h2]
end Go.Proofs.YtjpjlfcjkgmhdaaGreat
