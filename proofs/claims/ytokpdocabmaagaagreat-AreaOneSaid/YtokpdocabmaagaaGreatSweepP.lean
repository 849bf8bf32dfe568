/- The sweep over the turns of boxes, plainly. -/
import Derived.Test.YtokpdocabmaagaaGreatTurns
import Derived.Test.YtokpdocabmaagaaGreatNewP
import Derived.Test.YtokpdocabmaagaaGreatSumK
namespace Go.Proofs.YtokpdocabmaagaaGreat

/-- Which gaps are covered, gap by gap. -/
def gapsH (M : List Int) (H : List (Nat × Nat)) : List Bool := (List.range (M.length - 1)).map (holdsG H)
def wholeG (M : List Int) (H : List (Nat × Nat)) : Part := partG (mf M) 0 (gapsH M H)

theorem wholeP_eq {M : List Int} {H : List (Nat × Nat)} (hH : HOkC M H) : wholeP M H = wholeG M H := by
  unfold wholeP wholeG gapsH
  split
  · rename_i h; rw [h]; rfl
  · rw [partV_gaps (M.length - 1) 0 _ _ _ (by omega) (by omega), gaps_all (by omega) (fun s hs => by have := (hH s hs).2; omega)]

/-- The span of a turn, by its marks. -/
def spT (Y : List Int) (t : Tn) : Nat × Nat := spanP Y t.b.y1 t.b.y2
/-- What is held behind a turn. -/
def stepT (Y : List Int) (H : List (Nat × Nat)) (t : Tn) : List (Nat × Nat) := if t.g = true then dropH Y H t.b.y1 t.b.y2 else addH Y H t.b.y1 t.b.y2
/-- How many nodes were entered for it. -/
def stepE (Y : List Int) (H : List (Nat × Nat)) (t : Tn) : Nat := if t.g = true then dropK Y H t.b.y1 t.b.y2 else addK Y t.b.y1 t.b.y2
/-- What is held behind all. -/
def sw (Y : List Int) (T : List Tn) : List (Nat × Nat) := T.foldl (stepT Y) []

theorem sw_snoc (Y : List Int) (T : List Tn) (t : Tn) : sw Y (T ++ [t]) = stepT Y (sw Y T) t := by simp [sw, List.foldl_append]

/-- How many of the turns begin, end the span. -/
def bgN (Y : List Int) (s : Nat × Nat) (T : List Tn) : Nat := T.countP fun t => !t.g && decide (spT Y t = s)
def enN (Y : List Int) (s : Nat × Nat) (T : List Tn) : Nat := T.countP fun t => t.g && decide (spT Y t = s)

theorem cnt_turns (P : Tn → Bool) : ∀ (L : List Bx), (L.flatMap fun b => [(⟨b.x1, b, false⟩ : Tn), ⟨b.x2, b, true⟩]).countP P = L.countP (fun b => P ⟨b.x1, b, false⟩) + L.countP (fun b => P ⟨b.x2, b, true⟩)
  | [] => rfl
  | b :: L => by
    rw [List.flatMap_cons, List.countP_append, cnt_turns P L, List.countP_cons, List.countP_cons, List.countP_cons, List.countP_cons, List.countP_nil]
    omega

theorem cnt_none {α : Type} (L : List α) : L.countP (fun _ => false) = 0 := by simp

/-- Ends are begun strictly ahead of them. -/
theorem cnt_ends (Y : List Int) (s : Nat × Nat) (x : Int) : ∀ (L : List Bx), (∀ b ∈ L, b.counts = true) →
    L.countP (fun b => decide (spanP Y b.y1 b.y2 = s) && decide (b.x2 ≤ x)) ≤ L.countP (fun b => decide (spanP Y b.y1 b.y2 = s) && decide (b.x1 < x)) := by
  intro L h
  refine List.countP_mono_left fun b hb h1 => ?_
  have := h b hb
  unfold Bx.counts at this
  simp only [decide_eq_true_eq, Bool.and_eq_true] at this h1 ⊢
  exact ⟨h1.1, by omega⟩

/-- Those that are there at x: begun, and not ended. -/
theorem cnt_split (Y : List Int) (s : Nat × Nat) (x : Int) : ∀ (L : List Bx), (∀ b ∈ L, b.counts = true) →
    L.countP (fun b => decide (spanP Y b.y1 b.y2 = s) && decide (b.x1 ≤ x)) = L.countP (fun b => decide (spanP Y b.y1 b.y2 = s) && decide (b.x2 ≤ x)) + L.countP (fun b => decide (spanP Y b.y1 b.y2 = s) && decide (b.x1 ≤ x ∧ x < b.x2))
  | [], _ => rfl
  | b :: L, h => by
    have h0 := h b (by simp)
    have ih := cnt_split Y s x L fun c hc => h c (List.mem_cons_of_mem _ hc)
    unfold Bx.counts at h0
    simp only [decide_eq_true_eq] at h0
    rw [List.countP_cons, List.countP_cons, List.countP_cons, ih]
    by_cases h1 : spanP Y b.y1 b.y2 = s
    · by_cases h2 : b.x1 ≤ x
      · by_cases h3 : b.x2 ≤ x
        · have h4 : ¬ x < b.x2 := by omega
          simp [h1, h2, h3, h4]; omega
        · have h4 : x < b.x2 := by omega
          simp [h1, h2, h3, h4]; omega
      · have h3 : ¬ b.x2 ≤ x := by omega
        simp [h1, h2, h3]
    · simp [h1]

section
variable {l : List Bx} {T : List Tn} {Y : List Int}

theorem turn_le (hs : T.Pairwise (fun s t => s.x ≤ t.x)) {k : Nat} {t : Tn} (ht : T[k]? = some t) : (∀ u ∈ T.take (k + 1), u.x ≤ t.x) ∧ (∀ u ∈ T.drop k, t.x ≤ u.x) := by
  obtain ⟨hk, rfl⟩ := List.getElem?_eq_some_iff.1 ht
  rw [List.pairwise_iff_getElem] at hs
  constructor
  · intro u hu
    obtain ⟨j, hj, rfl⟩ := List.getElem_of_mem hu
    rw [List.length_take] at hj
    rw [List.getElem_take]
    rcases Nat.lt_or_ge j k with h | h
    · exact hs j k (by omega) hk h
    · obtain rfl : j = k := by omega
      exact Int.le_refl _
  · intro u hu
    obtain ⟨j, hj, rfl⟩ := List.getElem_of_mem hu
    rw [List.length_drop] at hj
    rw [List.getElem_drop]
    rcases Nat.eq_zero_or_pos j with rfl | h
    · exact Int.le_refl _
    · exact hs k (k + j) hk (by omega) (by omega)

theorem cnt_take {α : Type} (L : List α) (k : Nat) (P : α → Bool) : L.countP P = (L.take k).countP P + (L.drop k).countP P := by
  rw [← List.countP_append, List.take_append_drop]

theorem en_le (hp : T.Perm (turnsL l)) (hs : T.Pairwise (fun s t => s.x ≤ t.x)) {k : Nat} {t : Tn} (ht : T[k]? = some t) (s : Nat × Nat) : enN Y s (T.take (k + 1)) ≤ bgN Y s (T.take k) := by
  obtain ⟨h1, h2⟩ := turn_le hs ht
  have e1 : enN Y s (T.take (k + 1)) ≤ T.countP (fun u => u.g && decide (spT Y u = s) && decide (u.x ≤ t.x)) := by
    rw [cnt_take T (k + 1)]
    refine Nat.le_trans (List.countP_mono_left fun u hu h => ?_) (Nat.le_add_right _ _)
    simp only [Bool.and_eq_true, decide_eq_true_eq] at h ⊢
    exact ⟨h, h1 u hu⟩
  have e2 : T.countP (fun u => !u.g && decide (spT Y u = s) && decide (u.x < t.x)) ≤ bgN Y s (T.take k) := by
    rw [cnt_take T k]
    have hz : (T.drop k).countP (fun u => !u.g && decide (spT Y u = s) && decide (u.x < t.x)) = 0 := by
      rw [List.countP_eq_zero]
      intro u hu h
      have := h2 u hu
      simp only [Bool.and_eq_true, decide_eq_true_eq] at h
      omega
    rw [hz]
    refine List.countP_mono_left fun u _ h => ?_
    simp only [Bool.and_eq_true, decide_eq_true_eq] at h ⊢
    exact h.1
  refine Nat.le_trans e1 (Nat.le_trans ?_ e2)
  rw [hp.countP_eq, hp.countP_eq]
  unfold turnsL
  rw [cnt_turns, cnt_turns]
  have := cnt_ends Y s t.x (l.filter Bx.counts) (fun b hb => (List.mem_filter.1 hb).2)
  simp only [Bool.false_and, Bool.not_true, Bool.not_false, Bool.true_and, cnt_none, Nat.zero_add, Nat.add_zero]
  exact this

/-- All turns are spans of marks. -/
def OkT (Y : List Int) (T : List Tn) : Prop := ∀ t ∈ T, spanOk Y t.b.y1 t.b.y2 = true

theorem sw_inv (hp : T.Perm (turnsL l)) (hs : T.Pairwise (fun s t => s.x ≤ t.x)) (ok : OkT Y T) : ∀ k, k ≤ T.length → ∀ s, (sw Y (T.take k)).count s + enN Y s (T.take k) = bgN Y s (T.take k) := by
  intro k
  induction k with
  | zero => intro _ s; simp [sw, enN, bgN]
  | succ k ih =>
    intro hk s
    obtain ⟨t, ht⟩ : ∃ t, T[k]? = some t := ⟨_, List.getElem?_eq_getElem (by omega)⟩
    have hle := en_le (Y := Y) hp hs ht (spT Y t)
    have ht2 : T.take (k + 1) = T.take k ++ [t] := by rw [List.take_add_one, ht]; rfl
    have h0 := ih (by omega) s
    have h1 := ih (by omega) (spT Y t)
    have hok := ok t (List.mem_of_getElem? ht)
    rw [ht2, sw_snoc]
    rw [ht2] at hle
    unfold enN bgN at h0 h1 hle ⊢
    rw [List.countP_append] at hle ⊢
    rw [List.countP_append]
    rw [List.countP_singleton] at hle ⊢
    rw [List.countP_singleton]
    unfold stepT
    cases hg : t.g
    · simp only [Bool.false_and, Bool.not_false, Bool.true_and, Bool.false_eq_true, if_false, decide_eq_true_eq]
      unfold addH
      rw [if_pos hok, List.count_cons]
      have e : (spanP Y t.b.y1 t.b.y2 == s) = decide (spT Y t = s) := by
        unfold spT
        rw [Bool.eq_iff_iff, beq_iff_eq, decide_eq_true_eq]
      rw [e]
      by_cases hc : spT Y t = s
      · simp only [hc, decide_true, if_true]; omega
      · simp only [hc, decide_false, Bool.false_eq_true, if_false]; omega
    · rw [hg] at hle
      simp only [Bool.true_and, Bool.not_true, Bool.false_and, decide_true, if_true, Bool.false_eq_true, if_false, decide_eq_true_eq] at hle ⊢
      unfold dropH
      rw [if_pos hok]
      have e : spanP Y t.b.y1 t.b.y2 = spT Y t := rfl
      rw [e]
      by_cases hc : spT Y t = s
      · rw [hc] at hle h1 ⊢
        rw [List.count_erase_self, if_pos rfl]; omega
      · rw [List.count_erase_of_ne (fun h => hc h.symm), if_neg hc]; omega

/-- Who goes is there. -/
theorem sw_there (hp : T.Perm (turnsL l)) (hs : T.Pairwise (fun s t => s.x ≤ t.x)) (ok : OkT Y T) {k : Nat} {t : Tn} (ht : T[k]? = some t) (hg : t.g = true) : spT Y t ∈ sw Y (T.take k) := by
  have hk := (List.getElem?_eq_some_iff.1 ht).1
  have h1 := sw_inv hp hs ok k (by omega) (spT Y t)
  have hle := en_le (Y := Y) hp hs ht (spT Y t)
  have ht2 : T.take (k + 1) = T.take k ++ [t] := by rw [List.take_add_one, ht]; rfl
  rw [ht2] at hle
  unfold enN bgN at h1 hle
  rw [List.countP_append, List.countP_singleton, hg] at hle
  simp only [Bool.true_and, decide_true, if_true] at hle
  exact List.count_pos_iff.1 (by omega)

/-- Where x grows: held is what is there at x. -/
theorem sw_mem (hp : T.Perm (turnsL l)) (hs : T.Pairwise (fun s t => s.x ≤ t.x)) (ok : OkT Y T) {k : Nat} {t u : Tn} (ht : T[k]? = some t) (hu : T[k + 1]? = some u) (hx : t.x < u.x) (s : Nat × Nat) :
    s ∈ sw Y (T.take (k + 1)) ↔ ∃ b ∈ l, b.counts = true ∧ spanP Y b.y1 b.y2 = s ∧ b.x1 ≤ t.x ∧ t.x < b.x2 := by
  have hk := (List.getElem?_eq_some_iff.1 ht).1
  have hk2 := (List.getElem?_eq_some_iff.1 hu).1
  obtain ⟨h1, -⟩ := turn_le hs ht
  obtain ⟨-, h2⟩ := turn_le hs hu
  have hi := sw_inv hp hs ok (k + 1) (by omega) s
  have e1 : ∀ q : Tn → Bool, (T.take (k + 1)).countP q = T.countP (fun u => q u && decide (u.x ≤ t.x)) := by
    intro q
    rw [cnt_take T (k + 1)]
    have hz : (T.drop (k + 1)).countP (fun u => q u && decide (u.x ≤ t.x)) = 0 := by
      rw [List.countP_eq_zero]
      intro v hv h
      have := h2 v hv
      simp only [Bool.and_eq_true, decide_eq_true_eq] at h
      omega
    rw [hz, Nat.add_zero]
    refine List.countP_congr fun v hv => ?_
    have := h1 v hv
    simp [this]
  have e2 : enN Y s (T.take (k + 1)) = (l.filter Bx.counts).countP (fun b => decide (spanP Y b.y1 b.y2 = s) && decide (b.x2 ≤ t.x)) := by
    unfold enN
    rw [e1, hp.countP_eq]
    unfold turnsL
    rw [cnt_turns]
    simp only [Bool.false_and, Bool.true_and, cnt_none, Nat.zero_add]
    rfl
  have e3 : bgN Y s (T.take (k + 1)) = (l.filter Bx.counts).countP (fun b => decide (spanP Y b.y1 b.y2 = s) && decide (b.x1 ≤ t.x)) := by
    unfold bgN
    rw [e1, hp.countP_eq]
    unfold turnsL
    rw [cnt_turns]
    simp only [Bool.false_and, Bool.true_and, Bool.not_true, Bool.not_false, cnt_none, Nat.add_zero]
    rfl
  have h3 := cnt_split Y s t.x (l.filter Bx.counts) (fun b hb => (List.mem_filter.1 hb).2)
  rw [e2, e3, h3] at hi
  rw [← List.count_pos_iff, show (sw Y (T.take (k + 1))).count s = (l.filter Bx.counts).countP (fun b => decide (spanP Y b.y1 b.y2 = s) && decide (b.x1 ≤ t.x ∧ t.x < b.x2)) by omega, List.countP_pos_iff]
  constructor
  · rintro ⟨b, hb, h⟩
    have hb' := List.mem_filter.1 hb
    simp only [Bool.and_eq_true, decide_eq_true_eq] at h
    exact ⟨b, hb'.1, hb'.2, h.1, h.2⟩
  · rintro ⟨b, hb, hc, h4, h5⟩
    exact ⟨b, List.mem_filter.2 ⟨hb, hc⟩, by simp only [Bool.and_eq_true, decide_eq_true_eq]; exact ⟨h4, h5⟩⟩

theorem span_covers (hY : Y.Pairwise (· < ·)) {lo hi : Int} {i : Nat} (h : i < Y.length) : ((spanP Y lo hi).1 ≤ i ↔ lo ≤ mf Y i) ∧ (i < (spanP Y lo hi).2 ↔ mf Y i < hi) := by
  have hle := hY.imp (fun {a b} (hab : a < b) => Int.le_of_lt hab)
  have h1 := below_at hle lo i _ (mf_get h)
  have h2 := below_at hle hi i _ (mf_get h)
  unfold spanP
  dsimp only
  exact ⟨by omega, by omega⟩

theorem sw_holds (hp : T.Perm (turnsL l)) (hs : T.Pairwise (fun s t => s.x ≤ t.x)) (ok : OkT Y T) (hY : Y.Pairwise (· < ·)) {k : Nat} {t u : Tn} (ht : T[k]? = some t) (hu : T[k + 1]? = some u) (hx : t.x < u.x) {i : Nat} (hi : i < Y.length) :
    holdsG (sw Y (T.take (k + 1))) i = covB l t.x (mf Y i) := by
  unfold holdsG covB
  rw [Bool.eq_iff_iff, List.any_eq_true, List.any_eq_true]
  constructor
  · rintro ⟨s, h1, h2⟩
    obtain ⟨b, hb, hc, rfl, h3, h4⟩ := (sw_mem hp hs ok ht hu hx s).1 h1
    simp only [Bool.and_eq_true, decide_eq_true_eq] at h2
    have h5 := span_covers hY (lo := b.y1) (hi := b.y2) hi
    refine ⟨b, hb, ?_⟩
    unfold Bx.cell
    rw [decide_eq_true_eq]
    exact ⟨h3, h4, h5.1.1 h2.1, h5.2.1 h2.2⟩
  · rintro ⟨b, hb, h⟩
    have hc := cov_counts h
    unfold Bx.cell at h
    rw [decide_eq_true_eq] at h
    have h5 := span_covers hY (lo := b.y1) (hi := b.y2) hi
    refine ⟨spanP Y b.y1 b.y2, (sw_mem hp hs ok ht hu hx _).2 ⟨b, hb, hc, rfl, h.1, h.2.1⟩, ?_⟩
    simp only [Bool.and_eq_true, decide_eq_true_eq]
    exact ⟨h5.1.2 h.2.2.1, h5.2.2 h.2.2.2⟩
end

theorem mf_cons (a : Int) (l : List Int) (i : Nat) : mf (a :: l) (i + 1) = mf l i := by unfold mf; rw [List.getElem?_cons_succ]

/-- Steps, one by one. -/
theorem steps_sumK (f : Int → Int) : ∀ (l : List Int) (g : Nat → Nat), (∀ i, i < l.length - 1 → (g i : Int) = f (mf l i) * (mf l (i + 1) - mf l i)) → (sumK g (l.length - 1) : Int) = stepSum f l
  | [], g, _ => rfl
  | [_], g, _ => rfl
  | x :: y :: r, g, h => by
    have e : (x :: y :: r).length - 1 = ((y :: r).length - 1) + 1 := by simp
    rw [e, sumK_cons, stepSum]
    have h0 := h 0 (by simp)
    have e0 : mf (x :: y :: r) 0 = x := rfl
    have e1 : mf (x :: y :: r) (0 + 1) = y := rfl
    rw [e0, e1] at h0
    have ih := steps_sumK f (y :: r) (fun i => g (i + 1)) (fun i hi => by
      have := h (i + 1) (by simp at hi ⊢; omega)
      rw [mf_cons, mf_cons] at this
      exact this)
    rw [Int.natCast_add, h0, ih]

theorem long_sumK {Y : List Int} (hY : Y.Pairwise (· < ·)) (p : Nat → Bool) : ∀ n, n < Y.length ∨ n = 0 → longG (mf Y) 0 ((List.range n).map p) = (sumK (fun i => if p i = true then (mf Y (i + 1) - mf Y i).toNat else 0) n : Int)
  | 0, _ => rfl
  | n + 1, h => by
    have hlt : mf Y n < mf Y (n + 1) := by
      have := List.pairwise_iff_getElem.1 hY n (n + 1) (by omega) (by omega) (by omega)
      unfold mf
      rw [List.getElem?_eq_getElem (by omega), List.getElem?_eq_getElem (by omega)]
      exact this
    rw [List.range_succ, List.map_append, longG_app, long_sumK hY p n (.inl (by omega)), sumK]
    simp only [List.map_cons, List.map_nil, longG, List.length_map, List.length_range, Nat.zero_add, Int.natCast_add]
    split <;> omega

theorem long_steps {Y : List Int} (hY : Y.Pairwise (· < ·)) (c : Int → Bool) {H : List (Nat × Nat)} (hH : HOkC Y H) (h : ∀ i, i < Y.length → holdsG H i = c (mf Y i)) : (wholeP Y H).long = stepSum (fun y => ind (c y)) Y := by
  rw [wholeP_eq hH]
  unfold wholeG gapsH partG
  dsimp only
  rw [long_sumK hY _ _ (by omega)]
  refine steps_sumK _ Y _ fun i hi => ?_
  have hlt : mf Y i < mf Y (i + 1) := by
    have := List.pairwise_iff_getElem.1 hY i (i + 1) (by omega) (by omega) (by omega)
    unfold mf
    rw [List.getElem?_eq_getElem (by omega), List.getElem?_eq_getElem (by omega)]
    exact this
  rw [h i (by omega)]
  cases c (mf Y i)
  · simp [ind]
  · simp [ind]; omega
end Go.Proofs.YtokpdocabmaagaaGreat
