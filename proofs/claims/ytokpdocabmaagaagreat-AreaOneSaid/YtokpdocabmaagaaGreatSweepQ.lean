/- What a sweep adds up to: all cells that are covered. Plainly. -/
import Derived.Test.YtokpdocabmaagaaGreatSweepP
import Derived.Test.YtokpdocabmaagaaGreatWideC
namespace Go.Proofs.YtokpdocabmaagaaGreat

theorem stepSum_eqL (f : Int → Int) : ∀ (l : List Int), l.Pairwise (· ≤ ·) → (∀ (i : Nat) (x y z : Int), l[i]? = some x → l[i + 1]? = some y → x ≤ z → z < y → f z = f x) →
    ∀ p q, l.head? = some p → l.getLast? = some q → sumR f p q = stepSum f l ∧ p ≤ q := by
  intro l
  induction l with
  | nil => intro _ _ p q hp; simp at hp
  | cons x r ih =>
    intro hl hf p q hp hq
    simp at hp; subst hp
    rcases r with _ | ⟨y, r⟩
    · simp at hq; subst hq
      exact ⟨by rw [sumR_none (Int.le_refl _)]; rfl, Int.le_refl _⟩
    · have hxy : x ≤ y := by
        have := List.rel_of_pairwise_cons hl (a' := y) (by simp)
        exact this
      rw [List.getLast?_cons_cons] at hq
      obtain ⟨h1, h2⟩ := ih (List.Pairwise.of_cons hl) (fun i u v z hu hv h1 h2 => hf (i + 1) u v z (by simpa using hu) (by simpa using hv) h1 h2) y q rfl hq
      refine ⟨?_, by omega⟩
      rw [sumR_split hxy h2, h1, stepSum, sumR_const' (f x) hxy (fun z h1 h2 => hf 0 x y z rfl rfl h1 h2)]

theorem line_constL {l : List Int} (hl : l.Pairwise (· ≤ ·)) {i : Nat} {p q v z : Int} (hp : l[i]? = some p) (hq : l[i + 1]? = some q) (hv : v ∈ l) (h1 : p ≤ z) (h2 : z < q) : v ≤ z ↔ v ≤ p := by
  obtain ⟨j, hj, rfl⟩ := List.getElem_of_mem hv
  obtain ⟨hi, rfl⟩ := List.getElem?_eq_some_iff.1 hp
  obtain ⟨hi', rfl⟩ := List.getElem?_eq_some_iff.1 hq
  rw [List.pairwise_iff_getElem] at hl
  constructor
  · intro h
    rcases Nat.lt_trichotomy j (i + 1) with h3 | h3 | h3
    · rcases Nat.lt_or_ge j i with h4 | h4
      · exact hl j i hj hi h4
      · obtain rfl : j = i := by omega
        exact Int.le_refl _
    · subst h3; omega
    · have := hl (i + 1) j hi' hj h3; omega
  · intro h; omega

theorem head_leL {l : List Int} (hl : l.Pairwise (· ≤ ·)) {p v : Int} (hp : l.head? = some p) (hv : v ∈ l) : p ≤ v := by
  cases l with
  | nil => simp at hp
  | cons a r =>
    simp at hp; subst hp
    rcases List.mem_cons.1 hv with rfl | hv
    · exact Int.le_refl _
    · exact List.rel_of_pairwise_cons hl hv

theorem le_lastL {l : List Int} (hl : l.Pairwise (· ≤ ·)) {q v : Int} (hq : l.getLast? = some q) (hv : v ∈ l) : v ≤ q := by
  obtain ⟨j, hj, rfl⟩ := List.getElem_of_mem hv
  rw [List.getLast?_eq_getElem?] at hq
  obtain ⟨hn, rfl⟩ := List.getElem?_eq_some_iff.1 hq
  rw [List.pairwise_iff_getElem] at hl
  rcases Nat.lt_or_ge j (l.length - 1) with h | h
  · exact hl j _ hj hn h
  · have : j = l.length - 1 := by omega
    subst this; exact Int.le_refl _

section
variable {l : List Bx} {xs ys : List Int}

theorem cov_xL (hxs : xs.Pairwise (· ≤ ·)) (hm : ∀ v ∈ linX l, v ∈ xs) {i : Nat} {p q z y : Int} (hp : xs[i]? = some p) (hq : xs[i + 1]? = some q) (h1 : p ≤ z) (h2 : z < q) : covB l z y = covB l p y := by
  refine any_congr fun b hb => ?_
  by_cases hc : b.counts = true
  · obtain ⟨m1, m2⟩ := mem_linX hb hc
    have e1 := line_constL hxs hp hq (hm _ m1) h1 h2
    have e2 := line_constL hxs hp hq (hm _ m2) h1 h2
    unfold Bx.cell
    rw [Bool.eq_iff_iff]
    simp only [decide_eq_true_eq]
    omega
  · cases h3 : b.cell z y
    · cases h4 : b.cell p y
      · rfl
      · exact absurd (cov_counts h4) hc
    · exact absurd (cov_counts h3) hc

theorem cov_outL (hxs : xs.Pairwise (· ≤ ·)) (hm : ∀ v ∈ linX l, v ∈ xs) {p q z y : Int} (hp : xs.head? = some p) (hq : xs.getLast? = some q) (h : z < p ∨ q ≤ z) : covB l z y = false := by
  rw [Bool.eq_false_iff]
  intro hc
  unfold covB at hc
  rw [List.any_eq_true] at hc
  obtain ⟨b, hb, hc⟩ := hc
  obtain ⟨m1, m2⟩ := mem_linX hb (cov_counts hc)
  have h1 := head_leL hxs hp (hm _ m1)
  have h2 := le_lastL hxs hq (hm _ m2)
  unfold Bx.cell at hc
  simp only [decide_eq_true_eq] at hc
  omega

theorem sumR_stepsL {f : Int → Int} {l : List Int} {lo hi : Int} (hl : l.Pairwise (· ≤ ·)) (hin : ∀ v ∈ l, lo ≤ v ∧ v ≤ hi)
    (hf : ∀ (i : Nat) (x y z : Int), l[i]? = some x → l[i + 1]? = some y → x ≤ z → z < y → f z = f x)
    (ho : ∀ p q z, l.head? = some p → l.getLast? = some q → z < p ∨ q ≤ z → f z = 0) (hn : l = [] → ∀ z, f z = 0) : sumR f lo hi = stepSum f l := by
  cases hc : l with
  | nil => rw [sumR_of_zero fun x _ _ => hn hc x]; rfl
  | cons a r =>
    have hne : l ≠ [] := by rw [hc]; simp
    obtain ⟨p, hp⟩ : ∃ p, l.head? = some p := by rw [hc]; exact ⟨a, rfl⟩
    obtain ⟨q, hq⟩ : ∃ q, l.getLast? = some q := by
      cases h : l.getLast? with
      | none => rw [List.getLast?_eq_none_iff] at h; exact absurd h hne
      | some q => exact ⟨q, rfl⟩
    obtain ⟨h1, h2⟩ := stepSum_eqL f l hl hf p q hp hq
    have hpm : p ∈ l := List.mem_of_mem_head? hp
    have hqm : q ∈ l := List.mem_of_getLast? hq
    rw [← hc, sumR_within (hin p hpm).1 h2 (hin q hqm).2 (fun x hx => ho p q x hp hq hx), h1]

/-- The area, column by column: the columns' lines in order, any number of times each. -/
theorem areaR_sweep {lo hi : Int} (hxs : xs.Pairwise (· ≤ ·)) (hys : ys.Pairwise (· < ·)) (mx : ∀ v, v ∈ xs ↔ v ∈ linX l) (my : ∀ v, v ∈ ys ↔ v ∈ linY l)
    (hx : ∀ v ∈ xs, lo ≤ v ∧ v ≤ hi) (hy : ∀ v ∈ ys, lo ≤ v ∧ v ≤ hi) : areaR l lo hi = stepSum (fun x => stepSum (fun y => ind (covB l x y)) ys) xs := by
  have e0 : ys = [] → linX l = [] := by
    intro h
    unfold linX
    rw [List.flatMap_eq_nil_iff]
    intro b hb
    have hb' := List.mem_filter.1 hb
    have := (my b.y1).2 (mem_linY hb'.1 hb'.2).1
    rw [h] at this
    simp at this
  have e1 : ∀ x, sumR (fun y => ind (covB l x y)) lo hi = stepSum (fun y => ind (covB l x y)) ys := fun x =>
    sumR_steps hys hy (fun i p q z h1 h2 h3 h4 => by rw [cov_y hys (fun v hv => (my v).2 hv) h1 h2 h3 h4]) (fun p q z h1 h2 h3 => by rw [cov_outY hys (fun v hv => (my v).2 hv) h1 h2 h3]; rfl)
      (fun h z => by rw [cov_none (e0 h)]; rfl)
  unfold areaR
  rw [sumR_congr fun x _ _ => e1 x]
  refine sumR_stepsL hxs hx (fun i p q z h1 h2 h3 h4 => stepSum_congr _ fun y _ => by rw [cov_xL hxs (fun v hv => (mx v).2 hv) h1 h2 h3 h4])
    (fun p q z h1 h2 h3 => stepSum_zero _ fun y _ => by rw [cov_outL hxs (fun v hv => (mx v).2 hv) h1 h2 h3]; rfl) (fun h z => stepSum_zero _ fun y _ => ?_)
  have hX : linX l = [] := by
    rw [List.eq_nil_iff_forall_not_mem]
    intro v hv
    have := (mx v).2 hv
    rw [h] at this
    simp at this
  rw [cov_none hX]; rfl
end

theorem mem_turnsX {l : List Bx} (v : Int) : v ∈ (turnsL l).map Tn.x ↔ v ∈ linX l := by
  unfold turnsL linX
  simp only [List.mem_map, List.mem_flatMap, List.mem_cons, List.not_mem_nil, or_false]
  constructor
  · rintro ⟨t, ⟨b, hb, h⟩, rfl⟩
    rcases h with rfl | rfl
    · exact ⟨b, hb, .inl rfl⟩
    · exact ⟨b, hb, .inr rfl⟩
  · rintro ⟨b, hb, rfl | rfl⟩
    · exact ⟨_, ⟨b, hb, .inl rfl⟩, rfl⟩
    · exact ⟨_, ⟨b, hb, .inr rfl⟩, rfl⟩

theorem mem_turns {l : List Bx} {t : Tn} (h : t ∈ turnsL l) : t.b ∈ l ∧ t.b.counts = true := by
  unfold turnsL at h
  simp only [List.mem_flatMap, List.mem_filter, List.mem_cons, List.not_mem_nil, or_false] at h
  obtain ⟨b, ⟨h1, h2⟩, rfl | rfl⟩ := h
  · exact ⟨h1, h2⟩
  · exact ⟨h1, h2⟩

/-- Every turn of boxes is a span of their lines. -/
theorem okT {l : List Bx} {T : List Tn} (hp : T.Perm (turnsL l)) : OkT (sqz (linY l)) T := by
  intro t ht
  obtain ⟨h1, h2⟩ := mem_turns (hp.mem_iff.1 ht)
  obtain ⟨m1, m2⟩ := mem_linY h1 h2
  unfold Bx.counts at h2
  rw [decide_eq_true_eq] at h2
  unfold spanOk
  rw [decide_eq_true (mem_sqz m1), decide_eq_true (mem_sqz m2)]
  simp only [Bool.true_and, decide_eq_true_eq]
  unfold below
  rw [← List.countP_eq_length_filter, ← List.countP_eq_length_filter]
  refine List.countP_mono_left fun x _ h => ?_
  rw [decide_eq_true_eq] at h ⊢
  omega

theorem sw_hok {Y : List Int} (hM : MarksOk Y) : ∀ (T : List Tn), HOkC Y (sw Y T) := by
  intro T
  have : ∀ (T : List Tn) (H : List (Nat × Nat)), HOkC Y H → HOkC Y (T.foldl (stepT Y) H) := by
    intro T
    induction T with
    | nil => intro H h; exact h
    | cons t T ih =>
      intro H h
      rw [List.foldl_cons]
      refine ih _ ?_
      unfold stepT
      split
      · exact drop_hok h
      · exact add_hok hM h
  exact this T [] (fun s hs => by simp at hs)

theorem sw_len (Y : List Int) : ∀ (T : List Tn), (sw Y T).length ≤ T.length := by
  intro T
  have : ∀ (T : List Tn) (H : List (Nat × Nat)), (T.foldl (stepT Y) H).length ≤ H.length + T.length := by
    intro T
    induction T with
    | nil => intro H; exact Nat.le_refl _
    | cons t T ih =>
      intro H
      rw [List.foldl_cons, List.length_cons]
      have h1 := ih (stepT Y H t)
      have h2 : (stepT Y H t).length ≤ H.length + 1 := by
        unfold stepT dropH addH
        split
        · split
          · have := List.length_erase_le (a := spanP Y t.b.y1 t.b.y2) (l := H); omega
          · omega
        · split
          · simp
          · omega
      omega
  have := this T []
  rw [List.length_nil, Nat.zero_add] at this
  exact this

/-- How long is covered behind k + 1 turns; what column k adds. -/
def longT (Y : List Int) (T : List Tn) (k : Nat) : Int := (wholeP Y (sw Y (T.take (k + 1)))).long
def addT (Y : List Int) (T : List Tn) (k : Nat) : Nat := (longT Y T k).toNat * (mf (T.map Tn.x) (k + 1) - mf (T.map Tn.x) k).toNat

theorem long_nonneg {Y : List Int} (hM : MarksOk Y) (T : List Tn) (k : Nat) : 0 ≤ longT Y T k ∧ longT Y T k < 18446744073709551616 := by
  unfold longT
  rw [wholeP_eq (sw_hok hM _)]
  unfold wholeG gapsH partG
  dsimp only
  by_cases h0 : Y.length - 1 = 0
  · rw [h0]; simp [longG]
  rw [long_sumK hM.rise _ _ (by omega)]
  refine ⟨by omega, ?_⟩
  have hb : ∀ (p : Nat → Bool) n, n < Y.length → (sumK (fun i => if p i = true then (mf Y (i + 1) - mf Y i).toNat else 0) n : Int) ≤ mf Y n - mf Y 0 := by
    intro p n
    induction n with
    | zero => intro _; simp [sumK]
    | succ n ih =>
      intro hn
      have h1 := ih (by omega)
      have hlt : mf Y n < mf Y (n + 1) := by
        have := List.pairwise_iff_getElem.1 hM.rise n (n + 1) (by omega) (by omega) (by omega)
        unfold mf
        rw [List.getElem?_eq_getElem (by omega), List.getElem?_eq_getElem (by omega)]
        exact this
      rw [sumK]
      split <;> omega
  have h1 := hb (holdsG (sw Y (T.take (k + 1)))) (Y.length - 1) (by omega)
  have g1 := hM.wf _ (List.mem_of_getElem? (mf_get (M := Y) (i := Y.length - 1) (by omega)))
  have g2 := hM.wf _ (List.mem_of_getElem? (mf_get (M := Y) (i := 0) (by omega)))
  omega

theorem marks_ok {l : List Bx} (hb : ∀ b ∈ l, b.in64) (hl : l.length < 100000) : MarksOk (sqz (linY l)) := by
  refine ⟨sqz_rise _, fun x hx => ?_, ?_⟩
  · have hx := sqz_mem hx
    unfold linY at hx
    obtain ⟨b, h1, h2⟩ := List.mem_flatMap.1 hx
    have h3 := hb b (List.mem_filter.1 h1).1
    unfold Bx.in64 at h3
    simp at h2
    rcases h2 with rfl | rfl
    · exact h3.2.2.1
    · exact h3.2.2.2
  · have := sqz_len (linY l)
    have := turns_len l
    omega

/-- How many cells boxes cover, in all. -/
def areaA (l : List Bx) : Int := areaR l (-9223372036854775808) 9223372036854775807

theorem areaA_W (l : List Bx) : 0 ≤ areaA l ∧ W128 (areaA l).toNat := by
  refine ⟨areaR_nonneg _ _ _, ?_⟩
  have h2 := areaR_le l (lo := -9223372036854775808) (hi := 9223372036854775807) (by omega)
  have e : ((9223372036854775807 : Int) - -9223372036854775808) * (9223372036854775807 - -9223372036854775808) = 340282366920938463426481119284349108225 := by decide
  rw [e] at h2
  unfold W128 areaA
  omega

theorem sweep_area {l : List Bx} {T : List Tn} (hb : ∀ b ∈ l, b.in64) (hl : l.length < 100000) (hp : T.Perm (turnsL l)) (hs : T.Pairwise (fun s t => s.x ≤ t.x)) :
    (sumK (addT (sqz (linY l)) T) (T.length - 1) : Int) = areaA l := by
  have hM := marks_ok hb hl
  have hmx : ∀ v, v ∈ T.map Tn.x ↔ v ∈ linX l := fun v => by rw [← mem_turnsX, (hp.map Tn.x).mem_iff]
  have hX : (T.map Tn.x).Pairwise (· ≤ ·) := by rw [List.pairwise_map]; exact hs
  have hin : ∀ v ∈ T.map Tn.x, (-9223372036854775808 : Int) ≤ v ∧ v ≤ 9223372036854775807 := by
    intro v hv
    have hx := (hmx v).1 hv
    unfold linX at hx
    obtain ⟨b, h1, h2⟩ := List.mem_flatMap.1 hx
    have h3 := hb b (List.mem_filter.1 h1).1
    unfold Bx.in64 at h3
    simp at h2
    rcases h2 with rfl | rfl
    · exact h3.1
    · exact h3.2.1
  unfold areaA
  rw [areaR_sweep hX hM.rise hmx (fun v => ⟨sqz_mem, mem_sqz⟩) hin hM.wf]
  have e : T.length - 1 = (T.map Tn.x).length - 1 := by rw [List.length_map]
  rw [e]
  refine steps_sumK _ _ _ fun i hi => ?_
  rw [List.length_map] at hi
  obtain ⟨t, ht⟩ : ∃ t, T[i]? = some t := ⟨_, List.getElem?_eq_getElem (by omega)⟩
  obtain ⟨u, hu⟩ : ∃ u, T[i + 1]? = some u := ⟨_, List.getElem?_eq_getElem (by omega)⟩
  have et : mf (T.map Tn.x) i = t.x := by unfold mf; rw [List.getElem?_map, ht]; rfl
  have eu : mf (T.map Tn.x) (i + 1) = u.x := by unfold mf; rw [List.getElem?_map, hu]; rfl
  have htu := (turn_le hs ht).2 u (List.mem_of_getElem? (i := 1) (by rw [List.getElem?_drop]; exact hu))
  have hn := long_nonneg hM T i
  unfold addT
  rw [et, eu, Int.natCast_mul, Int.toNat_of_nonneg hn.1, Int.toNat_of_nonneg (by omega)]
  rcases Int.lt_or_eq_of_le htu with hx | hx
  · unfold longT
    rw [long_steps hM.rise (covB l t.x) (sw_hok hM _) fun j hj => sw_holds hp hs (okT hp) hM.rise ht hu hx hj]
  · rw [hx]; simp

theorem sweep_part {l : List Bx} {T : List Tn} (hb : ∀ b ∈ l, b.in64) (hl : l.length < 100000) (hp : T.Perm (turnsL l)) (hs : T.Pairwise (fun s t => s.x ≤ t.x)) {k : Nat} (hk : k ≤ T.length - 1) :
    W128 (sumK (addT (sqz (linY l)) T) k) := by
  have h1 := sumK_mono (addT (sqz (linY l)) T) hk
  have h2 := sweep_area hb hl hp hs
  have h3 := areaA_W l
  exact h3.2.mono (by omega)

/-- How many nodes are entered for all. -/
def sweepE (Y : List Int) (T : List Tn) : Nat := (T.map fun t => entN (spT Y t) (Y.length - 1)).sum

theorem stepE_eq {l : List Bx} {T : List Tn} (hp : T.Perm (turnsL l)) (hs : T.Pairwise (fun s t => s.x ≤ t.x)) {k : Nat} {t : Tn} (ht : T[k]? = some t) :
    stepE (sqz (linY l)) (sw (sqz (linY l)) (T.take k)) t = entN (spT (sqz (linY l)) t) ((sqz (linY l)).length - 1) := by
  have hok := okT hp t (List.mem_of_getElem? ht)
  unfold stepE
  split
  · rename_i hg
    have := sw_there hp hs (okT hp) ht hg
    unfold dropK
    have h2 : spanP (sqz (linY l)) t.b.y1 t.b.y2 ∈ sw (sqz (linY l)) (T.take k) := this
    rw [if_pos hok, if_pos h2]; rfl
  · unfold addK
    rw [if_pos hok]; rfl

theorem sweepE_perm {Y : List Int} {T U : List Tn} (h : T.Perm U) : sweepE Y T = sweepE Y U := (h.map _).sum_nat

theorem sweepE_take (Y : List Int) {T : List Tn} {k : Nat} {t : Tn} (ht : T[k]? = some t) : sweepE Y (T.take (k + 1)) = sweepE Y (T.take k) + entN (spT Y t) (Y.length - 1) := by
  unfold sweepE
  rw [List.take_add_one, ht, List.map_append, List.sum_append_nat]
  simp

theorem sweepE_le (Y : List Int) (hl : Y.length < 400000) (T : List Tn) : sweepE Y T ≤ T.length * 100 := by
  unfold sweepE
  induction T with
  | nil => simp
  | cons t T ih =>
    rw [List.map_cons, List.sum_cons, List.length_cons]
    have : entN (spT Y t) (Y.length - 1) ≤ 100 := by
      unfold entN
      split
      · omega
      · have h1 := ent_any (a := (spT Y t).1) (b := (spT Y t).2) (Y.length - 1) 0 (Y.length - 1) (by omega)
        have h2 := lg_small (n := Y.length - 1) (by omega)
        rw [Nat.sub_zero] at h1
        omega
    omega
end Go.Proofs.YtokpdocabmaagaaGreat
