/- Areas of boxes that are moved, turned about, seen in a mirror. No program. How many nodes are entered for boxes that are moved. No program. -/
import Derived.Test.YtcpompbiohaomaaGreatSweepQ
import Derived.Test.YtcpompbiohaomaaGreatRiseP
namespace Go.Proofs.YtcpompbiohaomaaGreat

/-- How many cells are covered: X from a on, below b; Y from c on, below d. -/
def areaG (l : List Bx) (a b c d : Int) : Int := sumR (fun x => sumR (fun y => ind (covB l x y)) c d) a b

theorem areaG_eq {l : List Bx} {xs ys : List Int} {a b c d : Int} (hxs : xs.Pairwise (· < ·)) (hys : ys.Pairwise (· < ·)) (mx : ∀ v, v ∈ xs ↔ v ∈ linX l) (my : ∀ v, v ∈ ys ↔ v ∈ linY l)
    (hx : ∀ v ∈ xs, a ≤ v ∧ v ≤ b) (hy : ∀ v ∈ ys, c ≤ v ∧ v ≤ d) : areaG l a b c d = areaS l xs ys := by
  have e0 : ys = [] → linX l = [] := by
    intro h
    unfold linX
    rw [List.flatMap_eq_nil_iff]
    intro b hb
    have hb' := List.mem_filter.1 hb
    have := (my b.y1).2 (mem_linY hb'.1 hb'.2).1
    rw [h] at this
    simp at this
  have e1 : ∀ x, sumR (fun y => ind (covB l x y)) c d = stepSum (fun y => ind (covB l x y)) ys := fun x =>
    sumR_steps hys hy (fun i p q z h1 h2 h3 h4 => by rw [cov_y hys (fun v hv => (my v).2 hv) h1 h2 h3 h4]) (fun p q z h1 h2 h3 => by rw [cov_outY hys (fun v hv => (my v).2 hv) h1 h2 h3]; rfl)
      (fun h z => by rw [cov_none (e0 h)]; rfl)
  unfold areaG areaS
  rw [sumR_congr fun x _ _ => e1 x]
  refine sumR_steps hxs hx (fun i p q z h1 h2 h3 h4 => stepSum_congr _ fun y _ => by rw [cov_x hxs (fun v hv => (mx v).2 hv) h1 h2 h3 h4])
    (fun p q z h1 h2 h3 => stepSum_zero _ fun y _ => by rw [cov_out hxs (fun v hv => (mx v).2 hv) h1 h2 h3]; rfl) (fun h z => stepSum_zero _ fun y _ => ?_)
  have hX : linX l = [] := by
    rw [List.eq_nil_iff_forall_not_mem]
    intro v hv
    have := (mx v).2 hv
    rw [h] at this
    simp at this
  rw [cov_none hX]; rfl

/-- The boxes that count lie within. -/
def Within (l : List Bx) (a b c d : Int) : Prop := ∀ s ∈ l, s.counts = true → a ≤ s.x1 ∧ s.x2 ≤ b ∧ c ≤ s.y1 ∧ s.y2 ≤ d

theorem areaG_any {l : List Bx} {a b c d a' b' c' d' : Int} (h : Within l a b c d) (h' : Within l a' b' c' d') : areaG l a b c d = areaG l a' b' c' d' := by
  have hx : ∀ {p q r s : Int}, Within l p q r s → (∀ v ∈ sqz (linX l), p ≤ v ∧ v ≤ q) ∧ (∀ v ∈ sqz (linY l), r ≤ v ∧ v ≤ s) := by
    intro p q r s hw
    constructor
    · intro v hv
      have hv := sqz_mem hv
      unfold linX at hv
      obtain ⟨u, h1, h2⟩ := List.mem_flatMap.1 hv
      have h3 := List.mem_filter.1 h1
      have h4 := hw u h3.1 h3.2
      have h5 := h3.2
      unfold Bx.counts at h5
      simp at h2 h5
      rcases h2 with h2 | h2 <;> rw [h2] <;> omega
    · intro v hv
      have hv := sqz_mem hv
      unfold linY at hv
      obtain ⟨u, h1, h2⟩ := List.mem_flatMap.1 hv
      have h3 := List.mem_filter.1 h1
      have h4 := hw u h3.1 h3.2
      have h5 := h3.2
      unfold Bx.counts at h5
      simp at h2 h5
      rcases h2 with h2 | h2 <;> rw [h2] <;> omega
  rw [areaG_eq (sqz_rise _) (sqz_rise _) (fun v => ⟨sqz_mem, mem_sqz⟩) (fun v => ⟨sqz_mem, mem_sqz⟩) (hx h).1 (hx h).2,
    areaG_eq (sqz_rise _) (sqz_rise _) (fun v => ⟨sqz_mem, mem_sqz⟩) (fun v => ⟨sqz_mem, mem_sqz⟩) (hx h').1 (hx h').2]

theorem areaA_G {l : List Bx} (hb : ∀ b ∈ l, b.in64) {a b c d : Int} (h : Within l a b c d) : areaA l = areaG l a b c d :=
  areaG_any (fun s hs _ => by have := hb s hs; unfold Bx.in64 at this; omega) h

theorem areaA_congr {l m : List Bx} (h : ∀ x y, covB l x y = covB m x y) : areaA l = areaA m := areaR_congr h

/-- Moved. -/
theorem areaA_moved {l m : List Bx} (hl : ∀ b ∈ l, b.in64) (hm : ∀ b ∈ m, b.in64) (p q : Int) (h : ∀ x y, covB m (x + p) (y + q) = covB l x y) : areaA m = areaA l := by
  obtain ⟨K, hK⟩ : ∃ K : Int, K = 9223372036854775808 + (if p < 0 then -p else p) + (if q < 0 then -q else q) := ⟨_, rfl⟩
  have hKp : 9223372036854775808 + p ≤ K ∧ 9223372036854775808 - p ≤ K ∧ 9223372036854775808 + q ≤ K ∧ 9223372036854775808 - q ≤ K := by
    rw [hK]; split <;> split <;> omega
  rw [areaA_G hm (a := -K + p) (b := K + p) (c := -K + q) (d := K + q) (fun s hs _ => by have := hm s hs; unfold Bx.in64 at this; omega),
    areaA_G hl (a := -K) (b := K) (c := -K) (d := K) (fun s hs _ => by have := hl s hs; unfold Bx.in64 at this; omega)]
  unfold areaG
  rw [← sumR_shift]
  refine sumR_congr fun x _ _ => ?_
  rw [← sumR_shift]
  exact sumR_congr fun y _ _ => by rw [h]

/-- Turned about. -/
theorem areaA_turned {l m : List Bx} (h : ∀ x y, covB m y x = covB l x y) : areaA m = areaA l := by
  unfold areaA areaR
  rw [sumR_swap]
  exact sumR_congr fun x _ _ => sumR_congr fun y _ _ => by rw [h]

/-- Seen in a mirror. -/
theorem areaA_mirror {l m : List Bx} (hl : ∀ b ∈ l, b.in64) (hm : ∀ b ∈ m, b.in64) (h : ∀ x y, covB m (-x - 1) y = covB l x y) : areaA m = areaA l := by
  rw [areaA_G hm (a := -9223372036854775809) (b := 9223372036854775809) (c := -9223372036854775809) (d := 9223372036854775809) (fun s hs _ => by have := hm s hs; unfold Bx.in64 at this; omega),
    areaA_G hl (a := -9223372036854775809) (b := 9223372036854775809) (c := -9223372036854775809) (d := 9223372036854775809) (fun s hs _ => by have := hl s hs; unfold Bx.in64 at this; omega)]
  unfold areaG
  have h1 : ∀ f : Int → Int, sumR f (-9223372036854775809) 9223372036854775809 = sumR (fun x => f (-x - 1)) (-9223372036854775809) 9223372036854775809 := by
    intro f
    have e1 := sumR_shift (f := fun x => f (-x)) (a := -9223372036854775809) (b := 9223372036854775809) 1
    have e2 := sumR_turn (f := f) (a := -9223372036854775809 + 1) (b := 9223372036854775809 + 1)
    rw [show (fun x : Int => f (-x - 1)) = fun x => f (-(x + 1)) by funext x; rw [show -x - 1 = -(x + 1) by omega]]
    rw [e1, e2]
    rfl
  rw [h1]
  exact sumR_congr fun x _ _ => sumR_congr fun y _ _ => by rw [h]
end Go.Proofs.YtcpompbiohaomaaGreat

namespace Go.Proofs.YtcpompbiohaomaaGreat

/-- A box that is moved. -/
def mvB (p q : Int) (b : Bx) : Bx := ⟨b.x1 + p, b.x2 + p, b.y1 + q, b.y2 + q, 0⟩

theorem mvB_counts (p q : Int) (b : Bx) : (mvB p q b).counts = b.counts := by
  unfold mvB Bx.counts
  rw [Bool.eq_iff_iff]
  simp only [decide_eq_true_eq]
  omega

theorem mvB_cov (p q : Int) (l : List Bx) (x y : Int) : covB (l.map (mvB p q)) (x + p) (y + q) = covB l x y := by
  unfold covB
  rw [List.any_map]
  refine any_congr fun b _ => ?_
  simp only [Function.comp]
  unfold mvB Bx.cell
  rw [Bool.eq_iff_iff]
  simp only [decide_eq_true_eq]
  omega

theorem mvB_filter (p q : Int) (l : List Bx) : (l.map (mvB p q)).filter Bx.counts = (l.filter Bx.counts).map (mvB p q) := by
  rw [List.filter_map]
  congr 1
  exact List.filter_congr fun b _ => mvB_counts p q b

theorem mvB_linY (p q : Int) (l : List Bx) : linY (l.map (mvB p q)) = (linY l).map (· + q) := by
  unfold linY
  rw [mvB_filter, List.flatMap_map, List.map_flatMap]
  rfl

theorem sqz_moved (q : Int) (L : List Int) : sqz (L.map (· + q)) = (sqz L).map (· + q) := by
  refine sqz_eq ?_ fun x => ?_
  · rw [List.pairwise_map]
    exact (sqz_rise L).imp fun h => by omega
  · simp only [List.mem_map]
    constructor
    · rintro ⟨a, h, rfl⟩; exact ⟨a, sqz_mem h, rfl⟩
    · rintro ⟨a, h, rfl⟩; exact ⟨a, mem_sqz h, rfl⟩

theorem below_moved (q : Int) (M : List Int) (x : Int) : below (M.map (· + q)) (x + q) = below M x := by
  unfold below
  rw [List.filter_map, List.length_map]
  congr 1
  refine List.filter_congr fun y _ => ?_
  simp only [Function.comp]
  rw [Bool.eq_iff_iff]
  simp only [decide_eq_true_eq]
  omega

theorem areaE_sum (l : List Bx) : sweepE (sqz (linY l)) (turnsL l) = ((l.filter Bx.counts).map fun b => 2 * entN (spanP (sqz (linY l)) b.y1 b.y2) ((sqz (linY l)).length - 1)).sum := by
  obtain ⟨Y, hY⟩ : ∃ Y, sqz (linY l) = Y := ⟨_, rfl⟩
  rw [hY]
  unfold sweepE turnsL
  obtain ⟨L, hL⟩ : ∃ L, l.filter Bx.counts = L := ⟨_, rfl⟩
  rw [hL]
  clear hL hY
  induction L with
  | nil => rfl
  | cons b L ih =>
    rw [List.flatMap_cons, List.map_append, List.sum_append_nat, ih]
    simp only [List.map_cons, List.map_nil, List.sum_cons, List.sum_nil]
    unfold spT
    dsimp only
    omega

theorem areaE_moved (p q : Int) (l : List Bx) : sweepE (sqz (linY (l.map (mvB p q)))) (turnsL (l.map (mvB p q))) = sweepE (sqz (linY l)) (turnsL l) := by
  rw [areaE_sum, areaE_sum, mvB_linY, sqz_moved, mvB_filter, List.map_map, List.length_map]
  congr 1
  refine List.map_congr_left fun b _ => ?_
  simp only [Function.comp]
  unfold spanP mvB
  dsimp only
  rw [below_moved, below_moved]

theorem areaE_perm {l m : List Bx} (h : l.Perm m) : sweepE (sqz (linY l)) (turnsL l) = sweepE (sqz (linY m)) (turnsL m) := by
  have h1 : (l.filter Bx.counts).Perm (m.filter Bx.counts) := h.filter _
  have h2 : sqz (linY l) = sqz (linY m) := sqz_congr fun x => by
    unfold linY
    simp only [List.mem_flatMap]
    constructor
    · rintro ⟨b, hb, hx⟩; exact ⟨b, h1.mem_iff.1 hb, hx⟩
    · rintro ⟨b, hb, hx⟩; exact ⟨b, h1.mem_iff.2 hb, hx⟩
  rw [areaE_sum, areaE_sum, h2]
  exact (h1.map _).sum_nat

theorem cov_perm {l m : List Bx} (h : l.Perm m) (x y : Int) : covB l x y = covB m x y := by
  unfold covB
  rw [Bool.eq_iff_iff, List.any_eq_true, List.any_eq_true]
  constructor
  · rintro ⟨b, hb, hx⟩; exact ⟨b, h.mem_iff.1 hb, hx⟩
  · rintro ⟨b, hb, hx⟩; exact ⟨b, h.mem_iff.2 hb, hx⟩

/-- Turned about; seen in a mirror. -/
def tuB (b : Bx) : Bx := ⟨b.y1, b.y2, b.x1, b.x2, 0⟩
def miB (b : Bx) : Bx := ⟨-b.x2, -b.x1, b.y1, b.y2, 0⟩

theorem tuB_cov (l : List Bx) (x y : Int) : covB (l.map tuB) y x = covB l x y := by
  unfold covB
  rw [List.any_map]
  refine any_congr fun b _ => ?_
  simp only [Function.comp]
  unfold tuB Bx.cell
  rw [Bool.eq_iff_iff]
  simp only [decide_eq_true_eq]
  omega
theorem miB_cov (l : List Bx) (x y : Int) : covB (l.map miB) (-x - 1) y = covB l x y := by
  unfold covB
  rw [List.any_map]
  refine any_congr fun b _ => ?_
  simp only [Function.comp]
  unfold miB Bx.cell
  rw [Bool.eq_iff_iff]
  simp only [decide_eq_true_eq]
  omega
end Go.Proofs.YtcpompbiohaomaaGreat
