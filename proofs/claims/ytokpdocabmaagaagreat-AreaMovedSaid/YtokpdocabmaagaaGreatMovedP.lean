/- How many nodes are entered for boxes that are moved. No program. -/
import Derived.Test.YtokpdocabmaagaaGreatTurnP
import Derived.Test.YtokpdocabmaagaaGreatRiseP
namespace Go.Proofs.YtokpdocabmaagaaGreat

/-- A box that is moved. -/
def mvB (p q : Int) (b : Bx) : Bx := ⟨b.x1 + p, b.x2 + p, b.y1 + q, b.y2 + q, 0⟩

theorem mvB_counts (p q : Int) (b : Bx) : (mvB p q b).counts = b.counts := by
  unfold mvB Bx.counts
  rw [Bool.eq_iff_iff]
  simp only [decide_eq_true_eq]
  omega

theorem mvB_cov (p q : Int) (l : List Bx) (x y : Int) : covB (l.map (mvB p q)) (x + p) (y + q) = covB l x y := by
  unfold covB
  rw [List.any_map]
  refine any_congr fun b _ => ?_
  simp only [Function.comp]
  unfold mvB Bx.cell
  rw [Bool.eq_iff_iff]
  simp only [decide_eq_true_eq]
  omega

theorem mvB_filter (p q : Int) (l : List Bx) : (l.map (mvB p q)).filter Bx.counts = (l.filter Bx.counts).map (mvB p q) := by
  rw [List.filter_map]
  congr 1
  exact List.filter_congr fun b _ => mvB_counts p q b

theorem mvB_linY (p q : Int) (l : List Bx) : linY (l.map (mvB p q)) = (linY l).map (· + q) := by
  unfold linY
  rw [mvB_filter, List.flatMap_map, List.map_flatMap]
  rfl

theorem sqz_moved (q : Int) (L : List Int) : sqz (L.map (· + q)) = (sqz L).map (· + q) := by
  refine sqz_eq ?_ fun x => ?_
  · rw [List.pairwise_map]
    exact (sqz_rise L).imp fun h => by omega
  · simp only [List.mem_map]
    constructor
    · rintro ⟨a, h, rfl⟩; exact ⟨a, sqz_mem h, rfl⟩
    · rintro ⟨a, h, rfl⟩; exact ⟨a, mem_sqz h, rfl⟩

theorem below_moved (q : Int) (M : List Int) (x : Int) : below (M.map (· + q)) (x + q) = below M x := by
  unfold below
  rw [List.filter_map, List.length_map]
  congr 1
  refine List.filter_congr fun y _ => ?_
  simp only [Function.comp]
  rw [Bool.eq_iff_iff]
  simp only [decide_eq_true_eq]
  omega

theorem areaE_sum (l : List Bx) : sweepE (sqz (linY l)) (turnsL l) = ((l.filter Bx.counts).map fun b => 2 * entN (spanP (sqz (linY l)) b.y1 b.y2) ((sqz (linY l)).length - 1)).sum := by
  obtain ⟨Y, hY⟩ : ∃ Y, sqz (linY l) = Y := ⟨_, rfl⟩
  rw [hY]
  unfold sweepE turnsL
  obtain ⟨L, hL⟩ : ∃ L, l.filter Bx.counts = L := ⟨_, rfl⟩
  rw [hL]
  clear hL hY
  induction L with
  | nil => rfl
  | cons b L ih =>
    rw [List.flatMap_cons, List.map_append, List.sum_append_nat, ih]
    simp only [List.map_cons, List.map_nil, List.sum_cons, List.sum_nil]
    unfold spT
    dsimp only
    omega

theorem areaE_moved (p q : Int) (l : List Bx) : sweepE (sqz (linY (l.map (mvB p q)))) (turnsL (l.map (mvB p q))) = sweepE (sqz (linY l)) (turnsL l) := by
  rw [areaE_sum, areaE_sum, mvB_linY, sqz_moved, mvB_filter, List.map_map, List.length_map]
  congr 1
  refine List.map_congr_left fun b _ => ?_
  simp only [Function.comp]
  unfold spanP mvB
  dsimp only
  rw [below_moved, below_moved]

theorem areaE_perm {l m : List Bx} (h : l.Perm m) : sweepE (sqz (linY l)) (turnsL l) = sweepE (sqz (linY m)) (turnsL m) := by
  have h1 : (l.filter Bx.counts).Perm (m.filter Bx.counts) := h.filter _
  have h2 : sqz (linY l) = sqz (linY m) := sqz_congr fun x => by
    unfold linY
    simp only [List.mem_flatMap]
    constructor
    · rintro ⟨b, hb, hx⟩; exact ⟨b, h1.mem_iff.1 hb, hx⟩
    · rintro ⟨b, hb, hx⟩; exact ⟨b, h1.mem_iff.2 hb, hx⟩
  rw [areaE_sum, areaE_sum, h2]
  exact (h1.map _).sum_nat

theorem cov_perm {l m : List Bx} (h : l.Perm m) (x y : Int) : covB l x y = covB m x y := by
  unfold covB
  rw [Bool.eq_iff_iff, List.any_eq_true, List.any_eq_true]
  constructor
  · rintro ⟨b, hb, hx⟩; exact ⟨b, h.mem_iff.1 hb, hx⟩
  · rintro ⟨b, hb, hx⟩; exact ⟨b, h.mem_iff.2 hb, hx⟩

/-- Turned about; seen in a mirror. -/
def tuB (b : Bx) : Bx := ⟨b.y1, b.y2, b.x1, b.x2, 0⟩
def miB (b : Bx) : Bx := ⟨-b.x2, -b.x1, b.y1, b.y2, 0⟩

theorem tuB_cov (l : List Bx) (x y : Int) : covB (l.map tuB) y x = covB l x y := by
  unfold covB
  rw [List.any_map]
  refine any_congr fun b _ => ?_
  simp only [Function.comp]
  unfold tuB Bx.cell
  rw [Bool.eq_iff_iff]
  simp only [decide_eq_true_eq]
  omega
theorem miB_cov (l : List Bx) (x y : Int) : covB (l.map miB) (-x - 1) y = covB l x y := by
  unfold covB
  rw [List.any_map]
  refine any_congr fun b _ => ?_
  simp only [Function.comp]
  unfold miB Bx.cell
  rw [Bool.eq_iff_iff]
  simp only [decide_eq_true_eq]
  omega
end Go.Proofs.YtokpdocabmaagaaGreat
