/- Areas of boxes that are moved, turned about, seen in a mirror. No program. -/
import Derived.Test.YtokpdocabmaagaaGreatSweepQ
namespace Go.Proofs.YtokpdocabmaagaaGreat

/-- How many cells are covered: X from a on, below b; Y from c on, below d. -/
def areaG (l : List Bx) (a b c d : Int) : Int := sumR (fun x => sumR (fun y => ind (covB l x y)) c d) a b

theorem areaG_eq {l : List Bx} {xs ys : List Int} {a b c d : Int} (hxs : xs.Pairwise (· < ·)) (hys : ys.Pairwise (· < ·)) (mx : ∀ v, v ∈ xs ↔ v ∈ linX l) (my : ∀ v, v ∈ ys ↔ v ∈ linY l)
    (hx : ∀ v ∈ xs, a ≤ v ∧ v ≤ b) (hy : ∀ v ∈ ys, c ≤ v ∧ v ≤ d) : areaG l a b c d = areaS l xs ys := by
  have e0 : ys = [] → linX l = [] := by
    intro h
    unfold linX
    rw [List.flatMap_eq_nil_iff]
    intro b hb
    have hb' := List.mem_filter.1 hb
    have := (my b.y1).2 (mem_linY hb'.1 hb'.2).1
    rw [h] at this
    simp at this
  have e1 : ∀ x, sumR (fun y => ind (covB l x y)) c d = stepSum (fun y => ind (covB l x y)) ys := fun x =>
    sumR_steps hys hy (fun i p q z h1 h2 h3 h4 => by rw [cov_y hys (fun v hv => (my v).2 hv) h1 h2 h3 h4]) (fun p q z h1 h2 h3 => by rw [cov_outY hys (fun v hv => (my v).2 hv) h1 h2 h3]; rfl)
      (fun h z => by rw [cov_none (e0 h)]; rfl)
  unfold areaG areaS
  rw [sumR_congr fun x _ _ => e1 x]
  refine sumR_steps hxs hx (fun i p q z h1 h2 h3 h4 => stepSum_congr _ fun y _ => by rw [cov_x hxs (fun v hv => (mx v).2 hv) h1 h2 h3 h4])
    (fun p q z h1 h2 h3 => stepSum_zero _ fun y _ => by rw [cov_out hxs (fun v hv => (mx v).2 hv) h1 h2 h3]; rfl) (fun h z => stepSum_zero _ fun y _ => ?_)
  have hX : linX l = [] := by
    rw [List.eq_nil_iff_forall_not_mem]
    intro v hv
    have := (mx v).2 hv
    rw [h] at this
    simp at this
  rw [cov_none hX]; rfl

/-- The boxes that count lie within. -/
def Within (l : List Bx) (a b c d : Int) : Prop := ∀ s ∈ l, s.counts = true → a ≤ s.x1 ∧ s.x2 ≤ b ∧ c ≤ s.y1 ∧ s.y2 ≤ d

theorem areaG_any {l : List Bx} {a b c d a' b' c' d' : Int} (h : Within l a b c d) (h' : Within l a' b' c' d') : areaG l a b c d = areaG l a' b' c' d' := by
  have hx : ∀ {p q r s : Int}, Within l p q r s → (∀ v ∈ sqz (linX l), p ≤ v ∧ v ≤ q) ∧ (∀ v ∈ sqz (linY l), r ≤ v ∧ v ≤ s) := by
    intro p q r s hw
    constructor
    · intro v hv
      have hv := sqz_mem hv
      unfold linX at hv
      obtain ⟨u, h1, h2⟩ := List.mem_flatMap.1 hv
      have h3 := List.mem_filter.1 h1
      have h4 := hw u h3.1 h3.2
      have h5 := h3.2
      unfold Bx.counts at h5
      simp at h2 h5
      rcases h2 with h2 | h2 <;> rw [h2] <;> omega
    · intro v hv
      have hv := sqz_mem hv
      unfold linY at hv
      obtain ⟨u, h1, h2⟩ := List.mem_flatMap.1 hv
      have h3 := List.mem_filter.1 h1
      have h4 := hw u h3.1 h3.2
      have h5 := h3.2
      unfold Bx.counts at h5
      simp at h2 h5
      rcases h2 with h2 | h2 <;> rw [h2] <;> omega
  rw [areaG_eq (sqz_rise _) (sqz_rise _) (fun v => ⟨sqz_mem, mem_sqz⟩) (fun v => ⟨sqz_mem, mem_sqz⟩) (hx h).1 (hx h).2,
    areaG_eq (sqz_rise _) (sqz_rise _) (fun v => ⟨sqz_mem, mem_sqz⟩) (fun v => ⟨sqz_mem, mem_sqz⟩) (hx h').1 (hx h').2]

theorem areaA_G {l : List Bx} (hb : ∀ b ∈ l, b.in64) {a b c d : Int} (h : Within l a b c d) : areaA l = areaG l a b c d :=
  areaG_any (fun s hs _ => by have := hb s hs; unfold Bx.in64 at this; omega) h

theorem areaA_congr {l m : List Bx} (h : ∀ x y, covB l x y = covB m x y) : areaA l = areaA m := areaR_congr h

/-- Moved. -/
theorem areaA_moved {l m : List Bx} (hl : ∀ b ∈ l, b.in64) (hm : ∀ b ∈ m, b.in64) (p q : Int) (h : ∀ x y, covB m (x + p) (y + q) = covB l x y) : areaA m = areaA l := by
  obtain ⟨K, hK⟩ : ∃ K : Int, K = 9223372036854775808 + (if p < 0 then -p else p) + (if q < 0 then -q else q) := ⟨_, rfl⟩
  have hKp : 9223372036854775808 + p ≤ K ∧ 9223372036854775808 - p ≤ K ∧ 9223372036854775808 + q ≤ K ∧ 9223372036854775808 - q ≤ K := by
    rw [hK]; split <;> split <;> omega
  rw [areaA_G hm (a := -K + p) (b := K + p) (c := -K + q) (d := K + q) (fun s hs _ => by have := hm s hs; unfold Bx.in64 at this; omega),
    areaA_G hl (a := -K) (b := K) (c := -K) (d := K) (fun s hs _ => by have := hl s hs; unfold Bx.in64 at this; omega)]
  unfold areaG
  rw [← sumR_shift]
  refine sumR_congr fun x _ _ => ?_
  rw [← sumR_shift]
  exact sumR_congr fun y _ _ => by rw [h]

/-- Turned about. -/
theorem areaA_turned {l m : List Bx} (h : ∀ x y, covB m y x = covB l x y) : areaA m = areaA l := by
  unfold areaA areaR
  rw [sumR_swap]
  exact sumR_congr fun x _ _ => sumR_congr fun y _ _ => by rw [h]

/-- Seen in a mirror. -/
theorem areaA_mirror {l m : List Bx} (hl : ∀ b ∈ l, b.in64) (hm : ∀ b ∈ m, b.in64) (h : ∀ x y, covB m (-x - 1) y = covB l x y) : areaA m = areaA l := by
  rw [areaA_G hm (a := -9223372036854775809) (b := 9223372036854775809) (c := -9223372036854775809) (d := 9223372036854775809) (fun s hs _ => by have := hm s hs; unfold Bx.in64 at this; omega),
    areaA_G hl (a := -9223372036854775809) (b := 9223372036854775809) (c := -9223372036854775809) (d := 9223372036854775809) (fun s hs _ => by have := hl s hs; unfold Bx.in64 at this; omega)]
  unfold areaG
  have h1 : ∀ f : Int → Int, sumR f (-9223372036854775809) 9223372036854775809 = sumR (fun x => f (-x - 1)) (-9223372036854775809) 9223372036854775809 := by
    intro f
    have e1 := sumR_shift (f := fun x => f (-x)) (a := -9223372036854775809) (b := 9223372036854775809) 1
    have e2 := sumR_turn (f := f) (a := -9223372036854775809 + 1) (b := 9223372036854775809 + 1)
    rw [show (fun x : Int => f (-x - 1)) = fun x => f (-(x + 1)) by funext x; rw [show -x - 1 = -(x + 1) by omega]]
    rw [e1, e2]
    rfl
  rw [h1]
  exact sumR_congr fun x _ _ => sumR_congr fun y _ _ => by rw [h]
end Go.Proofs.YtokpdocabmaagaaGreat
