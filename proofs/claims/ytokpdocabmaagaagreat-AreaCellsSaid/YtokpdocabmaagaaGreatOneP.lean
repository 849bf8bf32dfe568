/- One box alone, boxes in a box: how many cells. No program. -/
import Derived.Test.YtokpdocabmaagaaGreatTurnP
namespace Go.Proofs.YtokpdocabmaagaaGreat

theorem toN_le {a b : Int} (h : a ≤ b) : (a.toNat : Int) ≤ (b.toNat : Int) := by omega

theorem areaA_le {l m : List Bx} (h : ∀ x y, covB l x y = true → covB m x y = true) : areaA l ≤ areaA m := areaR_mono h

theorem covB_one (b : Bx) (x y : Int) : covB [b] x y = b.cell x y := by unfold covB; simp

theorem areaA_none {l : List Bx} (h : ∀ x y, covB l x y = false) : areaA l = 0 := by
  unfold areaA areaR
  exact sumR_of_zero fun x _ _ => sumR_of_zero fun y _ _ => by rw [h]; rfl

theorem areaA_one {b : Bx} (hb : b.in64) (h : b.counts = true) : areaA [b] = (b.x2 - b.x1) * (b.y2 - b.y1) := by
  have hc := h
  unfold Bx.counts at hc
  simp only [decide_eq_true_eq] at hc
  have e := areaA_G (l := [b]) (a := b.x1) (b := b.x2) (c := b.y1) (d := b.y2) (fun s hs => by rw [List.mem_singleton.1 hs]; exact hb) (fun s hs _ => by rw [List.mem_singleton.1 hs]; omega)
  rw [e]
  unfold areaG
  have e1 : ∀ x, b.x1 ≤ x → x < b.x2 → sumR (fun y => ind (covB [b] x y)) b.y1 b.y2 = b.y2 - b.y1 := fun x h1 h2 => by
    rw [sumR_const' 1 (by omega) fun y h3 h4 => ?_, Int.one_mul]
    rw [covB_one]
    unfold Bx.cell
    rw [decide_eq_true (by omega)]
    rfl
  rw [sumR_const' (b.y2 - b.y1) (by omega) e1, Int.mul_comm]

theorem areaA_flat {b : Bx} (h : b.counts = false) : areaA [b] = 0 := by
  refine areaA_none fun x y => ?_
  rw [covB_one]
  cases hc : b.cell x y
  · rfl
  · rw [cov_counts hc] at h; exact absurd h (by simp)

/-- A box lies in another one. -/
def Bx.within (a c : Bx) : Prop := a.x1 ≤ c.x1 ∧ c.x2 ≤ a.x2 ∧ a.y1 ≤ c.y1 ∧ c.y2 ≤ a.y2

theorem cell_within {a c : Bx} (h : a.within c) {x y : Int} (hc : c.cell x y = true) : a.cell x y = true := by
  unfold Bx.within at h
  unfold Bx.cell at hc ⊢
  simp only [decide_eq_true_eq] at hc ⊢
  omega

theorem areaA_hull {l : List Bx} {a : Bx} (h : ∀ c ∈ l, c.counts = true → a.within c) : areaA l ≤ areaA [a] := by
  refine areaA_le fun x y hc => ?_
  unfold covB at hc
  rw [List.any_eq_true] at hc
  obtain ⟨c, h1, h2⟩ := hc
  rw [covB_one]
  exact cell_within (h c h1 (cov_counts h2)) h2

theorem areaA_mem {l : List Bx} {b : Bx} (h : b ∈ l) : areaA [b] ≤ areaA l := by
  refine areaA_le fun x y hc => ?_
  rw [covB_one] at hc
  unfold covB
  rw [List.any_eq_true]
  exact ⟨b, h, hc⟩

/-- The area of a box alone, as a product. -/
theorem areaA_oneN {b : Bx} (hb : b.in64) (h : b.counts = true) : (areaA [b]).toNat = (b.x2 - b.x1).toNat * (b.y2 - b.y1).toNat := by
  have hc := h
  unfold Bx.counts at hc
  simp only [decide_eq_true_eq] at hc
  rw [areaA_one hb h]
  obtain ⟨p, hp⟩ := Int.eq_ofNat_of_zero_le (show 0 ≤ b.x2 - b.x1 by omega)
  obtain ⟨q, hq⟩ := Int.eq_ofNat_of_zero_le (show 0 ≤ b.y2 - b.y1 by omega)
  rw [hp, hq, ← Int.natCast_mul]
  rfl

/-- The smallest box around one and a further one. -/
def Bx.join (a b : Bx) : Bx := ⟨min a.x1 b.x1, max a.x2 b.x2, min a.y1 b.y1, max a.y2 b.y2, 0⟩

theorem join_in {a b : Bx} (ha : a.in64) (hb : b.in64) : (a.join b).in64 := by
  unfold Bx.in64 at *
  unfold Bx.join
  dsimp only
  omega
theorem join_l {a b c : Bx} (h : a.within c) : (a.join b).within c := by
  unfold Bx.within at *
  unfold Bx.join
  dsimp only
  omega
theorem join_r (a b : Bx) : (a.join b).within b := by
  unfold Bx.within Bx.join
  dsimp only
  omega
end Go.Proofs.YtokpdocabmaagaaGreat
