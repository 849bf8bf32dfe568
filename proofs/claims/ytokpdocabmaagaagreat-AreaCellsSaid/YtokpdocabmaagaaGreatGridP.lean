/- Cells counted one by one, from 0 to 15. No program. -/
import Derived.Test.YtokpdocabmaagaaGreatOneP
namespace Go.Proofs.YtokpdocabmaagaaGreat

theorem sumR_one (f : Int → Int) (a : Int) : sumR f a (a + 1) = f a := by
  rw [sumR_const' (f a) (by omega) fun x h1 h2 => by rw [show x = a by omega]]
  have : a + 1 - a = 1 := by omega
  rw [this, Int.mul_one]

theorem sumR_next {f : Int → Int} {a b : Int} (h : a ≤ b) : sumR f a (b + 1) = sumR f a b + f b := by
  rw [sumR_split h (show b ≤ b + 1 by omega), sumR_one]

/-- How many cells are covered ahead of (x, y), row by row. -/
def cntG (L : List Bx) (x y : Int) : Int := sumR (fun u => sumR (fun v => ind (covB L u v)) 0 16) 0 x + sumR (fun v => ind (covB L x v)) 0 y

theorem cntG_zero (L : List Bx) : cntG L 0 0 = 0 := by
  unfold cntG
  rw [sumR_none (by omega), sumR_none (by omega)]
  rfl
theorem cntG_y (L : List Bx) (x : Int) {y : Int} (h : 0 ≤ y) : cntG L x (y + 1) = cntG L x y + ind (covB L x y) := by
  unfold cntG
  rw [sumR_next h]
  omega
theorem cntG_x (L : List Bx) {x : Int} (h : 0 ≤ x) : cntG L (x + 1) 0 = cntG L x 16 := by
  unfold cntG
  rw [sumR_next h, sumR_none (a := 0) (b := 0) (by omega)]
  omega
theorem cntG_bd (L : List Bx) {x y : Int} (h : 0 ≤ x ∧ x ≤ 16) (h' : 0 ≤ y ∧ y ≤ 16) : 0 ≤ cntG L x y ∧ cntG L x y ≤ 272 := by
  unfold cntG
  have h1 : sumR (fun u => sumR (fun v => ind (covB L u v)) 0 16) 0 x ≤ 16 * (x - 0) := sumR_le 16 h.1 fun u _ _ => by
    have := sumR_le (f := fun v => ind (covB L u v)) 1 (show (0 : Int) ≤ 16 by omega) fun v _ _ => (ind_bd _).2
    omega
  have h2 : sumR (fun v => ind (covB L x v)) 0 y ≤ 1 * (y - 0) := sumR_le 1 h'.1 fun v _ _ => (ind_bd _).2
  have h3 : 0 ≤ sumR (fun u => sumR (fun v => ind (covB L u v)) 0 16) 0 x := sumR_nonneg fun _ _ _ => sumR_nonneg fun _ _ _ => (ind_bd _).1
  have h4 : 0 ≤ sumR (fun v => ind (covB L x v)) 0 y := sumR_nonneg fun _ _ _ => (ind_bd _).1
  omega
theorem cntG_all {L : List Bx} (hb : ∀ b ∈ L, (0 ≤ b.x1 ∧ b.x1 ≤ 15) ∧ (0 ≤ b.x2 ∧ b.x2 ≤ 15) ∧ (0 ≤ b.y1 ∧ b.y1 ≤ 15) ∧ (0 ≤ b.y2 ∧ b.y2 ≤ 15)) : cntG L 16 0 = areaA L := by
  rw [areaA_G (a := 0) (b := 16) (c := 0) (d := 16) (fun b h => by have := hb b h; unfold Bx.in64; omega) (fun b h _ => by have := hb b h; omega)]
  unfold cntG areaG
  rw [sumR_none (a := 0) (b := 0) (by omega), Int.add_zero]
end Go.Proofs.YtokpdocabmaagaaGreat
