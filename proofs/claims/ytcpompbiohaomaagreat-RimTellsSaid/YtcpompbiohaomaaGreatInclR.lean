/- The rim, by boxes that are all one longer; plainly. No program. -/
import Derived.Test.YtcpompbiohaomaaGreatInclP
import Derived.Test.YtcpompbiohaomaaGreatRimSt
namespace Go.Proofs.YtcpompbiohaomaaGreat

theorem shift_same {c : Int → Bool} {a b : Int} (hab : a ≤ b) (h1 : c (a - 1) = false) (h2 : c (b - 1) = false) : sumR (fun y => ind (c (y - 1))) a b = sumR (fun y => ind (c y)) a b := by
  rcases Int.lt_or_le a b with h | h
  · have e := sumR_shift (f := fun y => ind (c y)) (a := a) (b := b) (-1)
    have e' : sumR (fun y => ind (c (y - 1))) a b = sumR (fun y => ind (c y)) (a - 1) (b - 1) := e
    rw [e', sumR_split (show a - 1 ≤ a by omega) (show a ≤ b - 1 by omega), sumR_split (f := fun y => ind (c y)) (show a ≤ b - 1 by omega) (show b - 1 ≤ b by omega)]
    rw [sumR_of_zero (a := a - 1) fun y g1 g2 => by rw [show y = a - 1 by omega, h1]; rfl, sumR_of_zero (a := b - 1) fun y g1 g2 => by rw [show y = b - 1 by omega, h2]; rfl]
    omega
  · have : a = b := by omega
    subst this
    rw [sumR_none (Int.le_refl _), sumR_none (Int.le_refl _)]

theorem ends_turns {c : Int → Bool} {a b : Int} (hab : a ≤ b) (h1 : c (a - 1) = false) (h2 : c (b - 1) = false) :
    2 * (sumR (fun y => ind (c y || c (y - 1))) a b - sumR (fun y => ind (c y)) a b) = turnsR c a b := by
  have e : sumR (fun y => 2 * (ind (c y || c (y - 1)) - ind (c y))) a b = sumR (fun y => ind (c y != c (y - 1)) + (ind (c (y - 1)) - ind (c y))) a b :=
    sumR_congr fun y _ _ => by cases c y <;> cases c (y - 1) <;> rfl
  rw [sumR_mul, sumR_sub, sumR_add, sumR_sub, shift_same hab h1 h2] at e
  unfold turnsR
  omega

theorem cov_far {l : List Bx} (hb : ∀ b ∈ l, b.in64) {x y : Int} (h : x < -9223372036854775808 ∨ 9223372036854775807 ≤ x ∨ y < -9223372036854775808 ∨ 9223372036854775807 ≤ y) : covB l x y = false := by
  cases e : covB l x y with
  | false => rfl
  | true =>
    exfalso
    have := cov_within (l := l) (p := -9223372036854775808) (q := 9223372036854775807) (r := -9223372036854775808) (s := 9223372036854775807) (fun s hs _ => by have := hb s hs; unfold Bx.in64 at this; omega) e
    omega

theorem cells_hor {l : List Bx} (hb : ∀ b ∈ l, b.in64) : 2 * (cellsI 0 1 l allB - cellsI 0 0 l allB) = horR l := by
  rw [cellsI_eq ⟨by decide, by decide⟩ ⟨by decide, by decide⟩ l allB (by decide) (by decide), cells_area]
  rw [← horG_any hb (a := -9223372036854775808) (b := 9223372036854775807) (c := -9223372036854775808) (d := 9223372036854775808) (by decide) (by decide) (by decide) (by decide)]
  unfold overI areaR horG allB
  dsimp only
  rw [show (9223372036854775807 : Int) + 0 = 9223372036854775807 by omega, show (9223372036854775807 : Int) + 1 = 9223372036854775808 by omega]
  rw [← sumR_sub, ← sumR_mul]
  refine sumR_congr fun x _ _ => ?_
  rw [← ends_turns (c := covB l x) (by decide) (cov_far hb (by omega)) (cov_far hb (by omega))]
  have hh : ∀ a b c d : Int, a = c → b = d → 2 * (a - b) = 2 * (c - d) := fun a b c d h1 h2 => by rw [h1, h2]
  refine hh _ _ _ _ ?_ ?_
  · exact sumR_congr fun y _ _ => by rw [covM_01]
  · rw [sumR_split (show (-9223372036854775808 : Int) ≤ 9223372036854775807 by decide) (show (9223372036854775807 : Int) ≤ 9223372036854775808 by decide), sumR_of_zero (a := 9223372036854775807) fun y h1 h2 => by rw [cov_far hb (by omega)]; rfl]
    omega

theorem covM_tu (l : List Bx) (x y : Int) : covM' 1 0 l x y = covM' 0 1 (l.map tuB) y x := by
  unfold covM'
  rw [List.any_map]
  refine any_congr fun b _ => ?_
  unfold cellM Bx.counts tuB
  simp only [Function.comp]
  rw [Bool.eq_iff_iff]
  simp only [Bool.and_eq_true, decide_eq_true_eq]
  omega

theorem cells_tu (l : List Bx) : cellsI 1 0 l allB = cellsI 0 1 (l.map tuB) allB := by
  rw [cellsI_eq ⟨by decide, by decide⟩ ⟨by decide, by decide⟩ l allB (by decide) (by decide), cellsI_eq ⟨by decide, by decide⟩ ⟨by decide, by decide⟩ (l.map tuB) allB (by decide) (by decide)]
  unfold overI allB
  dsimp only
  rw [sumR_swap]
  exact sumR_congr fun y _ _ => sumR_congr fun x _ _ => by rw [covM_tu]

theorem cells_rim {l : List Bx} (hb : ∀ b ∈ l, b.in64) : 2 * ((cellsI 1 0 l allB - cellsI 0 0 l allB) + (cellsI 0 1 l allB - cellsI 0 0 l allB)) = rimA l := by
  have h1 := cells_hor hb
  have h2 := cells_hor (tuB_in hb)
  have h3 : cellsI 0 0 (l.map tuB) allB = cellsI 0 0 l allB := by
    rw [cells_area, cells_area]
    exact areaA_turned fun x y => tuB_cov l x y
  rw [h3, ← cells_tu] at h2
  unfold rimA
  omega
end Go.Proofs.YtcpompbiohaomaaGreat
