/- One box alone, boxes in a box: how many cells. No program. What boxes of two lists cover, both. No program. Cells counted one by one, from 0 to 15. No program. -/
import Derived.Test.YtokpdocabmaagaaGreatTurnP
namespace Go.Proofs.YtokpdocabmaagaaGreat

theorem toN_le {a b : Int} (h : a ≤ b) : (a.toNat : Int) ≤ (b.toNat : Int) := by omega

theorem areaA_le {l m : List Bx} (h : ∀ x y, covB l x y = true → covB m x y = true) : areaA l ≤ areaA m := areaR_mono h

theorem covB_one (b : Bx) (x y : Int) : covB [b] x y = b.cell x y := by unfold covB; simp

theorem areaA_none {l : List Bx} (h : ∀ x y, covB l x y = false) : areaA l = 0 := by
  unfold areaA areaR
  exact sumR_of_zero fun x _ _ => sumR_of_zero fun y _ _ => by rw [h]; rfl

theorem areaA_one {b : Bx} (hb : b.in64) (h : b.counts = true) : areaA [b] = (b.x2 - b.x1) * (b.y2 - b.y1) := by
  have hc := h
  unfold Bx.counts at hc
  simp only [decide_eq_true_eq] at hc
  have e := areaA_G (l := [b]) (a := b.x1) (b := b.x2) (c := b.y1) (d := b.y2) (fun s hs => by rw [List.mem_singleton.1 hs]; exact hb) (fun s hs _ => by rw [List.mem_singleton.1 hs]; omega)
  rw [e]
  unfold areaG
  have e1 : ∀ x, b.x1 ≤ x → x < b.x2 → sumR (fun y => ind (covB [b] x y)) b.y1 b.y2 = b.y2 - b.y1 := fun x h1 h2 => by
    rw [sumR_const' 1 (by omega) fun y h3 h4 => ?_, Int.one_mul]
    rw [covB_one]
    unfold Bx.cell
    rw [decide_eq_true (by omega)]
    rfl
  rw [sumR_const' (b.y2 - b.y1) (by omega) e1, Int.mul_comm]

theorem areaA_flat {b : Bx} (h : b.counts = false) : areaA [b] = 0 := by
  refine areaA_none fun x y => ?_
  rw [covB_one]
  cases hc : b.cell x y
  · rfl
  · rw [cov_counts hc] at h; exact absurd h (by simp)

/-- A box lies in another one. -/
def Bx.within (a c : Bx) : Prop := a.x1 ≤ c.x1 ∧ c.x2 ≤ a.x2 ∧ a.y1 ≤ c.y1 ∧ c.y2 ≤ a.y2

theorem cell_within {a c : Bx} (h : a.within c) {x y : Int} (hc : c.cell x y = true) : a.cell x y = true := by
  unfold Bx.within at h
  unfold Bx.cell at hc ⊢
  simp only [decide_eq_true_eq] at hc ⊢
  omega

theorem areaA_hull {l : List Bx} {a : Bx} (h : ∀ c ∈ l, c.counts = true → a.within c) : areaA l ≤ areaA [a] := by
  refine areaA_le fun x y hc => ?_
  unfold covB at hc
  rw [List.any_eq_true] at hc
  obtain ⟨c, h1, h2⟩ := hc
  rw [covB_one]
  exact cell_within (h c h1 (cov_counts h2)) h2

theorem areaA_mem {l : List Bx} {b : Bx} (h : b ∈ l) : areaA [b] ≤ areaA l := by
  refine areaA_le fun x y hc => ?_
  rw [covB_one] at hc
  unfold covB
  rw [List.any_eq_true]
  exact ⟨b, h, hc⟩

/-- The area of a box alone, as a product. -/
theorem areaA_oneN {b : Bx} (hb : b.in64) (h : b.counts = true) : (areaA [b]).toNat = (b.x2 - b.x1).toNat * (b.y2 - b.y1).toNat := by
  have hc := h
  unfold Bx.counts at hc
  simp only [decide_eq_true_eq] at hc
  rw [areaA_one hb h]
  obtain ⟨p, hp⟩ := Int.eq_ofNat_of_zero_le (show 0 ≤ b.x2 - b.x1 by omega)
  obtain ⟨q, hq⟩ := Int.eq_ofNat_of_zero_le (show 0 ≤ b.y2 - b.y1 by omega)
  rw [hp, hq, ← Int.natCast_mul]
  rfl

/-- The smallest box around one and a further one. -/
def Bx.join (a b : Bx) : Bx := ⟨min a.x1 b.x1, max a.x2 b.x2, min a.y1 b.y1, max a.y2 b.y2, 0⟩

theorem join_in {a b : Bx} (ha : a.in64) (hb : b.in64) : (a.join b).in64 := by
  unfold Bx.in64 at *
  unfold Bx.join
  dsimp only
  omega
theorem join_l {a b c : Bx} (h : a.within c) : (a.join b).within c := by
  unfold Bx.within at *
  unfold Bx.join
  dsimp only
  omega
theorem join_r (a b : Bx) : (a.join b).within b := by
  unfold Bx.within Bx.join
  dsimp only
  omega
end Go.Proofs.YtokpdocabmaagaaGreat

namespace Go.Proofs.YtokpdocabmaagaaGreat

/-- What two boxes both cover. -/
def Bx.meet (a b : Bx) : Bx := ⟨max a.x1 b.x1, min a.x2 b.x2, max a.y1 b.y1, min a.y2 b.y2, 0⟩

theorem meet_cell (a b : Bx) (x y : Int) : (a.meet b).cell x y = (a.cell x y && b.cell x y) := by
  unfold Bx.meet Bx.cell
  rw [Bool.eq_iff_iff]
  simp only [decide_eq_true_eq, Bool.and_eq_true]
  omega

theorem meet_in {a b : Bx} (ha : a.in64) (hb : b.in64) : (a.meet b).in64 := by
  unfold Bx.in64 at *
  unfold Bx.meet
  dsimp only
  omega

theorem covB_app (l m : List Bx) (x y : Int) : covB (l ++ m) x y = (covB l x y || covB m x y) := by
  unfold covB
  rw [List.any_append]

theorem take_covB {L : List Bx} {j : Nat} {b : Bx} (h : L[j]? = some b) (x y : Int) : covB (L.take (j + 1)) x y = (covB (L.take j) x y || b.cell x y) := by
  unfold covB
  rw [List.take_add_one, h]
  simp [List.any_append]

theorem areaA_both {l m R : List Bx} (h : ∀ x y, covB R x y = (covB l x y && covB m x y)) : areaA (l ++ m) + areaA R = areaA l + areaA m := by
  unfold areaA areaR
  rw [← sumR_add, ← sumR_add]
  refine sumR_congr fun x _ _ => ?_
  rw [← sumR_add, ← sumR_add]
  refine sumR_congr fun y _ _ => ?_
  rw [covB_app, h]
  cases covB l x y <;> cases covB m x y <;> rfl

theorem areaA_0 (l : List Bx) : 0 ≤ areaA l := areaR_nonneg _ _ _

theorem both_nat {l m R : List Bx} (h : ∀ x y, covB R x y = (covB l x y && covB m x y)) :
    (areaA l).toNat ≤ (areaA (l ++ m)).toNat ∧ (areaA R).toNat ≤ (areaA m).toNat ∧ (areaA (l ++ m)).toNat - (areaA l).toNat = (areaA m).toNat - (areaA R).toNat := by
  have h0 := areaA_both h
  have h1 : areaA R ≤ areaA m := areaA_le fun x y hc => by
    rw [h] at hc
    simp at hc
    exact hc.2
  have := areaA_0 l
  have := areaA_0 m
  have := areaA_0 R
  omega
end Go.Proofs.YtokpdocabmaagaaGreat

namespace Go.Proofs.YtokpdocabmaagaaGreat

theorem sumR_one (f : Int → Int) (a : Int) : sumR f a (a + 1) = f a := by
  rw [sumR_const' (f a) (by omega) fun x h1 h2 => by rw [show x = a by omega]]
  have : a + 1 - a = 1 := by omega
  rw [this, Int.mul_one]

theorem sumR_next {f : Int → Int} {a b : Int} (h : a ≤ b) : sumR f a (b + 1) = sumR f a b + f b := by
  rw [sumR_split h (show b ≤ b + 1 by omega), sumR_one]

/-- How many cells are covered ahead of (x, y), row by row. -/
def cntG (L : List Bx) (x y : Int) : Int := sumR (fun u => sumR (fun v => ind (covB L u v)) 0 16) 0 x + sumR (fun v => ind (covB L x v)) 0 y

theorem cntG_zero (L : List Bx) : cntG L 0 0 = 0 := by
  unfold cntG
  rw [sumR_none (by omega), sumR_none (by omega)]
  rfl
theorem cntG_y (L : List Bx) (x : Int) {y : Int} (h : 0 ≤ y) : cntG L x (y + 1) = cntG L x y + ind (covB L x y) := by
  unfold cntG
  rw [sumR_next h]
  omega
theorem cntG_x (L : List Bx) {x : Int} (h : 0 ≤ x) : cntG L (x + 1) 0 = cntG L x 16 := by
  unfold cntG
  rw [sumR_next h, sumR_none (a := 0) (b := 0) (by omega)]
  omega
theorem cntG_bd (L : List Bx) {x y : Int} (h : 0 ≤ x ∧ x ≤ 16) (h' : 0 ≤ y ∧ y ≤ 16) : 0 ≤ cntG L x y ∧ cntG L x y ≤ 272 := by
  unfold cntG
  have h1 : sumR (fun u => sumR (fun v => ind (covB L u v)) 0 16) 0 x ≤ 16 * (x - 0) := sumR_le 16 h.1 fun u _ _ => by
    have := sumR_le (f := fun v => ind (covB L u v)) 1 (show (0 : Int) ≤ 16 by omega) fun v _ _ => (ind_bd _).2
    omega
  have h2 : sumR (fun v => ind (covB L x v)) 0 y ≤ 1 * (y - 0) := sumR_le 1 h'.1 fun v _ _ => (ind_bd _).2
  have h3 : 0 ≤ sumR (fun u => sumR (fun v => ind (covB L u v)) 0 16) 0 x := sumR_nonneg fun _ _ _ => sumR_nonneg fun _ _ _ => (ind_bd _).1
  have h4 : 0 ≤ sumR (fun v => ind (covB L x v)) 0 y := sumR_nonneg fun _ _ _ => (ind_bd _).1
  omega
theorem cntG_all {L : List Bx} (hb : ∀ b ∈ L, (0 ≤ b.x1 ∧ b.x1 ≤ 15) ∧ (0 ≤ b.x2 ∧ b.x2 ≤ 15) ∧ (0 ≤ b.y1 ∧ b.y1 ≤ 15) ∧ (0 ≤ b.y2 ∧ b.y2 ≤ 15)) : cntG L 16 0 = areaA L := by
  rw [areaA_G (a := 0) (b := 16) (c := 0) (d := 16) (fun b h => by have := hb b h; unfold Bx.in64; omega) (fun b h _ => by have := hb b h; omega)]
  unfold cntG areaG
  rw [sumR_none (a := 0) (b := 0) (by omega), Int.add_zero]
end Go.Proofs.YtokpdocabmaagaaGreat
