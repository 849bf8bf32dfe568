/- What cells.Rim reckons, plainly. -/
import Derived.Test.YthkiljfjjnckaaaRimA
namespace Go.Proofs.Ythkiljfjjnckaaa

/-- The side of block (i, k) on the left; below. -/
def sideV (l : List Bx) (X Y : List Int) (i k : Nat) : Nat := if k + 1 < Y.length ∧ (isR (colsB l X Y) ((i : Int) - 1) k != isR (colsB l X Y) i k) = true then (nth Y (k + 1) - nth Y k).toNat else 0
def sideH (l : List Bx) (X Y : List Int) (i k : Nat) : Nat := if i + 1 < X.length ∧ (isR (colsB l X Y) i ((k : Int) - 1) != isR (colsB l X Y) i k) = true then (nth X (i + 1) - nth X i).toNat else 0
def rimC (l : List Bx) (X Y : List Int) (i t : Nat) : Nat := sumK (fun k => sideV l X Y i k + sideH l X Y i k) t
def rimK (l : List Bx) (X Y : List Int) (n : Nat) : Nat := sumK (fun i => rimC l X Y i Y.length) n
def rimN (l : List Bx) : Nat := rimK l (sqz (linX l)) (sqz (linY l)) (sqz (linX l)).length

theorem rimC_succ (l : List Bx) (X Y : List Int) (i t : Nat) : rimC l X Y i (t + 1) = rimC l X Y i t + (sideV l X Y i t + sideH l X Y i t) := rfl
theorem rimK_succ (l : List Bx) (X Y : List Int) (k : Nat) : rimK l X Y (k + 1) = rimK l X Y k + rimC l X Y k Y.length := rfl

theorem sumK_le (f : Nat → Nat) (b : Nat) : ∀ n, (∀ i, i < n → f i ≤ b) → sumK f n ≤ n * b
  | 0, _ => by simp [sumK]
  | n + 1, h => by
    have h1 := sumK_le f b n (fun i hi => h i (by omega))
    have h2 := h n (by omega)
    rw [sumK, Nat.add_mul, Nat.one_mul]; omega

section
variable {l : List Bx} {X Y : List Int}

theorem nth_in {l : List Int} (h : ∀ x ∈ l, -9223372036854775808 ≤ x ∧ x ≤ 9223372036854775807) (i : Nat) : -9223372036854775808 ≤ nth l i ∧ nth l i ≤ 9223372036854775807 := by
  by_cases hi : i < l.length
  · exact h _ (List.mem_of_getElem? (nth_get hi))
  · unfold nth
    rw [List.getElem?_eq_none (by omega)]
    exact ⟨by decide, by decide⟩

theorem sideV_lt (hY : ∀ x ∈ Y, -9223372036854775808 ≤ x ∧ x ≤ 9223372036854775807) (i k : Nat) : sideV l X Y i k < 18446744073709551616 := by
  have h1 := nth_in hY k
  have h2 := nth_in hY (k + 1)
  unfold sideV
  split <;> omega

theorem sideH_lt (hX : ∀ x ∈ X, -9223372036854775808 ≤ x ∧ x ≤ 9223372036854775807) (i k : Nat) : sideH l X Y i k < 18446744073709551616 := by
  have h1 := nth_in hX i
  have h2 := nth_in hX (i + 1)
  unfold sideH
  split <;> omega

theorem rim_W (hX : ∀ x ∈ X, -9223372036854775808 ≤ x ∧ x ≤ 9223372036854775807) (hY : ∀ x ∈ Y, -9223372036854775808 ≤ x ∧ x ≤ 9223372036854775807) (hx : X.length ≤ 2000000) (hy : Y.length ≤ 2000000) (i t : Nat) (hi : i ≤ X.length) (ht : t ≤ Y.length) :
    W128 (rimK l X Y i + rimC l X Y i t) := by
  have h1 : ∀ i t, rimC l X Y i t ≤ t * 36893488147419103232 := fun i t => sumK_le _ _ _ fun k _ => by have := sideV_lt (l := l) (X := X) hY i k; have := sideH_lt (l := l) (Y := Y) hX i k; omega
  have h2 : rimK l X Y i ≤ i * (2000000 * 36893488147419103232) := sumK_le _ _ _ fun k _ => Nat.le_trans (h1 k Y.length) (Nat.mul_le_mul_right _ hy)
  have h3 := h1 i t
  unfold W128
  omega

/-- Block by block, by what is covered. -/
theorem isR_cols (i k : Int) : isR (colsB l X Y) i k = if 0 ≤ i ∧ 0 ≤ k ∧ i.toNat < X.length - 1 ∧ k.toNat < Y.length - 1 then covB l (nth X i.toNat) (nth Y k.toNat) else false := by
  unfold isR
  by_cases hi : 0 ≤ i
  · by_cases hk : 0 ≤ k
    · rw [if_pos hi, if_pos hk]
      by_cases h1 : i.toNat < X.length - 1
      · rw [colsB_get h1]
        by_cases h2 : k.toNat < Y.length - 1
        · rw [if_pos ⟨hi, hk, h1, h2⟩]
          unfold colB
          simp [rowL_get h2]
        · rw [if_neg (by omega)]
          unfold colB
          have h3 : (rowL (Y.length - 1) fun k => covB l (nth X i.toNat) (nth Y k))[k.toNat]? = none := List.getElem?_eq_none (by rw [rowL_len]; omega)
          simp [h3]
      · have h3 : (colsB l X Y)[i.toNat]? = none := List.getElem?_eq_none (by rw [colsB_len]; omega)
        rw [if_neg (by omega), h3]
        simp
    · rw [if_pos hi, if_neg hk, if_neg (by omega)]
  · rw [if_neg hi, if_neg (by omega)]
end
end Go.Proofs.Ythkiljfjjnckaaa
