/- Buckets, plainly: what Set makes; how it goes bucket by bucket. -/
import Derived.Test.YtkhgglafnjfiaaaCarryB
namespace Go.Proofs.Ytkhgglafnjfiaaa

/-- How many digits a number has, written in twos. -/
def bitsN (n : Nat) : Nat := if n = 0 then 0 else n.log2 + 1

theorem bitsN_lt (n : Nat) : n < 2 ^ bitsN n := by
  unfold bitsN
  split
  · omega
  · exact Nat.lt_log2_self

theorem bitsN_le (n k : Nat) (h : n < 2 ^ k) : bitsN n ≤ k := by
  unfold bitsN
  split
  · omega
  · rename_i hn
    have := (Nat.log2_lt hn).2 h
    omega

theorem bitsN_eq (n k : Nat) (h : n < 2 ^ k) (h1 : k = 0 ∨ 2 ^ (k - 1) ≤ n) : bitsN n = k := by
  refine Nat.le_antisymm (bitsN_le n k h) ?_
  rcases h1 with rfl | h1
  · omega
  · refine Nat.le_of_not_lt fun hlt => ?_
    have h2 := bitsN_lt n
    have h3 : 2 ^ bitsN n ≤ 2 ^ (k - 1) := Nat.pow_le_pow_right (by omega) (by omega)
    omega

theorem bitsN_bound (n B : Nat) (h : n < 2 ^ B) : bitsN n ≤ B := bitsN_le n B h

section
variable {α : Type}

/-- What bucket i has, of things that are set. -/
def bucketOf (l : List α) (i : Nat) : List α := if l.length.testBit i then (l.drop (l.length / 2 ^ (i + 1) * 2 ^ (i + 1))).take (2 ^ i) else []

/-- The buckets behind a Set; all from m on are filled. -/
def setFrom (l : List α) (m : Nat) : List (List α) := (List.range (bitsN l.length)).map fun i => if i < m then [] else bucketOf l i

def setB (l : List α) : List (List α) := (List.range (bitsN l.length)).map (bucketOf l)

theorem setFrom_zero (l : List α) : setFrom l 0 = setB l := by simp [setFrom, setB]

theorem setFrom_top (l : List α) : setFrom l (bitsN l.length) = List.replicate (bitsN l.length) [] := by
  unfold setFrom
  apply List.ext_getElem?
  intro i
  by_cases h : i < bitsN l.length
  · simp [h]
  · simp [h]

theorem setFrom_len (l : List α) (m : Nat) : (setFrom l m).length = bitsN l.length := by simp [setFrom]

theorem setFrom_step (l : List α) (m : Nat) : (setFrom l (m + 1)).set m (bucketOf l m) = setFrom l m := by
  unfold setFrom
  apply List.ext_getElem?
  intro i
  rw [List.getElem?_set]
  by_cases h : i < bitsN l.length
  · by_cases hm : m = i
    · subst hm; simp [h]
    · have e : (i < m + 1) ↔ i < m := by omega
      simp [hm, h, e]
  · simp [h]; intro hm; subst hm; omega

theorem setFrom_same (l : List α) (m : Nat) (h : l.length.testBit m = false) : setFrom l (m + 1) = setFrom l m := by
  rw [← setFrom_step l m]
  symm
  apply List.ext_getElem?
  intro i
  rw [List.getElem?_set]
  split
  · rename_i hm
    subst hm
    split
    · rename_i h'
      simp [setFrom, bucketOf, h] at h' ⊢
      simp [h']
    · rename_i h'
      rw [List.getElem?_eq_none (by omega)]
  · rfl

theorem bit_div (n m : Nat) : n / 2 ^ m = 2 * (n / 2 ^ (m + 1)) + (n.testBit m).toNat := by
  have h1 : n / 2 ^ (m + 1) = n / 2 ^ m / 2 := by rw [Nat.pow_succ, Nat.div_div_eq_div_mul]
  have h2 : (n.testBit m).toNat = n / 2 ^ m % 2 := by
    rw [Nat.testBit_eq_decide_div_mod_eq]
    rcases Nat.mod_two_eq_zero_or_one (n / 2 ^ m) with h | h <;> simp [h]
  rw [h1, h2]
  omega

theorem top_yes (n m : Nat) (h : n.testBit m = true) : n / 2 ^ m * 2 ^ m = n / 2 ^ (m + 1) * 2 ^ (m + 1) + 2 ^ m := by
  rw [bit_div n m, h, Nat.pow_succ]
  simp only [Bool.toNat_true, Nat.add_mul, Nat.one_mul]
  rw [Nat.mul_comm 2, Nat.mul_assoc, Nat.mul_comm 2]

theorem top_no (n m : Nat) (h : n.testBit m = false) : n / 2 ^ m * 2 ^ m = n / 2 ^ (m + 1) * 2 ^ (m + 1) := by
  rw [bit_div n m, h, Nat.pow_succ]
  simp only [Bool.toNat_false, Nat.add_zero]
  rw [Nat.mul_comm 2, Nat.mul_assoc, Nat.mul_comm 2]

theorem rest_is (n m : Nat) : n - n / 2 ^ m * 2 ^ m = n % 2 ^ m := by
  have := Nat.div_add_mod n (2 ^ m)
  rw [Nat.mul_comm] at this
  omega

theorem rest_yes (n m : Nat) (h : n.testBit m = true) : n % 2 ^ (m + 1) = 2 ^ m + n % 2 ^ m := by
  have h1 := rest_is n m
  have h2 := rest_is n (m + 1)
  have h3 := top_yes n m h
  have h4 : n / 2 ^ m * 2 ^ m ≤ n := Nat.div_mul_le_self n (2 ^ m)
  omega

theorem rest_no (n m : Nat) (h : n.testBit m = false) : n % 2 ^ (m + 1) = n % 2 ^ m := by
  have h1 := rest_is n m
  have h2 := rest_is n (m + 1)
  have h3 := top_no n m h
  omega
end
end Go.Proofs.Ytkhgglafnjfiaaa
