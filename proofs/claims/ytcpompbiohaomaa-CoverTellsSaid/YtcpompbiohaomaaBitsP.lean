/- Numbers as lists of their bits, the lowest first, plainly. No program. -/
import Derived.WalkKit
namespace Go.Proofs.Ytcpompbiohaomaa

/-- What bits are worth. -/
def valL : List Nat → Nat
  | [] => 0
  | b :: l => b + 2 * valL l

def Bits01 (l : List Nat) : Prop := ∀ x ∈ l, x ≤ 1

theorem valL_app (a b : List Nat) : valL (a ++ b) = valL a + 2 ^ a.length * valL b := by
  induction a with
  | nil => simp [valL]
  | cons x a ih =>
    simp only [List.cons_append, valL, ih, List.length_cons, Nat.pow_succ]
    rw [Nat.mul_comm (2 ^ a.length) 2, Nat.mul_assoc]
    omega

theorem valL_snoc (a : List Nat) (x : Nat) : valL (a ++ [x]) = valL a + 2 ^ a.length * x := by rw [valL_app]; simp [valL]

theorem Bits01.cons {x : Nat} {l : List Nat} (h : Bits01 (x :: l)) : x ≤ 1 ∧ Bits01 l := ⟨h x (by simp), fun y hy => h y (by simp [hy])⟩

theorem valL_lt {l : List Nat} (h : Bits01 l) : valL l < 2 ^ l.length := by
  induction l with
  | nil => simp [valL]
  | cons x l ih =>
    have h1 := ih h.cons.2
    have h2 := h.cons.1
    simp only [valL, List.length_cons, Nat.pow_succ]
    omega

theorem Bits01.take {l : List Nat} (h : Bits01 l) (k : Nat) : Bits01 (l.take k) := fun x hx => h x (List.mem_of_mem_take hx)
theorem Bits01.drop {l : List Nat} (h : Bits01 l) (k : Nat) : Bits01 (l.drop k) := fun x hx => h x (List.mem_of_mem_drop hx)
theorem Bits01.at {l : List Nat} (h : Bits01 l) {k x : Nat} (hx : l[k]? = some x) : x ≤ 1 := h x (List.mem_of_getElem? hx)
theorem Bits01.app {a b : List Nat} (h : Bits01 a) (h' : Bits01 b) : Bits01 (a ++ b) := fun x hx => by
  rcases List.mem_append.1 hx with h1 | h1
  · exact h x h1
  · exact h' x h1
theorem Bits01.set {l : List Nat} (h : Bits01 l) (k : Nat) {x : Nat} (hx : x ≤ 1) : Bits01 (l.set k x) := fun y hy => by
  rcases List.mem_or_eq_of_mem_set hy with h1 | h1
  · exact h y h1
  · rw [h1]; exact hx
theorem Bits01.rep (k : Nat) {x : Nat} (hx : x ≤ 1) : Bits01 (List.replicate k x) := fun y hy => by rw [List.eq_of_mem_replicate hy]; exact hx

theorem valL_split (l : List Nat) {k : Nat} (hk : k ≤ l.length) : valL l = valL (l.take k) + 2 ^ k * valL (l.drop k) := by
  have := valL_app (l.take k) (l.drop k)
  rw [List.take_append_drop, List.length_take, Nat.min_eq_left hk] at this
  exact this

theorem valL_at {l : List Nat} {k x : Nat} (hx : l[k]? = some x) : valL (l.drop k) = x + 2 * valL (l.drop (k + 1)) := by
  obtain ⟨hk, he⟩ := List.getElem?_eq_some_iff.1 hx
  rw [List.drop_eq_getElem_cons hk, he, valL]

theorem take_succ_some {α : Type} {l : List α} {k : Nat} {x : α} (hx : l[k]? = some x) : l.take (k + 1) = l.take k ++ [x] := by
  rw [List.take_add_one, hx]; rfl

theorem valL_take {l : List Nat} {k x : Nat} (hx : l[k]? = some x) : valL (l.take (k + 1)) = valL (l.take k) + 2 ^ k * x := by
  obtain ⟨hk, _⟩ := List.getElem?_eq_some_iff.1 hx
  rw [take_succ_some hx, valL_snoc, List.length_take, Nat.min_eq_left (by omega)]

/-- The lowest k bits of a number. -/
def bitsL (N k : Nat) : List Nat := (List.range k).map fun i => N / 2 ^ i % 2

theorem bitsL_len (N k : Nat) : (bitsL N k).length = k := by simp [bitsL]
theorem bitsL_01 (N k : Nat) : Bits01 (bitsL N k) := fun x hx => by
  unfold bitsL at hx
  obtain ⟨i, _, rfl⟩ := List.mem_map.1 hx
  omega
theorem bitsL_at (N k : Nat) {i : Nat} (h : i < k) : (bitsL N k)[i]? = some (N / 2 ^ i % 2) := by simp [bitsL, h]
theorem bitsL_val (N k : Nat) : valL (bitsL N k) = N % 2 ^ k := by
  induction k with
  | zero => simp [bitsL, valL, Nat.mod_one]
  | succ k ih =>
    have e : bitsL N (k + 1) = bitsL N k ++ [N / 2 ^ k % 2] := by simp [bitsL, List.range_succ]
    rw [e, valL_snoc, ih, bitsL_len, Nat.mod_pow_succ]

/-- The list l is k bits, and worth v. -/
def BL (k v : Nat) (l : List Nat) : Prop := l.length = k ∧ Bits01 l ∧ valL l = v

theorem BL_bits {N : Nat} (h : N < 2 ^ 128) : BL 128 N (bitsL N 128) := ⟨bitsL_len _ _, bitsL_01 _ _, by rw [bitsL_val, Nat.mod_eq_of_lt h]⟩

/-- What Number has of the first i bits: below place 64, and from it on. -/
def lowN (l : List Nat) (i : Nat) : Nat := valL ((l.take i).take 64)
def highN (l : List Nat) (i : Nat) : Nat := valL ((l.take i).drop 64)

theorem lowN_zero (l : List Nat) : lowN l 0 = 0 := by simp [lowN, valL]
theorem highN_zero (l : List Nat) : highN l 0 = 0 := by simp [highN, valL]

theorem lowN_step {l : List Nat} {i x : Nat} (hx : l[i]? = some x) : lowN l (i + 1) = if i < 64 then lowN l i + 2 ^ i * x else lowN l i := by
  unfold lowN
  split
  · rename_i h
    rw [List.take_take, List.take_take, Nat.min_eq_right (by omega), Nat.min_eq_right (by omega), valL_take hx]
  · rename_i h
    rw [List.take_take, List.take_take, Nat.min_eq_left (by omega), Nat.min_eq_left (by omega)]

theorem highN_step {l : List Nat} {i x : Nat} (hx : l[i]? = some x) : highN l (i + 1) = if i < 64 then 0 else highN l i + 2 ^ (i - 64) * x := by
  obtain ⟨hk, _⟩ := List.getElem?_eq_some_iff.1 hx
  unfold highN
  split
  · rename_i h
    rw [List.drop_eq_nil_of_le (by simp; omega)]; rfl
  · rename_i h
    rw [take_succ_some hx, List.drop_append_of_le_length (by simp; omega), valL_snoc, List.length_drop, List.length_take, Nat.min_eq_left (by omega)]

theorem highN_early {l : List Nat} {i : Nat} (h : i ≤ 64) : highN l i = 0 := by
  unfold highN
  rw [List.drop_eq_nil_of_le (by simp; omega)]; rfl

theorem lowN_lt {l : List Nat} (h : Bits01 l) (i : Nat) : lowN l i < 18446744073709551616 := by
  have h1 := valL_lt ((h.take i).take 64)
  have h2 : ((l.take i).take 64).length ≤ 64 := by rw [List.length_take]; exact Nat.min_le_left _ _
  have h3 : 2 ^ ((l.take i).take 64).length ≤ 2 ^ 64 := Nat.pow_le_pow_right (by decide) h2
  unfold lowN
  exact Nat.lt_of_lt_of_le h1 h3

theorem valL_drop_take (l : List Nat) (i k : Nat) : valL ((l.take i).drop k) ≤ valL (l.drop k) := by
  have e : l.drop k = (l.take i).drop k ++ (l.drop (max i k)) := by
    rw [List.drop_take]
    rcases Nat.le_total i k with h | h
    · rw [Nat.max_eq_right h, Nat.sub_eq_zero_of_le h]; simp
    · rw [Nat.max_eq_left h]
      have := List.take_append_drop (i - k) (l.drop k)
      rw [List.drop_drop] at this
      rw [show k + (i - k) = i by omega] at this
      exact this.symm
  rw [e, valL_app]
  exact Nat.le_add_right _ _

theorem valL_both (l : List Nat) : valL l = lowN l l.length + 18446744073709551616 * highN l l.length := by
  unfold lowN highN
  rw [List.take_length]
  rcases Nat.le_total 64 l.length with h | h
  · exact valL_split l h
  · rw [List.take_of_length_le h, List.drop_eq_nil_of_le h]; simp [valL]

theorem highN_le (l : List Nat) (i : Nat) : highN l i ≤ highN l l.length := by
  unfold highN
  rw [List.take_length]
  exact valL_drop_take l i 64

theorem wide_parts {l : List Nat} (h : Bits01 l) : highN l l.length = valL l / 18446744073709551616 ∧ lowN l l.length = valL l % 18446744073709551616 := by
  have h1 := valL_both l
  have h2 := lowN_lt h l.length
  omega

/-- A bit behind the 128th is 0, where the number is below 2^128. -/
theorem bit_late {l : List Nat} {i x : Nat} (hx : l[i]? = some x) (hi : 128 ≤ i) (hv : valL l < 340282366920938463463374607431768211456) : x = 0 := by
  obtain ⟨hk, _⟩ := List.getElem?_eq_some_iff.1 hx
  have h1 := valL_split l (k := i) (by omega)
  have h2 := valL_at hx
  rcases Nat.eq_zero_or_pos x with h0 | h0
  · exact h0
  · exfalso
    have h3 : 2 ^ 128 ≤ 2 ^ i := Nat.pow_le_pow_right (by decide) hi
    have h4 : 2 ^ i * 1 ≤ 2 ^ i * valL (l.drop i) := Nat.mul_le_mul_left _ (by omega)
    have h5 : (2 : Nat) ^ 128 = 340282366920938463463374607431768211456 := by decide
    omega

/-- Adding, bit by bit. -/
theorem sum_step {A B L : List Nat} {i a b c : Nat} (ha : A[i]? = some a) (hb : B[i]? = some b) (hL : L.length = i) (hv : valL L + 2 ^ i * c = valL (A.take i) + valL (B.take i)) :
    valL (L ++ [(a + b + c) % 2]) + 2 ^ (i + 1) * ((a + b + c) / 2) = valL (A.take (i + 1)) + valL (B.take (i + 1)) := by
  rw [valL_snoc, valL_take ha, valL_take hb, hL, Nat.pow_succ, Nat.mul_assoc]
  have h1 : 2 * ((a + b + c) / 2) + (a + b + c) % 2 = a + b + c := Nat.div_add_mod _ _
  have h2 : 2 ^ i * (2 * ((a + b + c) / 2) + (a + b + c) % 2) = 2 ^ i * (a + b + c) := by rw [h1]
  rw [Nat.mul_add, Nat.mul_add, Nat.mul_add] at h2
  omega

/-- The highest place at which two lists differ tells which is more. -/
theorem cmp_at {A B : List Nat} {i a b : Nat} (hA : Bits01 A) (ha : A[i]? = some a) (hb : B[i]? = some b) (hd : A.drop (i + 1) = B.drop (i + 1)) (hlt : a < b) : valL A < valL B := by
  obtain ⟨hk, _⟩ := List.getElem?_eq_some_iff.1 ha
  obtain ⟨hk', _⟩ := List.getElem?_eq_some_iff.1 hb
  rw [valL_split A (k := i) (by omega), valL_split B (k := i) (by omega), valL_at ha, valL_at hb, hd]
  have h1 := valL_lt (hA.take i)
  rw [List.length_take, Nat.min_eq_left (by omega)] at h1
  have h2 : 2 ^ i * (a + 2 * valL (B.drop (i + 1)) + 1) ≤ 2 ^ i * (b + 2 * valL (B.drop (i + 1))) := Nat.mul_le_mul_left _ (by omega)
  rw [Nat.mul_add, Nat.mul_one] at h2
  omega

theorem drop_at {α : Type} {A B : List α} {i : Nat} {a : α} (ha : A[i]? = some a) (hb : B[i]? = some a) (hd : A.drop (i + 1) = B.drop (i + 1)) : A.drop i = B.drop i := by
  obtain ⟨hk, e⟩ := List.getElem?_eq_some_iff.1 ha
  obtain ⟨hk', e'⟩ := List.getElem?_eq_some_iff.1 hb
  rw [List.drop_eq_getElem_cons hk, List.drop_eq_getElem_cons hk', e, e', hd]

/-- Taking one from the next place that has one: how the list stands when place k is looked at. -/
def lendL (X : List Nat) (i k : Nat) : List Nat := X.take (i + 1) ++ (List.replicate (k - (i + 1)) 1 ++ X.drop k)

theorem lendL_start (X : List Nat) (i : Nat) : lendL X i (i + 1) = X := by simp [lendL]

theorem lendL_len {X : List Nat} {i k : Nat} (h : i < k) (hk : k ≤ X.length) : (lendL X i k).length = X.length := by simp [lendL]; omega

theorem lendL_01 {X : List Nat} (h : Bits01 X) (i k : Nat) : Bits01 (lendL X i k) := (h.take _).app ((Bits01.rep _ (by omega)).app (h.drop _))

theorem lendL_at {X : List Nat} {i k : Nat} (h : i < k) (hk : k ≤ X.length) : (lendL X i k)[k]? = X[k]? := by
  unfold lendL
  rw [List.getElem?_append_right (by simp; omega), List.getElem?_append_right (by simp; omega), List.getElem?_drop]
  congr 1
  simp; omega

theorem lendL_step {X : List Nat} {i k : Nat} (h : i < k) (hk : k < X.length) : (lendL X i k).set k 1 = lendL X i (k + 1) := by
  unfold lendL
  rw [List.set_append_right _ _ (by simp; omega), List.set_append_right _ _ (by simp; omega), List.drop_eq_getElem_cons hk]
  have e : k - (X.take (i + 1)).length - (List.replicate (k - (i + 1)) 1 : List Nat).length = 0 := by simp; omega
  rw [e, List.set_cons_zero, show k + 1 - (i + 1) = (k - (i + 1)) + 1 by omega, List.replicate_succ', List.append_assoc]
  rfl

/-- There is a place that has one. -/
theorem lend_more {X : List Nat} {i k : Nat} (h : i < k) (hk : k ≤ X.length) (hz : ∀ j, i < j → j < k → X[j]? = some 0) (hv : 0 < valL (X.drop (i + 1))) : 2 ^ (k - (i + 1)) * valL (X.drop k) = valL (X.drop (i + 1)) ∧ k < X.length := by
  have h1 : 2 ^ (k - (i + 1)) * valL (X.drop k) = valL (X.drop (i + 1)) := by
    clear hv
    induction k with
    | zero => omega
    | succ k ih =>
      rcases Nat.lt_or_ge i k with h' | h'
      · have := ih h' (by omega) (fun j h1 h2 => hz j h1 (by omega))
        have h3 := valL_at (hz k h' (by omega))
        rw [← this, h3, show k + 1 - (i + 1) = (k - (i + 1)) + 1 by omega, Nat.pow_succ, Nat.mul_assoc]
        simp
      · have : k = i := by omega
        subst this; simp
  refine ⟨h1, ?_⟩
  rcases Nat.lt_or_ge k X.length with h2 | h2
  · exact h2
  · rw [List.drop_eq_nil_of_le h2, valL] at h1; omega

theorem ones_val : ∀ n, valL (List.replicate n 1) + 1 = 2 ^ n
  | 0 => rfl
  | n + 1 => by rw [List.replicate_succ, valL, Nat.pow_succ]; have := ones_val n; omega

/-- One has been taken. -/
theorem lend_done {X : List Nat} {i k x : Nat} (h : i < k) (hk : X[k]? = some x) (hx : x = 1) (hz : ∀ j, i < j → j < k → X[j]? = some 0) (hv : 0 < valL (X.drop (i + 1))) :
    valL (((lendL X i k).set k 0).drop (i + 1)) + 1 = valL (X.drop (i + 1)) := by
  subst hx
  obtain ⟨hkl, he⟩ := List.getElem?_eq_some_iff.1 hk
  have h1 := (lend_more h (by omega) hz hv).1
  have h2 := valL_at hk
  have e : ((lendL X i k).set k 0).drop (i + 1) = List.replicate (k - (i + 1)) 1 ++ (0 :: X.drop (k + 1)) := by
    unfold lendL
    rw [List.set_append_right _ _ (by simp; omega), List.set_append_right _ _ (by simp; omega), List.drop_eq_getElem_cons hkl]
    have e0 : k - (X.take (i + 1)).length - (List.replicate (k - (i + 1)) 1 : List Nat).length = 0 := by simp; omega
    rw [e0, List.set_cons_zero, List.drop_append_of_le_length (by simp; omega)]
    have e1 : (X.take (i + 1)).drop (i + 1) = [] := List.drop_eq_nil_of_le (by simp; omega)
    rw [e1]; rfl
  rw [e, valL_app, valL, List.length_replicate, Nat.zero_add]
  have h3 := ones_val (k - (i + 1))
  rw [h2, Nat.mul_add, Nat.mul_one] at h1
  omega

/-- How subtracting stands at place i. -/
structure SubAt (X Y O : List Nat) (i D : Nat) : Prop where
  lx : X.length = 128
  bx : Bits01 X
  lo : O.length = 128
  bo : Bits01 O
  le : valL (Y.drop i) ≤ valL (X.drop i)
  eq : valL (O.take i) + 2 ^ i * (valL (X.drop i) - valL (Y.drop i)) = D

theorem SubAt.step {X X' Y O : List Nat} {i D x y n : Nat} (h : SubAt X Y O i D) (hi : i < 128) (hx : X[i]? = some x) (hy : Y[i]? = some y) (hn : n ≤ 1) (hl : X'.length = 128) (hb : Bits01 X')
    (hv : x + 2 * valL (X.drop (i + 1)) = y + n + 2 * valL (X'.drop (i + 1))) : SubAt X' Y (O.set i n) (i + 1) D := by
  have h1 := valL_at hx
  have h2 := valL_at hy
  have hle := h.le
  have heq := h.eq
  have hlo := h.lo
  refine ⟨hl, hb, by simpa using hlo, h.bo.set i hn, by omega, ?_⟩
  have e1 : (O.set i n)[i]? = some n := by simp [hlo, hi]
  rw [valL_take e1, List.take_set_of_le (by omega)]
  rw [← heq, h1, h2, show x + 2 * valL (X.drop (i + 1)) - (y + 2 * valL (Y.drop (i + 1))) = n + 2 * (valL (X'.drop (i + 1)) - valL (Y.drop (i + 1))) by omega, Nat.mul_add, Nat.pow_succ, Nat.mul_assoc]
  omega

theorem SubAt.done {X Y O : List Nat} {D : Nat} (h : SubAt X Y O 128 D) (hy : Y.length = 128) : BL 128 D O := by
  refine ⟨h.lo, h.bo, ?_⟩
  have := h.eq
  rw [List.drop_eq_nil_of_le (by rw [h.lx]; omega), List.take_of_length_le (by rw [h.lo]; omega), List.drop_eq_nil_of_le (by omega)] at this
  simpa [valL] using this
end Go.Proofs.Ytcpompbiohaomaa
