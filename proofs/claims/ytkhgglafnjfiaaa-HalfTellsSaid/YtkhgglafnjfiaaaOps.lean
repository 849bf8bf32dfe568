/- Run equations of single operations, in a form that a walk can take: slices cut, shifts, bits. No program. -/
import Derived.Test.YtkhgglafnjfiaaaBase
import Derived.IntWalk
namespace Go.Proofs.Ytkhgglafnjfiaaa
open Go.RowKit

section
variable {P : Program}

theorem wrap_nat (p : Nat) (h : p < 9223372036854775808) : IntKind.i64.wrap (p : Int) = (p : Int) := IntWalk.i64_in _ (by omega)

theorem run_shl_one (t : TypeId) (m : Nat) (hm : m < 62) (w : World) : (binOp .shl t (.int .i64 1) (.int .i64 (m : Int))).run P w = .ok (.int .i64 ((2 ^ m : Nat) : Int)) w := by
  have hp : (2 : Nat) ^ m < 2 ^ 62 := Nat.pow_lt_pow_right (by omega) hm
  have e : IntKind.i64.wrap ((2 : Int) ^ m) = 2 ^ m := by
    have h1 : (2 : Int) ^ m = ((2 ^ m : Nat) : Int) := by simp
    rw [h1]
    exact wrap_nat _ (by omega)
  have hb : min m IntKind.i64.bits = m := by simp [IntKind.bits]; omega
  have hneg : ¬ ((m : Int) < 0) := by omega
  show Sem.run P (Op.shift .shl .i64 1 .i64 (m : Int)) w = _
  unfold Op.shift
  rw [if_neg hneg]
  simp only [Int.toNat_natCast, hb, Int.one_mul, e, Int.natCast_pow]
  rfl

theorem and_wrap (a b : Nat) (ha : a < 2 ^ 62) (hb : b < 2 ^ 62) : IntKind.i64.wrap ((BitVec.ofInt IntKind.i64.bits (a : Int) &&& BitVec.ofInt IntKind.i64.bits (b : Int)).toNat : Int) = ((a &&& b : Nat) : Int) := by
  have h1 : (BitVec.ofInt IntKind.i64.bits (a : Int) &&& BitVec.ofInt IntKind.i64.bits (b : Int)).toNat = a &&& b := by
    rw [BitVec.toNat_and]
    simp only [BitVec.ofInt_natCast, BitVec.toNat_ofNat]
    rw [Nat.mod_eq_of_lt (by simp only [IntKind.bits]; omega), Nat.mod_eq_of_lt (by simp only [IntKind.bits]; omega)]
  rw [h1]
  have h2 : a &&& b ≤ a := Nat.and_le_left
  exact wrap_nat _ (by omega)

theorem run_and_nat (t : TypeId) (a b : Nat) (ha : a < 2 ^ 62) (hb : b < 2 ^ 62) (w : World) : (binOp .and t (.int .i64 (a : Int)) (.int .i64 (b : Int))).run P w = .ok (.int .i64 ((a &&& b : Nat) : Int)) w := by
  show Result.ok (Value.int .i64 (IntKind.i64.wrap ((BitVec.ofInt IntKind.i64.bits (a : Int) &&& BitVec.ofInt IntKind.i64.bits (b : Int)).toNat : Int))) w = _
  rw [and_wrap a b ha hb]

theorem and_two_pow (a m : Nat) : (a &&& 2 ^ m) = if a.testBit m then 2 ^ m else 0 := by
  apply Nat.eq_of_testBit_eq
  intro i
  rw [Nat.testBit_and, Nat.testBit_two_pow]
  by_cases h : m = i
  · subst h
    cases hb : a.testBit m <;> simp
  · cases hb : a.testBit m <;> simp [h]

/-- The same in the walk's own spelling. -/
theorem shl_spelt (m p : Nat) (hm : m < 62) (hp : 2 ^ m = p) : wrap64 ((2 : Int) ^ m) = (p : Int) := by
  have h1 : (2 : Int) ^ m = (p : Int) := by rw [← hp]; simp
  have h2 : (2 : Nat) ^ m < 2 ^ 62 := Nat.pow_lt_pow_right (by omega) hm
  rw [h1]
  exact IntWalk.wrap64_in _ ⟨by omega, by omega⟩

theorem div_spelt (n p d : Nat) (hn : n < 2 ^ 62) (hd : n / p = d) : Value.int .i64 (wrap64 ((n : Int) / (p : Int))) = Value.int .i64 (d : Int) := by
  have h1 : (n : Int) / (p : Int) = (d : Int) := by rw [← hd]; rfl
  have h2 : n / p ≤ n := Nat.div_le_self _ _
  rw [h1, IntWalk.wrap64_in _ ⟨by omega, by omega⟩]

theorem min_spelt (n m : Nat) (c : Int) (h : (m : Int) = if c < (n : Int) then c else n) : Value.int .i64 (if c < (n : Int) then c else (n : Int)) = Value.int .i64 (m : Int) := by rw [h]

theorem and_spelt (a b c : Nat) (ha : a < 2 ^ 62) (hb : b < 2 ^ 62) (hc : a &&& b = c) : bits .and .i64 (a : Int) (b : Int) = (c : Int) := by
  rw [← hc]
  exact and_wrap a b ha hb

variable {w : World} {size : Nat} {v : Value} {n : Nat} {xs : List Value}

theorem elem_of {P : Program} {t e : TypeId} (ht : P.underlying t = some (.slice e)) : P.underlying t = some (.slice (P.elem t)) := by
  have : P.elem t = e := by simp [Program.elem, ht]
  rw [this]; exact ht

/-- A slice's head. -/
theorem cut_to {t e : TypeId} {i : TypeInfo} (ht : P.underlying t = some (.slice e)) (hi : P.info? e = some i) (hsize : i.size = size) (h : Sees w size v n xs) (k : Nat) (hk : k ≤ n) :
    ∃ A C, (∀ w', (Instr.slice t v none (some (.int .i64 (k : Int))) none).run P w' = .ok (.slice A k C) w') ∧
      (∀ w', Sees w' size v n xs → Sees w' size (.slice A k C) k (xs.take (k * size))) ∧ blk (.slice A k C) = blk v := by
  subst hsize
  have hel : P.elem t = e := by simp [Program.elem, ht]
  rcases h.2 with ⟨rfl, rfl⟩ | ⟨b, o, s, cap, rfl, h3, h4, h5, h6⟩
  · have hk0 : k = 0 := by omega
    subst hk0
    refine ⟨none, 0, fun w' => ?_, fun w' hs => ?_, rfl⟩
    · rw [run_slice_h w' t none 0 0 (elem_of ht) .i64 _ (by omega) (by omega)]
      simp [hel, sizeOf, typeInfo, hi, sliced]
    · exact ⟨by simp, .inl ⟨rfl, rfl⟩⟩
  · refine ⟨some ⟨b, o, s⟩, cap, fun w' => ?_, fun w' hs => ?_, rfl⟩
    · rw [run_slice_h w' t _ n cap (elem_of ht) .i64 _ (by omega) (by omega)]
      simp [hel, sizeOf, typeInfo, hi, sliced, Addr.add]
    · refine ⟨by rw [List.length_take, hs.1]; exact Nat.min_eq_left (Nat.mul_le_mul_right _ hk), .inr ⟨b, o, s, cap, rfl, h3, by omega, h5, fun j u hu => ?_⟩⟩
      rw [List.getElem?_take] at hu
      split at hu
      · rcases hs.2 with ⟨hc, _⟩ | ⟨b', o', s', cap', hc, _, _, _, h5'⟩
        · cases hc
        · cases hc; exact h5' j u hu
      · cases hu

/-- A slice's rest. -/
theorem cut_from {t e : TypeId} {i : TypeInfo} (ht : P.underlying t = some (.slice e)) (hi : P.info? e = some i) (hsize : i.size = size) (h : Sees w size v n xs) (k : Nat) (hk : k ≤ n) :
    ∃ A C, (∀ w', (Instr.slice t v (some (.int .i64 (k : Int))) none none).run P w' = .ok (.slice A (n - k) C) w') ∧
      (∀ w', Sees w' size v n xs → Sees w' size (.slice A (n - k) C) (n - k) (xs.drop (k * size))) ∧ blk (.slice A (n - k) C) = blk v := by
  subst hsize
  have hel : P.elem t = e := by simp [Program.elem, ht]
  rcases h.2 with ⟨rfl, rfl⟩ | ⟨b, o, s, cap, rfl, h3, h4, h5, h6⟩
  · have hk0 : k = 0 := by omega
    subst hk0
    refine ⟨none, 0, fun w' => ?_, fun w' hs => ?_, rfl⟩
    · rw [run_slice_l w' t none 0 0 (elem_of ht) .i64 _ (by omega) (by omega)]
      simp [hel, sizeOf, typeInfo, hi, sliced]
    · exact ⟨by simpa using hs.1, .inl ⟨rfl, rfl⟩⟩
  · refine ⟨if cap = k then some ⟨b, o, s⟩ else some ⟨b, o + k * i.size, none⟩, cap - k, fun w' => ?_, fun w' hs => ?_, ?_⟩
    · rw [run_slice_l w' t _ n cap (elem_of ht) .i64 _ (by omega) (by omega)]
      by_cases hck : cap = k
      · simp [hel, sizeOf, typeInfo, hi, sliced, hck]
      · have hs0 := h3 (by omega)
        subst hs0
        simp [hel, sizeOf, typeInfo, hi, sliced, addr_add, hck]
    · refine ⟨by rw [List.length_drop, hs.1, Nat.sub_mul], .inr ⟨b, if cap = k then o else o + k * i.size, if cap = k then s else none, cap - k, ?_, ?_, by omega, by omega, fun j u hu => ?_⟩⟩
      · split <;> rfl
      · intro hp; rw [if_neg (by omega)]
      · rcases hs.2 with ⟨hc, _⟩ | ⟨b', o', s', cap', hc, _, _, _, h5'⟩
        · cases hc
        · cases hc
          rw [List.getElem?_drop] at hu
          have hlt : k * i.size + j < n * i.size := by
            rcases Nat.lt_or_ge (k * i.size + j) (n * i.size) with h' | h'
            · exact h'
            · rw [List.getElem?_eq_none (by rw [hs.1]; exact h')] at hu; cases hu
          have hkc : cap ≠ k := by
            intro e; subst e
            have : n = cap := by omega
            subst this; omega
          rw [if_neg hkc]
          have := h5' _ u hu
          rwa [show o + (k * i.size + j) = o + k * i.size + j from by omega] at this
    · split <;> rfl

/-- A slice's middle. -/
theorem cut_mid {t e : TypeId} {i : TypeInfo} (ht : P.underlying t = some (.slice e)) (hi : P.info? e = some i) (hsize : i.size = size) (h : Sees w size v n xs) (lo hi' : Nat) (hlo : lo ≤ hi') (hhi : hi' ≤ n) :
    ∃ A C, (∀ w', (Instr.slice t v (some (.int .i64 (lo : Int))) (some (.int .i64 (hi' : Int))) none).run P w' = .ok (.slice A (hi' - lo) C) w') ∧
      (∀ w', Sees w' size v n xs → Sees w' size (.slice A (hi' - lo) C) (hi' - lo) ((xs.drop (lo * size)).take ((hi' - lo) * size))) ∧ blk (.slice A (hi' - lo) C) = blk v := by
  subst hsize
  have hel : P.elem t = e := by simp [Program.elem, ht]
  rcases h.2 with ⟨rfl, rfl⟩ | ⟨b, o, s, cap, rfl, h3, h4, h5, h6⟩
  · have hk0 : hi' = 0 := by omega
    have hl0 : lo = 0 := by omega
    subst hk0 hl0
    refine ⟨none, 0, fun w' => ?_, fun w' hs => ?_, rfl⟩
    · rw [run_slice_lh w' t none 0 0 (elem_of ht) .i64 .i64 _ _ (by omega) (by omega) (by omega)]
      simp [hel, sizeOf, typeInfo, hi, sliced]
    · exact ⟨by simp, .inl ⟨rfl, rfl⟩⟩
  · refine ⟨if cap = lo then some ⟨b, o, s⟩ else some ⟨b, o + lo * i.size, none⟩, cap - lo, fun w' => ?_, fun w' hs => ?_, ?_⟩
    · rw [run_slice_lh w' t _ n cap (elem_of ht) .i64 .i64 _ _ (by omega) (by omega) (by omega)]
      by_cases hck : cap = lo
      · simp [hel, sizeOf, typeInfo, hi, sliced, hck]
      · have hs0 := h3 (by omega)
        subst hs0
        simp [hel, sizeOf, typeInfo, hi, sliced, addr_add, hck]
    · refine ⟨?_, .inr ⟨b, if cap = lo then o else o + lo * i.size, if cap = lo then s else none, cap - lo, ?_, ?_, by omega, by omega, fun j u hu => ?_⟩⟩
      · rw [List.length_take, List.length_drop, hs.1, ← Nat.sub_mul]
        exact Nat.min_eq_left (Nat.mul_le_mul_right _ (by omega))
      · split <;> rfl
      · intro hp; rw [if_neg (by omega)]
      · rcases hs.2 with ⟨hc, _⟩ | ⟨b', o', s', cap', hc, _, _, _, h5'⟩
        · cases hc
        · cases hc
          rw [List.getElem?_take] at hu
          split at hu
          · rename_i hj
            rw [List.getElem?_drop] at hu
            have hlt : lo * i.size + j < hi' * i.size := by
              have := Nat.sub_mul hi' lo i.size
              have h6 : lo * i.size ≤ hi' * i.size := Nat.mul_le_mul_right _ hlo
              omega
            have hkc : cap ≠ lo := by
              intro e; subst e
              have : hi' = cap := by omega
              subst this; omega
            rw [if_neg hkc]
            have := h5' _ u hu
            rwa [show o + (lo * i.size + j) = o + lo * i.size + j from by omega] at this
          · cases hu
    · split <;> rfl
end
end Go.Proofs.Ytkhgglafnjfiaaa
