/- carry.Carry[int64], said of the things that were added or set: each call by one contract. -/
import Derived.Test.YtkhgglafnjfiaaaCarryG
import Derived.Test.YtkhgglafnjfiaaaSetL
namespace Go.Proofs.Ytkhgglafnjfiaaa
open Go.RowKit

section
variable {α : Type}

/-- Since the world w0 nothing was written but the carry at block b, and new blocks; it has what adding l makes. -/
def Held (K : Kind α) (w0 wr : World) (b : Nat) (l : List α) (work : Nat) : Prop :=
  ∃ F, IsCarry K wr b F (setB l) l.length work ∧ Upd [b] w0 wr ∧ ∀ x ∈ F, x = b ∨ w0.heap.size ≤ x

theorem Held.quiet {K : Kind α} {w0 wr w' : World} {b : Nat} {l : List α} {work : Nat} (h : Held K w0 wr b l work) (hu : Upd [] wr w') : Held K w0 w' b l work := by
  obtain ⟨F, h1, h2, h3⟩ := h
  exact ⟨F, h1.upd hu (by simp), h2.trans' hu (by simp), h3⟩

theorem Held.upd {K : Kind α} {w0 wr : World} {b : Nat} {l : List α} {work : Nat} (h : Held K w0 wr b l work) : Upd [b] w0 wr := by
  obtain ⟨F, h1, h2, h3⟩ := h
  exact h2

/-- Where something else is written, apart from the carry. -/
theorem Held.other {K : Kind α} {w0 wr w' : World} {b : Nat} {l : List α} {work : Nat} (h : Held K w0 wr b l work) {G : List Nat} (hu : Upd G wr w') (hG : ∀ x ∈ G, w0.heap.size ≤ x) (hF : ∀ F, IsCarry K wr b F (setB l) l.length work → (∀ x ∈ F, x = b ∨ w0.heap.size ≤ x) → ∀ x ∈ F, x ∉ G) : Held K w0 w' b l work := by
  obtain ⟨F, h1, h2, h3⟩ := h
  exact ⟨F, h1.upd hu (hF F h1 h3), h2.trans' hu (fun x hx => .inr (hG x hx)), h3⟩

/-- What is filled by the next thing. -/
theorem gath_last (l : List α) (x : α) : gath (setB l) x = (l ++ [x]).drop (l.length + 1 - 2 ^ firstE (setB l)) ∧ 2 ^ firstE (setB l) ≤ l.length + 1 ∧
    (l.length + 1) % 2 ^ firstE (setB l) = 0 ∧ (l.length + 1) % 2 ^ (firstE (setB l) + 1) ≠ 0 := by
  obtain ⟨h1, h2⟩ := firstE_bits l
  obtain ⟨h3, h4, h5⟩ := bits_next _ _ h1 h2
  obtain ⟨h6, h7⟩ := gath_set l x
  generalize firstE (setB l) = t at *
  have hp := Nat.two_pow_pos t
  have hpt : 2 ^ (t + 1) = 2 * 2 ^ t := by rw [Nat.pow_succ, Nat.mul_comm]
  have hr := rest_is l.length (t + 1)
  have hle : l.length / 2 ^ (t + 1) * 2 ^ (t + 1) ≤ l.length := Nat.div_mul_le_self _ _
  have hq : l.length / 2 ^ (t + 1) * 2 ^ (t + 1) = l.length + 1 - 2 ^ t := by omega
  have hm : (l.length + 1) % 2 ^ (t + 1) = 2 ^ t := by
    have := Nat.div_add_mod l.length (2 ^ (t + 1))
    have e : l.length + 1 = 2 ^ (t + 1) * (l.length / 2 ^ (t + 1)) + 2 ^ t := by omega
    rw [e, Nat.mul_add_mod, Nat.mod_eq_of_lt (by omega)]
  refine ⟨?_, by omega, ?_, by omega⟩
  · rw [h6, hq, List.drop_append_of_le_length (by omega)]
  · have := Nat.div_add_mod (l.length + 1) (2 ^ (t + 1))
    rw [hm, hpt] at this
    have e : l.length + 1 = 2 ^ t * (2 * ((l.length + 1) / (2 * 2 ^ t)) + 1) := by
      rw [Nat.mul_add, Nat.mul_one, ← Nat.mul_assoc, Nat.mul_comm (2 ^ t) 2]; exact this.symm
    rw [e]
    exact Nat.mul_mod_right _ _
end

theorem bitsN_small (n : Nat) (h : n < 1000000) : bitsN n ≤ 20 := bitsN_le _ _ (by omega)

theorem addH (w0 w : World) (b : Nat) (x : Int) (l : List Int) (work : Nat) (h : Held KI w0 w b l work) (hl : l.length < 500000) (hw : work < 1099511627776) :
    Calls Try.prog 16 #[.pointer (some ⟨b, 0, none⟩), .int .i64 x] w fun e w' => ∃ A C, e = .returned (.tuple #[.int .i64 (firstE (setB l)), .slice A (2 ^ firstE (setB l)) C]) ∧
      Held KI w0 w' b (l ++ [x]) (work + 2 ^ firstE (setB l)) ∧ KI.row w' w.heap.size (.slice A (2 ^ firstE (setB l)) C) (gath (setB l) x) := by
  obtain ⟨F, h1, h2, h3⟩ := h
  have hg := (gath_set l x).2
  refine (addI b F x _ _ _ w h1 (by rw [setB_len]; have := bitsN_small l.length (by omega); omega) (by rw [setB_flat]; omega) (by omega) hw).mono ?_
  rintro e w' ⟨A, C, rfl, F', h4, h5, h6, h7, h8⟩
  rw [hg] at h4 h7 ⊢
  rw [add_set] at h4
  refine ⟨A, C, rfl, ⟨F', by rw [List.length_append]; exact h4, h2.trans' h5 fun x hx => ?_, fun x hx => ?_⟩, h7⟩
  · rcases h3 x hx with h9 | h9
    · exact .inl (by simp [h9])
    · exact .inr h9
  · rcases h6 x hx with h9 | h9
    · exact h3 x h9
    · exact .inr (Nat.le_trans h2.size h9)

theorem setH (w0 w : World) (b : Nat) (s : Value) (l0 l : List Int) (work : Nat) (h : Held KI w0 w b l0 work) (hs : Ints w s l) (hsb : 0 < l.length → ∀ k ∈ blk s, k < w0.heap.size ∧ k ≠ b) (hl : l.length < 500000) (hw : work < 1099511627776) :
    Calls Try.prog 14 #[.pointer (some ⟨b, 0, none⟩), s] w fun e w' => e = .returned (.int .i64 l.length) ∧ Held KI w0 w' b l (work + l.length) := by
  obtain ⟨F, h1, h2, h3⟩ := h
  refine (setI b F s l _ _ _ w h1 hs (fun h0 k hk hF => ?_) (by omega) hw).mono ?_
  · have := hsb h0 k hk
    rcases h3 k hF with h9 | h9 <;> omega
  rintro e w' ⟨rfl, F', h4, h5, h6⟩
  refine ⟨rfl, F', h4, h2.trans' h5 fun x hx => ?_, fun x hx => ?_⟩
  · rcases h3 x hx with h9 | h9
    · exact .inl (by simp [h9])
    · exact .inr h9
  · rcases h6 x hx with h9 | h9
    · exact h3 x h9
    · exact .inr (Nat.le_trans h2.size h9)

/-- The same where what is set was made later than the carry was last touched. -/
theorem setH_new (w0 wo w : World) (b : Nat) (s : Value) (l0 l : List Int) (work : Nat) (h : Held KI w0 wo b l0 work) (hu : Upd [] wo w) (hs : Ints w s l) (hsb : 0 < l.length → ∀ k ∈ blk s, wo.heap.size ≤ k) (hl : l.length < 500000) (hw : work < 1099511627776) :
    Calls Try.prog 14 #[.pointer (some ⟨b, 0, none⟩), s] w fun e w' => e = .returned (.int .i64 l.length) ∧ Held KI w0 w' b l (work + l.length) := by
  obtain ⟨F, h1, h2, h3⟩ := h
  refine (setI b F s l _ _ _ w (h1.upd hu (by simp)) hs (fun h0 k hk hF => ?_) (by omega) hw).mono ?_
  · have := hsb h0 k hk
    have := h1.lt k hF
    omega
  rintro e w' ⟨rfl, F', h4, h5, h6⟩
  refine ⟨rfl, F', h4, (h2.trans' hu (by simp)).trans' h5 fun x hx => ?_, fun x hx => ?_⟩
  · rcases h3 x hx with h9 | h9
    · exact .inl (by simp [h9])
    · exact .inr h9
  · rcases h6 x hx with h9 | h9
    · exact h3 x h9
    · exact .inr (Nat.le_trans h2.size (Nat.le_trans hu.size h9))

theorem lenH (w0 w : World) (b : Nat) (l : List Int) (work : Nat) (h : Held KI w0 w b l work) :
    Calls Try.prog 22 #[.pointer (some ⟨b, 0, none⟩)] w fun e w' => e = .returned (.int .i64 l.length) ∧ w = w' := by
  obtain ⟨F, h1, h2, h3⟩ := h
  exact lenI _ _ _ _ _ _ h1

theorem workH (w0 w : World) (b : Nat) (l : List Int) (work : Nat) (h : Held KI w0 w b l work) :
    Calls Try.prog 19 #[.pointer (some ⟨b, 0, none⟩)] w fun e w' => e = .returned (.int .i64 work) ∧ w = w' := by
  obtain ⟨F, h1, h2, h3⟩ := h
  exact workI _ _ _ _ _ _ h1

theorem levelsH (w0 w : World) (b : Nat) (l : List Int) (work : Nat) (h : Held KI w0 w b l work) :
    Calls Try.prog 21 #[.pointer (some ⟨b, 0, none⟩)] w fun e w' => e = .returned (.int .i64 (bitsN l.length)) ∧ w = w' := by
  obtain ⟨F, h1, h2, h3⟩ := h
  have := levelsI _ _ _ _ _ _ h1
  rw [setB_len] at this
  exact this

theorem bucketH (w0 w : World) (b i : Nat) (l : List Int) (work : Nat) (h : Held KI w0 w b l work) (hi : i < bitsN l.length) (hl : l.length < 1000000) :
    Calls Try.prog 23 #[.pointer (some ⟨b, 0, none⟩), .int .i64 i] w fun e w' => ∃ A C, e = .returned (.slice A (bucketOf l i).length C) ∧ KI.row w' w.heap.size (.slice A (bucketOf l i).length C) (bucketOf l i) ∧ Upd [] w w' := by
  obtain ⟨F, h1, h2, h3⟩ := h
  refine bucketI_in b F i _ _ _ _ w h1 (setB_get l i hi) ?_
  rw [bucketOf_len]
  split
  · rename_i hb
    have := Nat.ge_two_pow_of_testBit hb
    omega
  · omega

theorem newH (w : World) :
    Calls Try.prog 13 #[] w fun e w' => ∃ b, e = .returned (.pointer (some ⟨b, 0, none⟩)) ∧ (∀ w0, Upd [] w' w0 → Held KI w0 w0 b [] 0) ∧ w.heap.size ≤ b ∧ b < w'.heap.size ∧ Upd [] w w' := by
  refine (newI w).mono ?_
  rintro e w' ⟨b, rfl, h1, h2, h3⟩
  refine ⟨b, rfl, fun w0 hu => ⟨[b], by have := h1.upd hu (by simp); rw [setB_nil]; exact this, Upd.refl _ _, by simp⟩, h2, h1.lt b (by simp), h3⟩

end Go.Proofs.Ytkhgglafnjfiaaa
