/- Two carries that lie apart; and an argument's head. -/
import Derived.Test.YtkhgglafnjfiaaaCarryG
import Derived.Test.YtkhgglafnjfiaaaSetL
namespace Go.Proofs.Ytkhgglafnjfiaaa
open Go.RowKit

theorem head_of {w : World} {A0 : Option Addr} {C0 : Nat} {l : List Int} (hs : Ints w (.slice A0 l.length C0) l) (cn : Nat) (c : Int) (hc : (cn : Int) = c) :
    ∃ A C m lm, lm = l.take m ∧ lm.length = m ∧ m = min l.length cn ∧ (∀ w', (Instr.slice 22 (.slice A0 l.length C0) none (some (.int .i64 (m : Int))) none).run Try.prog w' = .ok (.slice A m C) w') ∧
      Value.int .i64 (if c < (l.length : Int) then c else (l.length : Int)) = Value.int .i64 (m : Int) ∧ Ints w (.slice A m C) lm := by
  obtain ⟨i1, hi1, hy0, hy1, hy2⟩ := info_parts info_int64
  obtain ⟨m, hm⟩ : ∃ m, min l.length cn = m := ⟨_, rfl⟩
  obtain ⟨A, C, hrun, hsee, _⟩ := cut_to (P := Try.prog) Try.underlying22 hi1 hy1 hs m (by omega)
  refine ⟨A, C, m, l.take m, rfl, by rw [List.length_take]; omega, hm.symm, hrun, min_spelt _ _ _ (by rw [← hm, ← hc]; split <;> omega), ?_⟩
  have := hsee w hs
  unfold Ints
  rw [Kind.all_take, List.length_take, Nat.min_eq_left (by omega)]
  exact this

/-- Since the world w0 only the carries at b and d, and new blocks were written; they have l and k, and lie apart; beside them lie rows, which have what is listed. -/
def Pair (w0 wr : World) (b : Nat) (l : List Int) (wl : Nat) (d : Nat) (k : List Int) (wk : Nat) (R : List (Value × List Int)) : Prop :=
  ∃ F G, IsCarry KI wr b F (setB l) l.length wl ∧ IsCarry KI wr d G (setB k) k.length wk ∧ (∀ x ∈ F, x ∉ G) ∧ Upd [b, d] w0 wr ∧ (∀ x ∈ F, x = b ∨ w0.heap.size ≤ x) ∧ (∀ x ∈ G, x = d ∨ w0.heap.size ≤ x) ∧
    ∀ r ∈ R, KI.row wr 0 r.1 r.2 ∧ ∀ x ∈ blk r.1, x ∉ F ∧ x ∉ G

theorem Pair.symm {w0 wr : World} {b : Nat} {l : List Int} {wl d : Nat} {k : List Int} {wk : Nat} {R : List (Value × List Int)} (h : Pair w0 wr b l wl d k wk R) : Pair w0 wr d k wk b l wl R := by
  obtain ⟨F, G, h1, h2, h3, h4, h5, h6, h7⟩ := h
  exact ⟨G, F, h2, h1, fun x hx hc => h3 x hc hx, h4.mono fun x hx => .inl (by simp at hx ⊢; exact hx.symm), h6, h5, fun r hr => ⟨(h7 r hr).1, fun x hx => ((h7 r hr).2 x hx).symm⟩⟩

theorem Pair.upd {w0 wr : World} {b : Nat} {l : List Int} {wl d : Nat} {k : List Int} {wk : Nat} {R : List (Value × List Int)} (h : Pair w0 wr b l wl d k wk R) : Upd [b, d] w0 wr := by
  obtain ⟨F, G, h1, h2, h3, h4, h5, h6⟩ := h
  exact h4

theorem Pair.row {w0 wr : World} {b : Nat} {l : List Int} {wl d : Nat} {k : List Int} {wk : Nat} {R : List (Value × List Int)} (h : Pair w0 wr b l wl d k wk R) {v : Value} {g : List Int} (hr : (v, g) ∈ R) : KI.row wr 0 v g := by
  obtain ⟨F, G, h1, h2, h3, h4, h5, h6, h7⟩ := h
  exact (h7 _ hr).1

theorem Pair.none {w0 wr : World} {b : Nat} {l : List Int} {wl d : Nat} {k : List Int} {wk : Nat} {R : List (Value × List Int)} (h : Pair w0 wr b l wl d k wk R) : Pair w0 wr b l wl d k wk [] := by
  obtain ⟨F, G, h1, h2, h3, h4, h5, h6, h7⟩ := h
  exact ⟨F, G, h1, h2, h3, h4, h5, h6, by simp⟩

theorem Pair.quiet {w0 wr w' : World} {b : Nat} {l : List Int} {wl d : Nat} {k : List Int} {wk : Nat} {R : List (Value × List Int)} (h : Pair w0 wr b l wl d k wk R) (hu : Upd [] wr w') : Pair w0 w' b l wl d k wk R := by
  obtain ⟨F, G, h1, h2, h3, h4, h5, h6, h7⟩ := h
  exact ⟨F, G, h1.upd hu (by simp), h2.upd hu (by simp), h3, h4.trans' hu (by simp), h5, h6, fun r hr => ⟨own_upd (h7 r hr).1 hu (by simp), (h7 r hr).2⟩⟩

/-- A new row beside them. -/
theorem Pair.more {w0 wr w' : World} {b : Nat} {l : List Int} {wl d : Nat} {k : List Int} {wk : Nat} {R : List (Value × List Int)} (h : Pair w0 wr b l wl d k wk R) (hu : Upd [] wr w') {v : Value} {g : List Int} (hr : KI.row w' wr.heap.size v g) : Pair w0 w' b l wl d k wk ((v, g) :: R) := by
  have hh := h.quiet hu
  obtain ⟨F, G, h1, h2, h3, h4, h5, h6, h7⟩ := h
  refine ⟨F, G, h1.upd hu (by simp), h2.upd hu (by simp), h3, h4.trans' hu (by simp), h5, h6, fun r hr' => ?_⟩
  rcases List.mem_cons.1 hr' with rfl | hr'
  · refine ⟨own_base hr (Nat.zero_le _), fun x hx => ?_⟩
    have := own_ge hr x hx
    exact ⟨fun hc => by have := h1.lt x hc; omega, fun hc => by have := h2.lt x hc; omega⟩
  · exact ⟨own_upd (h7 r hr').1 hu (by simp), (h7 r hr').2⟩

theorem Pair.step {w0 wr w' : World} {b : Nat} {l' : List Int} {wl' d : Nat} {k : List Int} {wk : Nat} {R R' : List (Value × List Int)} {F F' G : List Nat} (h2 : IsCarry KI wr d G (setB k) k.length wk) (h3 : ∀ x ∈ F, x ∉ G) (h4 : Upd [b, d] w0 wr)
    (h5 : ∀ x ∈ F, x = b ∨ w0.heap.size ≤ x) (h6 : ∀ x ∈ G, x = d ∨ w0.heap.size ≤ x) (h10 : ∀ r ∈ R, KI.row wr 0 r.1 r.2 ∧ ∀ x ∈ blk r.1, x ∉ F ∧ x ∉ G) (h7 : IsCarry KI w' b F' (setB l') l'.length wl') (h8 : Upd F wr w') (h9 : ∀ x ∈ F', x ∈ F ∨ wr.heap.size ≤ x)
    (h11 : ∀ r ∈ R', r ∈ R ∨ (KI.row w' wr.heap.size r.1 r.2 ∧ ∀ x ∈ blk r.1, x ∉ F')) : Pair w0 w' b l' wl' d k wk R' := by
  refine ⟨F', G, h7, h2.upd h8 (fun x hx hc => h3 x hc hx), ?_, h4.trans' h8 ?_, ?_, h6, ?_⟩
  · intro x hx hc
    rcases h9 x hx with h | h
    · exact h3 x h hc
    · have := h2.lt x hc; omega
  · intro x hx
    rcases h5 x hx with h | h
    · exact .inl (by simp [h])
    · exact .inr h
  · intro x hx
    rcases h9 x hx with h | h
    · exact h5 x h
    · exact .inr (Nat.le_trans h4.size h)
  · intro r hr
    rcases h11 r hr with h | ⟨h, h'⟩
    · obtain ⟨h12, h13⟩ := h10 r h
      refine ⟨own_upd h12 h8 fun x hx => (h13 x hx).1, fun x hx => ⟨fun hc => ?_, (h13 x hx).2⟩⟩
      rcases h9 x hc with h14 | h14
      · exact (h13 x hx).1 h14
      · have := own_lt h12 x hx; omega
    · refine ⟨own_base h (Nat.zero_le _), fun x hx => ⟨h' x hx, fun hc => ?_⟩⟩
      have := own_ge h x hx
      have := h2.lt x hc
      omega

theorem addP (w0 w : World) (b : Nat) (x : Int) (l : List Int) (wl d : Nat) (k : List Int) (wk : Nat) (R : List (Value × List Int)) (h : Pair w0 w b l wl d k wk R) (hl : l.length < 500000) (hw : wl < 1099511627776) :
    Calls Try.prog 16 #[.pointer (some ⟨b, 0, none⟩), .int .i64 x] w fun e w' => ∃ A C, e = .returned (.tuple #[.int .i64 (firstE (setB l)), .slice A (2 ^ firstE (setB l)) C]) ∧
      Pair w0 w' b (l ++ [x]) (wl + 2 ^ firstE (setB l)) d k wk ((.slice A (2 ^ firstE (setB l)) C, gath (setB l) x) :: R) := by
  obtain ⟨F, G, h1, h2, h3, h4, h5, h6, h0⟩ := h
  have hg := (gath_set l x).2
  refine (addI b F x _ _ _ w h1 (by rw [setB_len]; have := bitsN_le l.length 20 (by omega); omega) (by rw [setB_flat]; omega) (by omega) hw).mono ?_
  rintro e w' ⟨A, C, rfl, F', h7, h8, h9, h10, h11⟩
  rw [hg] at h7 h10 h11 ⊢
  rw [add_set] at h7
  refine ⟨A, C, rfl, Pair.step h2 h3 h4 h5 h6 h0 (by rw [List.length_append]; exact h7) h8 h9 fun r hr => ?_⟩
  rcases List.mem_cons.1 hr with rfl | hr
  · exact .inr ⟨h10, h11⟩
  · exact .inl hr

theorem setP (w0 w : World) (b : Nat) (s : Value) (l o : List Int) (wl d : Nat) (k : List Int) (wk : Nat) (R : List (Value × List Int)) (h : Pair w0 w b l wl d k wk R) (hs : Ints w s o) (hsb : 0 < o.length → ∀ x ∈ blk s, x < w0.heap.size ∧ x ≠ b) (hl : o.length < 500000) (hw : wl < 1099511627776) :
    Calls Try.prog 14 #[.pointer (some ⟨b, 0, none⟩), s] w fun e w' => e = .returned (.int .i64 o.length) ∧ Pair w0 w' b o (wl + o.length) d k wk R := by
  obtain ⟨F, G, h1, h2, h3, h4, h5, h6, h0⟩ := h
  refine (setI b F s o _ _ _ w h1 hs (fun h0 x hx hF => ?_) (by omega) hw).mono ?_
  · have := hsb h0 x hx
    rcases h5 x hF with h9 | h9 <;> omega
  rintro e w' ⟨rfl, F', h7, h8, h9⟩
  exact ⟨rfl, Pair.step h2 h3 h4 h5 h6 h0 h7 h8 h9 fun r hr => .inl hr⟩

theorem workP (w0 w : World) (b : Nat) (l : List Int) (wl d : Nat) (k : List Int) (wk : Nat) (R : List (Value × List Int)) (h : Pair w0 w b l wl d k wk R) :
    Calls Try.prog 19 #[.pointer (some ⟨b, 0, none⟩)] w fun e w' => e = .returned (.int .i64 wl) ∧ w = w' := by
  obtain ⟨F, G, h1, h2, h3⟩ := h
  exact workI _ _ _ _ _ _ h1

theorem lenP (w0 w : World) (b : Nat) (l : List Int) (wl d : Nat) (k : List Int) (wk : Nat) (R : List (Value × List Int)) (h : Pair w0 w b l wl d k wk R) :
    Calls Try.prog 22 #[.pointer (some ⟨b, 0, none⟩)] w fun e w' => e = .returned (.int .i64 l.length) ∧ w = w' := by
  obtain ⟨F, G, h1, h2, h3⟩ := h
  exact lenI _ _ _ _ _ _ h1

theorem levelsP (w0 w : World) (b : Nat) (l : List Int) (wl d : Nat) (k : List Int) (wk : Nat) (R : List (Value × List Int)) (h : Pair w0 w b l wl d k wk R) :
    Calls Try.prog 21 #[.pointer (some ⟨b, 0, none⟩)] w fun e w' => e = .returned (.int .i64 (bitsN l.length)) ∧ w = w' := by
  obtain ⟨F, G, h1, h2, h3⟩ := h
  have := levelsI _ _ _ _ _ _ h1
  rw [setB_len] at this
  exact this

theorem bucketP (w0 w : World) (b i : Nat) (l : List Int) (wl d : Nat) (k : List Int) (wk : Nat) (R : List (Value × List Int)) (h : Pair w0 w b l wl d k wk R) (hi : i < bitsN l.length) (hl : l.length < 1000000) :
    Calls Try.prog 23 #[.pointer (some ⟨b, 0, none⟩), .int .i64 i] w fun e w' => ∃ A C, e = .returned (.slice A (bucketOf l i).length C) ∧ Pair w0 w' b l wl d k wk ((.slice A (bucketOf l i).length C, bucketOf l i) :: R) := by
  have hh := h
  obtain ⟨F, G, h1, h2, h3⟩ := h
  refine (bucketI_in b F i _ _ _ _ w h1 (setB_get l i hi) ?_).mono ?_
  · rw [bucketOf_len]
    split
    · rename_i hb
      have := Nat.ge_two_pow_of_testBit hb
      omega
    · omega
  · rintro e w' ⟨A, C, rfl, hr, hu⟩
    exact ⟨A, C, rfl, hh.more hu hr⟩

end Go.Proofs.Ytkhgglafnjfiaaa
