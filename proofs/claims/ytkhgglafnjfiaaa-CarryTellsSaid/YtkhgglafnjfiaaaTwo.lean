/- A carry and a list that a caller keeps beside it: they lie apart, whatever is done to one. -/
import Derived.Test.YtkhgglafnjfiaaaCarryG
import Derived.Test.YtkhgglafnjfiaaaSetL
namespace Go.Proofs.Ytkhgglafnjfiaaa
open Go.RowKit

/-- Since the world w0 only the carry at b, and new blocks were written; it has now; and v is a row of the caller's own that has l. -/
def Two (w0 wr : World) (b : Nat) (now : List Int) (work : Nat) (v : Value) (l : List Int) : Prop :=
  ∃ F, IsCarry KI wr b F (setB now) now.length work ∧ KI.row wr w0.heap.size v l ∧ (∀ k ∈ blk v, k ∉ F) ∧ Upd [b] w0 wr ∧ ∀ x ∈ F, x = b ∨ w0.heap.size ≤ x

theorem Two.quiet {w0 wr w' : World} {b : Nat} {now : List Int} {work : Nat} {v : Value} {l : List Int} (h : Two w0 wr b now work v l) (hu : Upd [] wr w') : Two w0 w' b now work v l := by
  obtain ⟨F, h1, h2, h3, h4, h5⟩ := h
  exact ⟨F, h1.upd hu (by simp), own_upd h2 hu (by simp), h3, h4.trans' hu (by simp), h5⟩

theorem Two.row {w0 wr : World} {b : Nat} {now : List Int} {work : Nat} {v : Value} {l : List Int} (h : Two w0 wr b now work v l) : KI.row wr w0.heap.size v l := by
  obtain ⟨F, h1, h2, h3, h4, h5⟩ := h
  exact h2

theorem Two.upd {w0 wr : World} {b : Nat} {now : List Int} {work : Nat} {v : Value} {l : List Int} (h : Two w0 wr b now work v l) : Upd [b] w0 wr := by
  obtain ⟨F, h1, h2, h3, h4, h5⟩ := h
  exact h4

/-- The row has been appended to. -/
theorem Two.append {w0 wr w1 : World} {b : Nat} {now : List Int} {work : Nat} {v : Value} {l news : List Int} (h : Two w0 wr b now work v l) {o : Obj} {A : Option Addr} {C m : Nat} (hm : m = news.length)
    (HP : AppPost (wr.alloc o) w1 w0.heap.size KI.eT 1 v l.length (KI.all l) m (KI.all news) A C) : Two w0 w1 b now work (.slice A (l.length + m) C) (l ++ news) := by
  subst hm
  obtain ⟨F, h1, h2, h3, h4, h5⟩ := h
  have hu : Upd (blk v) wr w1 := ((Upd.refl _ _).alloc _).trans HP.upd
  refine ⟨F, h1.upd hu (fun k hk hc => h3 k hc hk), ?_, ?_, h4.trans' hu (fun k hk => .inr (own_ge h2 k hk)), h5⟩
  · unfold Kind.row
    rw [List.length_append, Kind.all_app]
    exact HP.own
  · intro k hk hF
    rcases HP.at with h' | h'
    · rw [h'] at hk; exact h3 k hk hF
    · rw [h'] at hk
      simp at hk
      have := h1.lt k hF
      omega

/-- Another row, a new one, in its place. -/
theorem Two.other {w0 wr w1 : World} {b : Nat} {now : List Int} {work : Nat} {v v' : Value} {l l' : List Int} (h : Two w0 wr b now work v l) (hu : Upd [] wr w1) (hr : KI.row w1 wr.heap.size v' l') : Two w0 w1 b now work v' l' := by
  obtain ⟨F, h1, h2, h3, h4, h5⟩ := h
  refine ⟨F, h1.upd hu (by simp), own_base hr h4.size, ?_, h4.trans' hu (by simp), h5⟩
  intro k hk hF
  have := h1.lt k hF
  have := own_ge hr k hk
  omega

theorem Two.start {w : World} {b : Nat} (h : IsCarry KI w b [b] [] 0 0) : Two w w b [] 0 (.slice none 0 0) [] :=
  ⟨[b], by rw [setB_nil]; exact h, World.ownsRow_nil _ _ _ _, by simp [blk], Upd.refl _ _, by simp⟩

theorem Two.step {w0 wr w' : World} {b : Nat} {now' : List Int} {work' : Nat} {v : Value} {l : List Int} {F F' : List Nat} (h2 : KI.row wr w0.heap.size v l) (h3 : ∀ k ∈ blk v, k ∉ F) (h4 : Upd [b] w0 wr) (h5 : ∀ x ∈ F, x = b ∨ w0.heap.size ≤ x)
    (h6 : IsCarry KI w' b F' (setB now') now'.length work') (h7 : Upd F wr w') (h8 : ∀ k ∈ F', k ∈ F ∨ wr.heap.size ≤ k) : Two w0 w' b now' work' v l := by
  refine ⟨F', h6, own_upd h2 h7 h3, ?_, h4.trans' h7 ?_, ?_⟩
  · intro k hk hF
    rcases h8 k hF with h9 | h9
    · exact h3 k hk h9
    · have := own_lt h2 k hk; omega
  · intro x hx
    rcases h5 x hx with h9 | h9
    · exact .inl (by simp [h9])
    · exact .inr h9
  · intro x hx
    rcases h8 x hx with h9 | h9
    · exact h5 x h9
    · exact .inr (Nat.le_trans h4.size h9)

theorem addT (w0 w : World) (b : Nat) (x : Int) (now l : List Int) (work : Nat) (v : Value) (h : Two w0 w b now work v l) (hl : now.length < 500000) (hw : work < 1099511627776) :
    Calls Try.prog 16 #[.pointer (some ⟨b, 0, none⟩), .int .i64 x] w fun e w' => ∃ A C, e = .returned (.tuple #[.int .i64 (firstE (setB now)), .slice A (2 ^ firstE (setB now)) C]) ∧
      Two w0 w' b (now ++ [x]) (work + 2 ^ firstE (setB now)) v l ∧ KI.row w' w.heap.size (.slice A (2 ^ firstE (setB now)) C) (gath (setB now) x) := by
  obtain ⟨F, h1, h2, h3, h4, h5⟩ := h
  have hg := (gath_set now x).2
  refine (addI b F x _ _ _ w h1 (by rw [setB_len]; have := bitsN_le now.length 20 (by omega); omega) (by rw [setB_flat]; omega) (by omega) hw).mono ?_
  rintro e w' ⟨A, C, rfl, F', h6, h7, h8, h9, _⟩
  rw [hg] at h6 h9 ⊢
  rw [add_set] at h6
  exact ⟨A, C, rfl, Two.step h2 h3 h4 h5 (by rw [List.length_append]; exact h6) h7 h8, h9⟩

theorem setT (w0 w : World) (b : Nat) (s : Value) (now l other : List Int) (work : Nat) (v : Value) (h : Two w0 w b now work v l) (hs : Ints w s other) (hsb : 0 < other.length → ∀ k ∈ blk s, k < w0.heap.size ∧ k ≠ b) (hl : other.length < 500000) (hw : work < 1099511627776) :
    Calls Try.prog 14 #[.pointer (some ⟨b, 0, none⟩), s] w fun e w' => e = .returned (.int .i64 other.length) ∧ Two w0 w' b other (work + other.length) v l := by
  obtain ⟨F, h1, h2, h3, h4, h5⟩ := h
  refine (setI b F s other _ _ _ w h1 hs (fun h0 k hk hF => ?_) (by omega) hw).mono ?_
  · have := hsb h0 k hk
    rcases h5 k hF with h9 | h9 <;> omega
  rintro e w' ⟨rfl, F', h6, h7, h8⟩
  exact ⟨rfl, Two.step h2 h3 h4 h5 h6 h7 h8⟩

theorem workT (w0 w : World) (b : Nat) (now l : List Int) (work : Nat) (v : Value) (h : Two w0 w b now work v l) :
    Calls Try.prog 19 #[.pointer (some ⟨b, 0, none⟩)] w fun e w' => e = .returned (.int .i64 work) ∧ w = w' := by
  obtain ⟨F, h1, h2, h3⟩ := h
  exact workI _ _ _ _ _ _ h1

end Go.Proofs.Ytkhgglafnjfiaaa
