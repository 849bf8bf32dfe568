/- One carry, and rows of the caller's own beside it, all of which lie apart. -/
import Derived.Test.YtkhgglafnjfiaaaPair
namespace Go.Proofs.Ytkhgglafnjfiaaa
open Go.RowKit

/-- Two values' blocks lie apart. -/
def Far (u v : Value) : Prop := ∀ x ∈ blk u, x ∉ blk v

/-- Since the world w0 only the carry at b, and new blocks were written; it has l; beside it lie rows, which have what is listed, each apart from all else. -/
def One (w0 wr : World) (b : Nat) (l : List Int) (wl : Nat) (R : List (Value × List Int)) : Prop :=
  ∃ F, IsCarry KI wr b F (setB l) l.length wl ∧ Upd [b] w0 wr ∧ (∀ x ∈ F, x = b ∨ w0.heap.size ≤ x) ∧ (∀ r ∈ R, KI.row wr w0.heap.size r.1 r.2 ∧ ∀ x ∈ blk r.1, x ∉ F) ∧ R.Pairwise (fun r s => Far r.1 s.1)

theorem One.start {w : World} {b : Nat} (h : IsCarry KI w b [b] [] 0 0) : One w w b [] 0 [] :=
  ⟨[b], by rw [setB_nil]; exact h, Upd.refl _ _, by simp, by simp, List.Pairwise.nil⟩

theorem One.upd {w0 wr : World} {b : Nat} {l : List Int} {wl : Nat} {R : List (Value × List Int)} (h : One w0 wr b l wl R) : Upd [b] w0 wr := by
  obtain ⟨F, h1, h2, h3, h4, h5⟩ := h
  exact h2

theorem One.row {w0 wr : World} {b : Nat} {l : List Int} {wl : Nat} {R : List (Value × List Int)} (h : One w0 wr b l wl R) {v : Value} {g : List Int} (hr : (v, g) ∈ R) : KI.row wr w0.heap.size v g := by
  obtain ⟨F, h1, h2, h3, h4, h5⟩ := h
  exact (h4 _ hr).1

theorem One.ints {w0 wr : World} {b : Nat} {l : List Int} {wl : Nat} {R : List (Value × List Int)} (h : One w0 wr b l wl R) {v : Value} {g : List Int} (hr : (v, g) ∈ R) : Ints wr v g := Ints.of_row (h.row hr)

theorem One.sub {w0 wr : World} {b : Nat} {l : List Int} {wl : Nat} {R R' : List (Value × List Int)} (h : One w0 wr b l wl R) (hs : R'.Sublist R) : One w0 wr b l wl R' := by
  obtain ⟨F, h1, h2, h3, h4, h5⟩ := h
  exact ⟨F, h1, h2, h3, fun r hr => h4 r (hs.subset hr), h5.sublist hs⟩

theorem One.swap {w0 wr : World} {b : Nat} {l : List Int} {wl : Nat} {r s : Value × List Int} {R : List (Value × List Int)} (h : One w0 wr b l wl (r :: s :: R)) : One w0 wr b l wl (s :: r :: R) := by
  obtain ⟨F, h1, h2, h3, h4, h5⟩ := h
  refine ⟨F, h1, h2, h3, fun q hq => h4 q (by simp at hq ⊢; rcases hq with h | h | h <;> simp [h]), ?_⟩
  rw [List.pairwise_cons, List.pairwise_cons] at h5 ⊢
  obtain ⟨h6, h7, h8⟩ := h5
  refine ⟨fun q hq => ?_, fun q hq => h6 q (by simp [hq]), h8⟩
  rcases List.mem_cons.1 hq with rfl | hq
  · exact fun x hx hc => h6 s (by simp) x hc hx
  · exact h7 q hq

theorem One.quiet {w0 wr w' : World} {b : Nat} {l : List Int} {wl : Nat} {R : List (Value × List Int)} (h : One w0 wr b l wl R) (hu : Upd [] wr w') : One w0 w' b l wl R := by
  obtain ⟨F, h1, h2, h3, h4, h5⟩ := h
  exact ⟨F, h1.upd hu (by simp), h2.trans' hu (by simp), h3, fun r hr => ⟨own_upd (h4 r hr).1 hu (by simp), (h4 r hr).2⟩, h5⟩

/-- A new row beside them. -/
theorem One.more {w0 wr w' : World} {b : Nat} {l : List Int} {wl : Nat} {R : List (Value × List Int)} (h : One w0 wr b l wl R) (hu : Upd [] wr w') {v : Value} {g : List Int} (hr : KI.row w' wr.heap.size v g) : One w0 w' b l wl ((v, g) :: R) := by
  have hh := h.quiet hu
  obtain ⟨F, h1, h2, h3, h4, h5⟩ := h
  refine ⟨F, h1.upd hu (by simp), h2.trans' hu (by simp), h3, fun r hr' => ?_, ?_⟩
  · rcases List.mem_cons.1 hr' with rfl | hr'
    · refine ⟨own_base hr h2.size, fun x hx hc => ?_⟩
      have := own_ge hr x hx
      have := h1.lt x hc
      omega
    · exact ⟨own_upd (h4 r hr').1 hu (by simp), (h4 r hr').2⟩
  · rw [List.pairwise_cons]
    refine ⟨fun s hs x hx hc => ?_, h5⟩
    have := own_ge hr x hx
    have := own_lt (h4 s hs).1 x hc
    omega

/-- The first row is written, and lies where it lay, or in a new block. -/
theorem One.write {w0 wr w' : World} {b : Nat} {l : List Int} {wl : Nat} {R : List (Value × List Int)} {v v' : Value} {g g' : List Int} (h : One w0 wr b l wl ((v, g) :: R)) (hu : Upd (blk v) wr w') (hr : KI.row w' 0 v' g')
    (hb : ∀ x ∈ blk v', x ∈ blk v ∨ wr.heap.size ≤ x) : One w0 w' b l wl ((v', g') :: R) := by
  obtain ⟨F, h1, h2, h3, h4, h5⟩ := h
  rw [List.pairwise_cons] at h5
  obtain ⟨h6, h7⟩ := h5
  obtain ⟨h8, h9⟩ := h4 (v, g) (by simp)
  refine ⟨F, h1.upd hu (fun x hx hc => h9 x hc hx), h2.trans' hu (fun x hx => .inr (own_ge h8 x hx)), h3, fun r hr' => ?_, ?_⟩
  · rcases List.mem_cons.1 hr' with rfl | hr'
    · refine ⟨?_, fun x hx hc => ?_⟩
      · refine ⟨hr.1, ?_⟩
        rcases hr.2 with h0 | ⟨q, cap, cur, e, _, e2⟩
        · exact .inl h0
        · refine .inr ⟨q, cap, cur, e, ?_, e2⟩
          have := hb q (by rw [e]; simp [blk])
          rcases this with h0 | h0
          · exact own_ge h8 q h0
          · exact Nat.le_trans h2.size h0
      · rcases hb x hx with h0 | h0
        · exact h9 x h0 hc
        · have := h1.lt x hc; omega
    · have hs := h6 r hr'
      exact ⟨own_upd (h4 r (by simp [hr'])).1 hu (fun x hx hc => hs x hc hx), (h4 r (by simp [hr'])).2⟩
  · rw [List.pairwise_cons]
    refine ⟨fun s hs x hx hc => ?_, h7⟩
    rcases hb x hx with h0 | h0
    · exact h6 s hs x h0 hc
    · have := own_lt (h4 s (by simp [hs])).1 x hc; omega

/-- A number of the first row is stored. -/
theorem One.store {w0 wr : World} {b : Nat} {l : List Int} {wl : Nat} {R : List (Value × List Int)} {q n C : Nat} {g : List Int} (h : One w0 wr b l wl ((.slice (some ⟨q, 0, none⟩) n C, g) :: R)) (i : Nat) (x : Int) :
    One w0 (wr.setCell ⟨q, i, none⟩ (.int .i64 x)) b l wl ((.slice (some ⟨q, 0, none⟩) n C, g.set i x) :: R) := by
  have hrow := h.row (v := .slice (some ⟨q, 0, none⟩) n C) (g := g) (by simp)
  have hn : n = g.length := by
    obtain ⟨A', C', he⟩ := own_form hrow
    cases he; rfl
  subst hn
  refine h.write ((Upd.refl _ _).setCell (p := ⟨q, i, none⟩) (.inl (by simp [blk])) _) ?_ (fun x hx => .inl hx)
  have hst := (World.ownsRow.stored hrow i (.int .i64 x)).1
  have := own_base hst (Nat.zero_le _)
  unfold Kind.row
  rw [List.length_set, KI_all, List.map_set, ← KI_all]
  exact this

/-- The first row has been appended to. -/
theorem One.append {w0 wr w1 : World} {b : Nat} {l : List Int} {wl : Nat} {R : List (Value × List Int)} {v : Value} {g news : List Int} (h : One w0 wr b l wl ((v, g) :: R)) {o : Obj} {A : Option Addr} {C m base : Nat} (hm : m = news.length)
    (HP : AppPost (wr.alloc o) w1 base KI.eT 1 v g.length (KI.all g) m (KI.all news) A C) : One w0 w1 b l wl ((.slice A (g.length + m) C, g ++ news) :: R) := by
  subst hm
  refine h.write (((Upd.refl _ _).alloc _).trans HP.upd) ?_ ?_
  · unfold Kind.row
    rw [List.length_append, Kind.all_app]
    exact own_base HP.own (Nat.zero_le _)
  · intro x hx
    rcases HP.at with h' | h'
    · rw [h'] at hx; exact .inl hx
    · rw [h'] at hx; simp at hx; right; omega

/-- The same where nothing was laid before. -/
theorem One.append0 {w0 wr w1 : World} {b : Nat} {l : List Int} {wl : Nat} {R : List (Value × List Int)} {v : Value} {g news : List Int} (h : One w0 wr b l wl ((v, g) :: R)) {A : Option Addr} {C m base : Nat} (hm : m = news.length)
    (HP : AppPost wr w1 base KI.eT 1 v g.length (KI.all g) m (KI.all news) A C) : One w0 w1 b l wl ((.slice A (g.length + m) C, g ++ news) :: R) := by
  subst hm
  refine h.write HP.upd ?_ ?_
  · unfold Kind.row
    rw [List.length_append, Kind.all_app]
    exact own_base HP.own (Nat.zero_le _)
  · intro x hx
    rcases HP.at with h' | h'
    · rw [h'] at hx; exact .inl hx
    · rw [h'] at hx; simp at hx; right; omega

theorem One.step {w0 wr w' : World} {b : Nat} {l' : List Int} {wl' : Nat} {R : List (Value × List Int)} {F F' : List Nat} (h2 : Upd [b] w0 wr) (h3 : ∀ x ∈ F, x = b ∨ w0.heap.size ≤ x) (h4 : ∀ r ∈ R, KI.row wr w0.heap.size r.1 r.2 ∧ ∀ x ∈ blk r.1, x ∉ F) (h5 : R.Pairwise (fun r s => Far r.1 s.1))
    (h7 : IsCarry KI w' b F' (setB l') l'.length wl') (h8 : Upd F wr w') (h9 : ∀ x ∈ F', x ∈ F ∨ wr.heap.size ≤ x) : One w0 w' b l' wl' R := by
  refine ⟨F', h7, h2.trans' h8 ?_, ?_, fun r hr => ⟨own_upd (h4 r hr).1 h8 (h4 r hr).2, fun x hx hc => ?_⟩, h5⟩
  · intro x hx
    rcases h3 x hx with h | h
    · exact .inl (by simp [h])
    · exact .inr h
  · intro x hx
    rcases h9 x hx with h | h
    · exact h3 x h
    · exact .inr (Nat.le_trans h2.size h)
  · rcases h9 x hc with h | h
    · exact (h4 r hr).2 x hx h
    · have := own_lt (h4 r hr).1 x hx; omega

theorem addO (w0 w : World) (b : Nat) (x : Int) (l : List Int) (wl : Nat) (R : List (Value × List Int)) (h : One w0 w b l wl R) (hl : l.length < 500000) (hw : wl < 1099511627776) :
    Calls Try.prog 16 #[.pointer (some ⟨b, 0, none⟩), .int .i64 x] w fun e w' => ∃ A C, e = .returned (.tuple #[.int .i64 (firstE (setB l)), .slice A (2 ^ firstE (setB l)) C]) ∧
      One w0 w' b (l ++ [x]) (wl + 2 ^ firstE (setB l)) ((.slice A (2 ^ firstE (setB l)) C, gath (setB l) x) :: R) := by
  obtain ⟨F, h1, h2, h3, h4, h5⟩ := h
  have hg := (gath_set l x).2
  refine (addI b F x _ _ _ w h1 (by rw [setB_len]; have := bitsN_le l.length 20 (by omega); omega) (by rw [setB_flat]; omega) (by omega) hw).mono ?_
  rintro e w' ⟨A, C, rfl, F', h7, h8, h9, h10, h11⟩
  rw [hg] at h7 h10 h11 ⊢
  rw [add_set] at h7
  have hst := One.step (R := R) h2 h3 h4 h5 (by rw [List.length_append]; exact h7) h8 h9
  refine ⟨A, C, rfl, F', by rw [List.length_append]; exact h7, hst.upd, ?_, ?_, ?_⟩
  · intro x hx
    rcases h9 x hx with h | h
    · exact h3 x h
    · exact .inr (Nat.le_trans h2.size h)
  · intro r hr
    rcases List.mem_cons.1 hr with rfl | hr
    · exact ⟨own_base h10 h2.size, h11⟩
    · refine ⟨hst.row hr, fun x hx hc => ?_⟩
      rcases h9 x hc with h | h
      · exact (h4 r hr).2 x hx h
      · have := own_lt (h4 r hr).1 x hx; omega
  · rw [List.pairwise_cons]
    refine ⟨fun s hs x hx hc => ?_, h5⟩
    have := own_ge h10 x hx
    have := own_lt (h4 s hs).1 x hc
    omega

/-- Set: what is set lies apart from the carry. -/
theorem setO (w0 w : World) (b : Nat) (s : Value) (l o : List Int) (wl : Nat) (R : List (Value × List Int)) (h : One w0 w b l wl R) (hs : Ints w s o) (hsb : (s, o) ∈ R ∨ (0 < o.length → ∀ x ∈ blk s, x < w0.heap.size ∧ x ≠ b)) (hl : o.length < 500000) (hw : wl < 1099511627776) :
    Calls Try.prog 14 #[.pointer (some ⟨b, 0, none⟩), s] w fun e w' => e = .returned (.int .i64 o.length) ∧ One w0 w' b o (wl + o.length) R := by
  obtain ⟨F, h1, h2, h3, h4, h5⟩ := h
  refine (setI b F s o _ _ _ w h1 hs (fun h0 x hx hF => ?_) (by omega) hw).mono ?_
  · rcases hsb with hsb | hsb
    · exact (h4 _ hsb).2 x hx hF
    · have := hsb h0 x hx
      rcases h3 x hF with h9 | h9 <;> omega
  rintro e w' ⟨rfl, F', h7, h8, h9⟩
  exact ⟨rfl, One.step (R := R) h2 h3 h4 h5 h7 h8 h9⟩

theorem workO (w0 w : World) (b : Nat) (l : List Int) (wl : Nat) (R : List (Value × List Int)) (h : One w0 w b l wl R) :
    Calls Try.prog 19 #[.pointer (some ⟨b, 0, none⟩)] w fun e w' => e = .returned (.int .i64 wl) ∧ w = w' := by
  obtain ⟨F, h1, h2⟩ := h
  exact workI _ _ _ _ _ _ h1

theorem lenO (w0 w : World) (b : Nat) (l : List Int) (wl : Nat) (R : List (Value × List Int)) (h : One w0 w b l wl R) :
    Calls Try.prog 22 #[.pointer (some ⟨b, 0, none⟩)] w fun e w' => e = .returned (.int .i64 l.length) ∧ w = w' := by
  obtain ⟨F, h1, h2⟩ := h
  exact lenI _ _ _ _ _ _ h1

theorem levelsO (w0 w : World) (b : Nat) (l : List Int) (wl : Nat) (R : List (Value × List Int)) (h : One w0 w b l wl R) :
    Calls Try.prog 21 #[.pointer (some ⟨b, 0, none⟩)] w fun e w' => e = .returned (.int .i64 (bitsN l.length)) ∧ w = w' := by
  obtain ⟨F, h1, h2⟩ := h
  have := levelsI _ _ _ _ _ _ h1
  rw [setB_len] at this
  exact this

theorem bucket_le (l : List Int) (i : Nat) : (bucketOf l i).length ≤ l.length := by
  rw [bucketOf_len]
  split
  · rename_i hb
    exact Nat.ge_two_pow_of_testBit hb
  · omega

theorem bucketO (w0 w : World) (b i : Nat) (l : List Int) (wl : Nat) (R : List (Value × List Int)) (h : One w0 w b l wl R) (hi : i < bitsN l.length) (hl : l.length < 1000000) :
    Calls Try.prog 23 #[.pointer (some ⟨b, 0, none⟩), .int .i64 i] w fun e w' => ∃ A C, e = .returned (.slice A (bucketOf l i).length C) ∧ One w0 w' b l wl ((.slice A (bucketOf l i).length C, bucketOf l i) :: R) := by
  have hh := h
  obtain ⟨F, h1, h2⟩ := h
  refine (bucketI_in b F i _ _ _ _ w h1 (setB_get l i hi) (by have := bucket_le l i; omega)).mono ?_
  rintro e w' ⟨A, C, rfl, hr, hu⟩
  exact ⟨A, C, rfl, hh.more hu hr⟩

end Go.Proofs.Ytkhgglafnjfiaaa
