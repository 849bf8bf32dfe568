/- A carry of bytes and a carry of strings that lie apart; and what a map does to buckets. -/
import Derived.Test.YtkhgglafnjfiaaaCarryH
import Derived.Test.YtkhgglafnjfiaaaCarryGB8
import Derived.Test.YtkhgglafnjfiaaaCarryGStr
import Derived.Test.YtkhgglafnjfiaaaSameB8
import Derived.Test.YtkhgglafnjfiaaaSameStr
import Derived.Test.YtkhgglafnjfiaaaSetL
namespace Go.Proofs.Ytkhgglafnjfiaaa
open Go.RowKit

section plain
variable {α β : Type} (f : α → β)

theorem bucketOf_map (l : List α) (i : Nat) : bucketOf (l.map f) i = (bucketOf l i).map f := by
  unfold bucketOf
  rw [List.length_map]
  split <;> simp [List.map_take, List.map_drop]

theorem setB_map (l : List α) : setB (l.map f) = (setB l).map (List.map f) := by
  unfold setB
  rw [List.length_map, List.map_map]
  exact List.map_congr_left fun i _ => bucketOf_map f l i

theorem firstE_map (bs : List (List α)) : firstE (bs.map (List.map f)) = firstE bs := by
  induction bs with
  | nil => rfl
  | cons a r ih => simp only [List.map_cons, firstE, List.isEmpty_map, ih]

theorem gath_map (bs : List (List α)) (x : α) : gath (bs.map (List.map f)) (f x) = (gath bs x).map f := by
  unfold gath
  rw [firstE_map, List.map_append, ← List.map_take, ← List.map_reverse, List.map_flatten]
  rfl
end plain

/-- Since the world w0 only new blocks were written; the carries at b and d have l and k, and lie apart; beside them lie rows. -/
def Both (w0 wr : World) (b : Nat) (l : List Int) (wl : Nat) (d : Nat) (k : List ByteArray) (wk : Nat) (R : List (Value × List Int)) (S : List (Value × List ByteArray)) : Prop :=
  ∃ F G, IsCarry B8.KI wr b F (setB l) l.length wl ∧ IsCarry Str.KI wr d G (setB k) k.length wk ∧ (∀ x ∈ F, x ∉ G) ∧ Upd [] w0 wr ∧ (∀ x ∈ F, w0.heap.size ≤ x) ∧ (∀ x ∈ G, w0.heap.size ≤ x) ∧
    (∀ r ∈ R, B8.KI.row wr 0 r.1 r.2 ∧ ∀ x ∈ blk r.1, x ∉ F ∧ x ∉ G) ∧ ∀ r ∈ S, Str.KI.row wr 0 r.1 r.2 ∧ ∀ x ∈ blk r.1, x ∉ F ∧ x ∉ G

variable {w0 wr w' : World} {b : Nat} {l : List Int} {wl d : Nat} {k : List ByteArray} {wk : Nat} {R : List (Value × List Int)} {S : List (Value × List ByteArray)}

theorem Both.upd (h : Both w0 wr b l wl d k wk R S) : Upd [] w0 wr := by
  obtain ⟨F, G, h1, h2, h3, h4, h5⟩ := h
  exact h4

theorem Both.quiet (h : Both w0 wr b l wl d k wk R S) (hu : Upd [] wr w') : Both w0 w' b l wl d k wk R S := by
  obtain ⟨F, G, h1, h2, h3, h4, h5, h6, h7, h8⟩ := h
  exact ⟨F, G, h1.upd hu (by simp), h2.upd hu (by simp), h3, h4.trans hu, h5, h6, fun r hr => ⟨own_upd (h7 r hr).1 hu (by simp), (h7 r hr).2⟩, fun r hr => ⟨own_upd (h8 r hr).1 hu (by simp), (h8 r hr).2⟩⟩

theorem Both.none (h : Both w0 wr b l wl d k wk R S) : Both w0 wr b l wl d k wk [] [] := by
  obtain ⟨F, G, h1, h2, h3, h4, h5, h6, h7, h8⟩ := h
  exact ⟨F, G, h1, h2, h3, h4, h5, h6, by simp, by simp⟩

theorem Both.rowB (h : Both w0 wr b l wl d k wk R S) {v : Value} {g : List Int} (hr : (v, g) ∈ R) : B8.Ints wr v g := by
  obtain ⟨F, G, h1, h2, h3, h4, h5, h6, h7, h8⟩ := h
  exact B8.Ints.of_row (h7 _ hr).1

theorem Both.rowS (h : Both w0 wr b l wl d k wk R S) {v : Value} {g : List ByteArray} (hr : (v, g) ∈ S) : Str.Ints wr v g := by
  obtain ⟨F, G, h1, h2, h3, h4, h5, h6, h7, h8⟩ := h
  exact Str.Ints.of_row (h8 _ hr).1

theorem addBoth1 (x : Int) (h : Both w0 wr b l wl d k wk R S) (hl : l.length < 500000) (hw : wl < 1099511627776) :
    Calls Try.prog 27 #[.pointer (some ⟨b, 0, none⟩), .int .u8 x] wr fun e w' => ∃ A C, e = .returned (.tuple #[.int .i64 (firstE (setB l)), .slice A (2 ^ firstE (setB l)) C]) ∧
      Both w0 w' b (l ++ [x]) (wl + 2 ^ firstE (setB l)) d k wk ((.slice A (2 ^ firstE (setB l)) C, gath (setB l) x) :: R) S := by
  obtain ⟨F, G, h1, h2, h3, h4, h5, h6, h7, h8⟩ := h
  have hg := (gath_set l x).2
  refine (B8.addI b F x _ _ _ wr h1 (by rw [setB_len]; have := bitsN_le l.length 20 (by omega); omega) (by rw [setB_flat]; omega) (by omega) hw).mono ?_
  rintro e w' ⟨A, C, rfl, F', g1, g2, g3, g4, g5⟩
  rw [hg] at g1 g4 g5 ⊢
  rw [add_set] at g1
  have hF' : ∀ x ∈ F', x ∈ F ∨ wr.heap.size ≤ x := g3
  refine ⟨A, C, rfl, F', G, by rw [List.length_append]; exact g1, h2.upd g2 (fun x hx hc => h3 x hc hx), ?_, h4.trans' g2 (fun x hx => .inr (h5 x hx)), ?_, h6, ?_, ?_⟩
  · intro x hx hc
    rcases hF' x hx with h | h
    · exact h3 x h hc
    · have := h2.lt x hc; omega
  · intro x hx
    rcases hF' x hx with h | h
    · exact h5 x h
    · exact Nat.le_trans h4.size h
  · intro r hr
    rcases List.mem_cons.1 hr with rfl | hr
    · refine ⟨own_base g4 (Nat.zero_le _), fun x hx => ⟨g5 x hx, fun hc => ?_⟩⟩
      have := own_ge g4 x hx
      have := h2.lt x hc
      omega
    · refine ⟨own_upd (h7 r hr).1 g2 fun x hx => ((h7 r hr).2 x hx).1, fun x hx => ⟨fun hc => ?_, ((h7 r hr).2 x hx).2⟩⟩
      rcases hF' x hc with h | h
      · exact ((h7 r hr).2 x hx).1 h
      · have := own_lt (h7 r hr).1 x hx; omega
  · intro r hr
    refine ⟨own_upd (h8 r hr).1 g2 fun x hx => ((h8 r hr).2 x hx).1, fun x hx => ⟨fun hc => ?_, ((h8 r hr).2 x hx).2⟩⟩
    rcases hF' x hc with h | h
    · exact ((h8 r hr).2 x hx).1 h
    · have := own_lt (h8 r hr).1 x hx; omega

theorem addBoth2 (x : ByteArray) (h : Both w0 wr b l wl d k wk R S) (hl : k.length < 500000) (hw : wk < 1099511627776) :
    Calls Try.prog 28 #[.pointer (some ⟨d, 0, none⟩), .string x] wr fun e w' => ∃ A C, e = .returned (.tuple #[.int .i64 (firstE (setB k)), .slice A (2 ^ firstE (setB k)) C]) ∧
      Both w0 w' b l wl d (k ++ [x]) (wk + 2 ^ firstE (setB k)) R ((.slice A (2 ^ firstE (setB k)) C, gath (setB k) x) :: S) := by
  obtain ⟨F, G, h1, h2, h3, h4, h5, h6, h7, h8⟩ := h
  have hg := (gath_set k x).2
  refine (Str.addI d G x _ _ _ wr h2 (by rw [setB_len]; have := bitsN_le k.length 20 (by omega); omega) (by rw [setB_flat]; omega) (by omega) hw).mono ?_
  rintro e w' ⟨A, C, rfl, F', g1, g2, g3, g4, g5⟩
  rw [hg] at g1 g4 g5 ⊢
  rw [add_set] at g1
  have hF' : ∀ x ∈ F', x ∈ G ∨ wr.heap.size ≤ x := g3
  refine ⟨A, C, rfl, F, F', h1.upd g2 (fun x hx hc => h3 x hx hc), by rw [List.length_append]; exact g1, ?_, h4.trans' g2 (fun x hx => .inr (h6 x hx)), h5, ?_, ?_, ?_⟩
  · intro x hx hc
    rcases hF' x hc with h | h
    · exact h3 x hx h
    · have := h1.lt x hx; omega
  · intro x hx
    rcases hF' x hx with h | h
    · exact h6 x h
    · exact Nat.le_trans h4.size h
  · intro r hr
    refine ⟨own_upd (h7 r hr).1 g2 fun x hx => ((h7 r hr).2 x hx).2, fun x hx => ⟨((h7 r hr).2 x hx).1, fun hc => ?_⟩⟩
    rcases hF' x hc with h | h
    · exact ((h7 r hr).2 x hx).2 h
    · have := own_lt (h7 r hr).1 x hx; omega
  · intro r hr
    rcases List.mem_cons.1 hr with rfl | hr
    · refine ⟨own_base g4 (Nat.zero_le _), fun x hx => ⟨fun hc => ?_, g5 x hx⟩⟩
      have := own_ge g4 x hx
      have := h1.lt x hc
      omega
    · refine ⟨own_upd (h8 r hr).1 g2 fun x hx => ((h8 r hr).2 x hx).2, fun x hx => ⟨((h8 r hr).2 x hx).1, fun hc => ?_⟩⟩
      rcases hF' x hc with h | h
      · exact ((h8 r hr).2 x hx).2 h
      · have := own_lt (h8 r hr).1 x hx; omega

theorem workBoth1 (h : Both w0 wr b l wl d k wk R S) :
    Calls Try.prog 29 #[.pointer (some ⟨b, 0, none⟩)] wr fun e w' => e = .returned (.int .i64 wl) ∧ wr = w' := by
  obtain ⟨F, G, h1, h2⟩ := h
  exact B8.workI _ _ _ _ _ _ h1

theorem workBoth2 (h : Both w0 wr b l wl d k wk R S) :
    Calls Try.prog 30 #[.pointer (some ⟨d, 0, none⟩)] wr fun e w' => e = .returned (.int .i64 wk) ∧ wr = w' := by
  obtain ⟨F, G, h1, h2, h3⟩ := h
  exact Str.workI _ _ _ _ _ _ h2
end Go.Proofs.Ytkhgglafnjfiaaa
