/- Two Halves beside each other; what is alive and stored as unlike things come, and go. -/
import Derived.Test.YtkhgglafnjfiaaaTreesP
namespace Go.Proofs.Ytkhgglafnjfiaaa
open Go.RowKit

/-- Since W: two Halves; the blocks G are not theirs. -/
def H2 (W wr : World) (ha hb : Value) (Sa Sb : HS) (G : List Nat) : Prop :=
  ∃ Fa Fb, IsHalf wr ha Fa Sa ∧ IsHalf wr hb Fb Sb ∧ Upd [] W wr ∧ (∀ x ∈ Fa, W.heap.size ≤ x) ∧ (∀ x ∈ Fb, W.heap.size ≤ x) ∧ (∀ x ∈ Fa, x ∉ Fb) ∧ ∀ x ∈ G, W.heap.size ≤ x ∧ x < wr.heap.size ∧ x ∉ Fa ∧ x ∉ Fb

variable {W wr w' : World} {ha hb : Value} {Sa Sb : HS} {G G' : List Nat}

theorem H2.up (h : H2 W wr ha hb Sa Sb G) : Upd [] W wr := by
  obtain ⟨_, _, _, _, h2, _⟩ := h
  exact h2

theorem H2.swap (h : H2 W wr ha hb Sa Sb G) : H2 W wr hb ha Sb Sa G := by
  obtain ⟨Fa, Fb, h1, h2, h3, h4, h5, h6, h7⟩ := h
  exact ⟨Fb, Fa, h2, h1, h3, h5, h4, fun x hx hc => h6 x hc hx, fun x hx => by obtain ⟨a, b, c, d⟩ := h7 x hx; exact ⟨a, b, d, c⟩⟩

theorem H2.write (h : H2 W wr ha hb Sa Sb G) {P : List Nat} (hu : Upd P wr w') (hP : ∀ x ∈ P, x ∈ G) (hG : ∀ x ∈ G', x ∈ G ∨ (wr.heap.size ≤ x ∧ x < w'.heap.size)) : H2 W w' ha hb Sa Sb G' := by
  obtain ⟨Fa, Fb, h1, h2, h3, h4, h5, h6, h7⟩ := h
  refine ⟨Fa, Fb, h1.upd hu (fun x hx hc => (h7 x (hP x hc)).2.2.1 hx), h2.upd hu (fun x hx hc => (h7 x (hP x hc)).2.2.2 hx), h3.trans' hu (fun x hx => .inr (h7 x (hP x hx)).1), h4, h5, h6, fun x hx => ?_⟩
  rcases hG x hx with g | ⟨g1, g2⟩
  · obtain ⟨a, b, c, d⟩ := h7 x g
    exact ⟨a, Nat.lt_of_lt_of_le b hu.size, c, d⟩
  · exact ⟨Nat.le_trans h3.size g1, g2, fun hc => by have := h1.lt x hc; omega, fun hc => by have := h2.lt x hc; omega⟩

theorem H2.quiet (h : H2 W wr ha hb Sa Sb G) (hu : Upd [] wr w') : H2 W w' ha hb Sa Sb G := h.write hu (by simp) (fun x hx => .inl hx)

theorem H2.step (h : H2 W wr ha hb Sa Sb G) : ∃ Fa, HStep wr wr ha Fa Sa ∧ ∀ (w' : World) (S' : HS), HStep wr w' ha Fa S' → H2 W w' ha hb S' Sb G ∧ Kept G wr w' := by
  obtain ⟨Fa, Fb, h1, h2, h3, h4, h5, h6, h7⟩ := h
  refine ⟨Fa, HStep.refl h1, fun w' S' ⟨F', g1, g2, g3⟩ => ⟨⟨F', Fb, g1, h2.upd g2 (fun x hx hc => h6 x hc hx), h3.trans' g2 fun x hx => .inr (h4 x hx), fun x hx => ?_, h5, fun x hx hc => ?_, fun x hx => ?_⟩, g2.size, fun x hx => ?_⟩⟩
  · rcases g3 x hx with g | g
    · exact h4 x g
    · exact Nat.le_trans h3.size g
  · rcases g3 x hx with g | g
    · exact h6 x g hc
    · have := h2.lt x hc; omega
  · obtain ⟨a, b, c, d⟩ := h7 x hx
    refine ⟨a, Nat.lt_of_lt_of_le b g2.size, fun hc => ?_, d⟩
    rcases g3 x hc with g | g
    · exact c g
    · omega
  · obtain ⟨a, b, c, d⟩ := h7 x hx
    exact g2.block x b c

theorem H2.hg (h : H2 W wr ha hb Sa Sb G) : HG W wr ha Sa G := by
  obtain ⟨Fa, Fb, h1, h2, h3, h4, h5, h6, h7⟩ := h
  exact ⟨Fa, h1, h3, h4, fun x hx => by obtain ⟨a, b, c, _⟩ := h7 x hx; exact ⟨a, b, c⟩⟩

theorem add2 (h : H2 W wr ha hb Sa Sb G) {m : Nat} (O : HOk Sa m) (hm : m < 1000) (x : Int) (hx : (Lit.int .i64 x).wf = true) :
    Calls Try.prog 40 #[ha, .int .i64 x] wr fun e w' => e = .returned (.tuple #[.int .i64 (putN Sa x : Nat), .bool (!has Sa x)]) ∧ H2 W w' ha hb (putS Sa x) Sb G ∧ Kept G wr w' := by
  obtain ⟨F, h1, h2⟩ := h.step
  refine (addW h1 O hm x hx).mono ?_
  rintro e w' ⟨rfl, h3⟩
  exact ⟨rfl, h2 _ _ h3⟩

theorem drop2 (h : H2 W wr ha hb Sa Sb G) {m : Nat} (O : HOk Sa m) (hm : m < 1000) (x : Int) (hx : (Lit.int .i64 x).wf = true) :
    Calls Try.prog 39 #[ha, .int .i64 x] wr fun e w' => e = .returned (.tuple #[.int .i64 (lessN Sa x : Nat), .bool (has Sa x)]) ∧ H2 W w' ha hb (lessS Sa x) Sb G ∧ Kept G wr w' := by
  obtain ⟨F, h1, h2⟩ := h.step
  refine (dropW h1 O hm x hx).mono ?_
  rintro e w' ⟨rfl, h3⟩
  exact ⟨rfl, h2 _ _ h3⟩

theorem Kept.trans {w w1 w2 : World} (h : Kept G w w1) (k : Kept G w1 w2) : Kept G w w2 := ⟨Nat.le_trans h.1 k.1, fun x hx => (k.2 x hx).trans (h.2 x hx)⟩

/-! ### plain -/

theorem setB_unit {α : Type} (l : List α) : (setB l).map List.isEmpty = (setB (List.replicate l.length ())).map List.isEmpty := by
  unfold setB
  rw [List.length_replicate, List.map_map, List.map_map]
  refine List.map_congr_left fun i _ => ?_
  show (bucketOf l i).isEmpty = (bucketOf (List.replicate l.length ()) i).isEmpty
  rw [Bool.eq_iff_iff, List.isEmpty_iff_length_eq_zero, List.isEmpty_iff_length_eq_zero, bucketOf_len, bucketOf_len, List.length_replicate]

theorem firstE_alike {α β : Type} : ∀ (a : List (List α)) (b : List (List β)), a.map List.isEmpty = b.map List.isEmpty → firstE a = firstE b
  | [], [], _ => rfl
  | [], _ :: _, h => by simp at h
  | _ :: _, [], h => by simp at h
  | x :: a, y :: b, h => by
    simp only [List.map_cons, List.cons.injEq] at h
    simp only [firstE, h.1, firstE_alike a b h.2]

theorem firstE_len {α : Type} (l : List α) : firstE (setB l) = firstE (setB (List.replicate l.length ())) := firstE_alike _ _ (setB_unit l)

/-- How many are placed as the first n come. -/
def wkN : Nat → Nat
  | 0 => 0
  | n + 1 => wkN n + 2 ^ firstE (setB (List.replicate n ()))

structure Came (S : HS) (P : List Int) : Prop where
  all : vAll (view S) = P
  len : S.cs.length = P.length
  wk : S.wk = wkN P.length

theorem came00 : Came S00 [] := ⟨rfl, rfl, rfl⟩

theorem Came.put {S : HS} {P : List Int} {m : Nat} (h : Came S P) (O : HOk S m) (x : Int) (hx : x ∉ P) : Came (putS S x) (P ++ [x]) := by
  have hh : has S x = false := by
    rw [O.has]
    simp only [decide_eq_false_iff_not]
    intro hc
    exact hx (by rw [← h.all]; exact mem_vAll.2 hc)
  refine ⟨?_, ?_, ?_⟩
  · rw [O.vput, vAll_put, h.all, if_neg hx]
  · unfold putS
    rw [hh]
    show (S.cs ++ [(x, S.al.length)]).length = _
    rw [List.length_append, List.length_append, h.len]
    rfl
  · unfold putS
    rw [hh]
    show S.wk + 2 ^ firstE (setB S.cs) = _
    rw [firstE_len, h.len, h.wk, List.length_append]
    rfl

/-- How many are stored as all go, one by one. -/
def stN (n : Nat) : Nat → Nat
  | 0 => n
  | k + 1 => if 2 * (n - (k + 1)) < stN n k then n - (k + 1) else stN n k

theorem stN_end (n : Nat) : stN n n = 0 := by
  cases n with
  | zero => rfl
  | succ n => show (if 2 * (n + 1 - (n + 1)) < stN (n + 1) n then n + 1 - (n + 1) else stN (n + 1) n) = 0; split <;> omega

structure Gone (S : HS) (n k : Nat) (P : List Int) : Prop where
  all : vAll (view S) = P
  alive : P.length = n - k
  nodup : P.Nodup
  len : (view S).length = stN n k

theorem Gone.has {S : HS} {n k m : Nat} {P : List Int} (h : Gone S n k P) (O : HOk S m) (x : Int) : has S x = decide (x ∈ P) := by
  rw [O.has, ← h.all, Bool.eq_iff_iff, decide_eq_true_iff, decide_eq_true_iff, mem_vAll]

theorem Gone.less {S : HS} {n k m : Nat} {P : List Int} (h : Gone S n k P) (O : HOk S m) (x : Int) (hx : x ∈ P) : Gone (lessS S x) n (k + 1) (P.filter fun y => y != x) := by
  have hf : (P.filter fun y => y != x).length = n - (k + 1) := by
    have e := h.nodup.erase_eq_filter x
    rw [← e, List.length_erase_of_mem hx, h.alive]
    omega
  refine ⟨?_, hf, h.nodup.filter _, ?_⟩
  · rw [O.vless, vAll_less, h.all]
  · rw [O.vless]
    unfold vLess
    have hm : (x, true) ∈ view S := mem_vAll.1 (by rw [h.all]; exact hx)
    rw [if_pos hm]
    unfold vDrop
    rw [vAll_kill, h.all, hf, h.len]
    show _ = if 2 * (n - (k + 1)) < stN n k then n - (k + 1) else stN n k
    split
    · rw [List.length_map, hf]
    · rw [vKill_len, h.len]

theorem Gone.not {S : HS} {n k m : Nat} {P : List Int} (h : Gone S n k P) (O : HOk S m) (x : Int) (hx : x ∉ P) : lessS S x = S := by
  unfold lessS
  rw [h.has O]
  simp [hx]

theorem came_gone {S : HS} {P : List Int} (h : Came S P) (hn : P.Nodup) : Gone S P.length 0 P := ⟨h.all, rfl, hn, by rw [view_len, h.len]; rfl⟩
end Go.Proofs.Ytkhgglafnjfiaaa
