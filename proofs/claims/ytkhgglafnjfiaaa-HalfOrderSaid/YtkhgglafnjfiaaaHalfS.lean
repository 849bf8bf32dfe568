/- The state of the statements' loops: a Half that was made since W, and blocks of the statement's own beside it. -/
import Derived.Test.YtkhgglafnjfiaaaHalfAw
import Derived.Test.YtkhgglafnjfiaaaOpA
namespace Go.Proofs.Ytkhgglafnjfiaaa
open Go.RowKit

/-- Since W: a Half that has what S says; the blocks G are not its own. -/
def HG (W wr : World) (hv : Value) (S : HS) (G : List Nat) : Prop :=
  ∃ F, IsHalf wr hv F S ∧ Upd [] W wr ∧ (∀ x ∈ F, W.heap.size ≤ x) ∧ ∀ x ∈ G, W.heap.size ≤ x ∧ x < wr.heap.size ∧ x ∉ F

/-- The blocks G are as they were. -/
def Kept (G : List Nat) (w w' : World) : Prop := w.heap.size ≤ w'.heap.size ∧ ∀ x ∈ G, w'.heap[x]? = w.heap[x]?

theorem Kept.cell {G : List Nat} {w w' : World} (h : Kept G w w') {p : Addr} (hp : p.block ∈ G) : w'.cell? p = w.cell? p := World.cell?_of_block (w := w) (h.2 p.block hp)
theorem Kept.frozen {G : List Nat} {w w' : World} (h : Kept G w w') {p : Addr} (hp : p.block ∈ G) : w'.frozen? p = w.frozen? p := World.frozen?_of_block (w := w) (h.2 p.block hp)
theorem Kept.row {G : List Nat} {w w' : World} (h : Kept G w w') {base : Nat} {v : Value} {l : List Int} (hr : KI.row w base v l) (hb : ∀ x ∈ blk v, x ∈ G) : KI.row w' base v l := own_same hr fun x hx => h.2 x (hb x hx)

variable {W wr w' : World} {hv : Value} {S : HS} {G G' : List Nat}

theorem HG.up (h : HG W wr hv S G) : Upd [] W wr := by
  obtain ⟨_, _, h2, _⟩ := h
  exact h2

theorem HG.start {F : List Nat} (h : IsHalf wr hv F S) (hu : Upd [] W wr) (hF : ∀ x ∈ F, W.heap.size ≤ x) : HG W wr hv S [] := ⟨F, h, hu, hF, by simp⟩

/-- The statement writes its own blocks, or makes new ones. -/
theorem HG.write (h : HG W wr hv S G) {P : List Nat} (hu : Upd P wr w') (hP : ∀ x ∈ P, x ∈ G) (hG : ∀ x ∈ G', x ∈ G ∨ (wr.heap.size ≤ x ∧ x < w'.heap.size)) : HG W w' hv S G' := by
  obtain ⟨F, h1, h2, h3, h4⟩ := h
  refine ⟨F, h1.upd hu (fun x hx hc => (h4 x (hP x hc)).2.2 hx), h2.trans' hu (fun x hx => .inr (h4 x (hP x hx)).1), h3, fun x hx => ?_⟩
  rcases hG x hx with g | ⟨g1, g2⟩
  · obtain ⟨e1, e2, e3⟩ := h4 x g
    exact ⟨e1, Nat.lt_of_lt_of_le e2 hu.size, e3⟩
  · exact ⟨Nat.le_trans h2.size g1, g2, fun hc => by have := h1.lt x hc; omega⟩

theorem HG.quiet (h : HG W wr hv S G) (hu : Upd [] wr w') : HG W w' hv S G := h.write hu (by simp) (fun x hx => .inl hx)

theorem HG.step (h : HG W wr hv S G) : ∃ F, HStep wr wr hv F S ∧ ∀ (w' : World) (S' : HS), HStep wr w' hv F S' → HG W w' hv S' G ∧ Kept G wr w' := by
  obtain ⟨F, h1, h2, h3, h4⟩ := h
  refine ⟨F, HStep.refl h1, fun w' S' ⟨F', g1, g2, g3⟩ => ⟨⟨F', g1, h2.trans' g2 fun x hx => .inr (h3 x hx), fun x hx => ?_, fun x hx => ?_⟩, g2.size, fun x hx => ?_⟩⟩
  · rcases g3 x hx with g | g
    · exact h3 x g
    · exact Nat.le_trans h2.size g
  · obtain ⟨e1, e2, e3⟩ := h4 x hx
    refine ⟨e1, Nat.lt_of_lt_of_le e2 g2.size, fun hc => ?_⟩
    rcases g3 x hc with g | g
    · exact e3 g
    · omega
  · obtain ⟨e1, e2, e3⟩ := h4 x hx
    exact g2.block x e2 e3

theorem HG.at (h : HG W wr hv S G) : ∃ F, HStep wr wr hv F S := by
  obtain ⟨F, h1, _⟩ := h.step
  exact ⟨F, h1⟩

theorem addG (h : HG W wr hv S G) {m : Nat} (O : HOk S m) (hm : m < 1000) (x : Int) (hx : (Lit.int .i64 x).wf = true) :
    Calls Try.prog 40 #[hv, .int .i64 x] wr fun e w' => e = .returned (.tuple #[.int .i64 (putN S x : Nat), .bool (!has S x)]) ∧ HG W w' hv (putS S x) G ∧ Kept G wr w' := by
  obtain ⟨F, h1, h2⟩ := h.step
  refine (addW h1 O hm x hx).mono ?_
  rintro e w' ⟨rfl, h3⟩
  exact ⟨rfl, h2 _ _ h3⟩

theorem dropG (h : HG W wr hv S G) {m : Nat} (O : HOk S m) (hm : m < 1000) (x : Int) (hx : (Lit.int .i64 x).wf = true) :
    Calls Try.prog 39 #[hv, .int .i64 x] wr fun e w' => e = .returned (.tuple #[.int .i64 (lessN S x : Nat), .bool (has S x)]) ∧ HG W w' hv (lessS S x) G ∧ Kept G wr w' := by
  obtain ⟨F, h1, h2⟩ := h.step
  refine (dropW h1 O hm x hx).mono ?_
  rintro e w' ⟨rfl, h3⟩
  exact ⟨rfl, h2 _ _ h3⟩

theorem lenG (h : HG W wr hv S G) {m : Nat} (O : HOk S m) :
    Calls Try.prog 48 #[hv] wr fun e w' => e = .returned (.int .i64 (vAll (view S)).length) ∧ wr = w' := by
  obtain ⟨F, h1⟩ := h.at
  exact lenW h1 O

theorem storedG (h : HG W wr hv S G) :
    Calls Try.prog 49 #[hv] wr fun e w' => e = .returned (.int .i64 (view S).length) ∧ wr = w' := by
  obtain ⟨F, h1⟩ := h.at
  exact storedW h1

theorem workG (h : HG W wr hv S G) :
    Calls Try.prog 50 #[hv] wr fun e w' => e = .returned (.int .i64 S.wk) ∧ wr = w' := by
  obtain ⟨F, h1⟩ := h.at
  exact workW h1

theorem allG (h : HG W wr hv S G) {m : Nat} (O : HOk S m) (hm : m < 10000) :
    Calls Try.prog 42 #[hv] wr fun e w' => ∃ A C, e = .returned (.slice A (vAll (view S)).length C) ∧ KI.row w' wr.heap.size (.slice A (vAll (view S)).length C) (vAll (view S)) ∧ Upd [] wr w' := by
  obtain ⟨F, h1⟩ := h.at
  exact allW h1 O hm

theorem treesEqG (h : HG W wr hv S G) {m : Nat} (O : HOk S m) (hm : m < 10000) (v : Value) (ww : List (List Int)) (hw : RowsSee wr v ww) (hwl : ww.length < 1000000) (hww : ∀ l ∈ ww, l.length < 1000000) :
    Calls Try.prog 51 #[hv, v] wr fun e w' => e = .returned (.bool (decide (treesL S = ww))) ∧ Upd [] wr w' := by
  obtain ⟨F, h1⟩ := h.at
  exact treesEqW h1 O hm v ww hw hwl hww

theorem row_n {w : World} {b : Nat} {v : Value} {l : List Int} {n : Nat} (h : KI.row w b v l) (hn : l.length = n) : w.ownsRow b 2 1 v n (KI.all l) := by
  subst hn; exact h

theorem app_at {w wb w4 : World} {base e n m A C : _} {xs news : List Value} {v : Value} (hb : Upd [] w wb) (HP : AppPost wb w4 base e 1 v n xs m news A C) :
    Upd (blk v) w w4 ∧ w4.ownsRow base e 1 (.slice A (n + m) C) (n + m) (xs ++ news) ∧ ∀ x ∈ blk (.slice A (n + m) C), x ∈ blk v ∨ w.heap.size ≤ x := by
  refine ⟨(hb.mono (by simp)).trans HP.upd, HP.own, fun x hx => ?_⟩
  rcases HP.at with h | h
  · rw [h] at hx; exact .inl hx
  · rw [h] at hx; simp at hx; rw [hx]; exact .inr hb.size

/-- An empty literal. -/
theorem own_empty (w : World) (base : Nat) (e : TypeId) (hb : base ≤ w.heap.size) : (w.alloc (.cells #[] e)).ownsRow base e 1 (.slice (some ⟨w.heap.size, 0, none⟩) 0 0) 0 [] := by
  refine ⟨rfl, .inr ⟨w.heap.size, 0, #[], rfl, hb, heap_alloc_new w _, Nat.le_refl _, Nat.zero_le _, rfl, rfl⟩⟩

/-- The trees: bags that lie in memory. -/
theorem treesG (h : HG W wr hv S G) {m : Nat} (O : HOk S m) (hm : m < 10000) :
    Calls Try.prog 43 #[hv] wr fun e w' => ∃ A C ts, e = .returned (.slice A (treesL S).length C) ∧ w'.ownsRow wr.heap.size 58 1 (.slice A (treesL S).length C) (treesL S).length ts ∧ Upd [] wr w' ∧
      ∀ (j : Nat) (L : List Int), (treesL S)[j]? = some L → ∃ p B, ts[j]? = some p ∧ IsBag w' p L B ∧ ∀ x ∈ B, x ∉ G := by
  obtain ⟨F, h1, _, _, h5⟩ := h
  refine (trees22 hv F S wr h1 O.inv (by have := O.cs; omega)).mono ?_
  rintro e w' ⟨A, C, ts, rfl, h2, h3, h4⟩
  have hl : (treesL S).length = (idxA S.cs).length := by simp [treesL]
  rw [hl]
  refine ⟨A, C, ts, rfl, h2, h3, fun j L hj => ?_⟩
  unfold treesL at hj
  rw [List.getElem?_map] at hj
  obtain ⟨i, hi, rfl⟩ := Option.map_eq_some_iff.1 hj
  obtain ⟨p, B, g1, g2, g3⟩ := h4 j i hi
  exact ⟨p, B, g1, g2, fun x hx hc => (h5 x hc).2.2 (g3 x hx)⟩
end Go.Proofs.Ytkhgglafnjfiaaa
