/- A cover in memory. -/
import Derived.Test.YtokeagmphjgkkaaFrameB
import Derived.Test.YtokeagmphjgkkaaCovE
import Derived.Test.YtokeagmphjgkkaaRank
namespace Go.Proofs.Ytokeagmphjgkkaa
open Go.RowKit

/-- Numbers; parts. -/
def KC : Kind Int := { T := 0, sT := 92, eT := 3, sz := 1, enc := fun x => [.int .i64 x], len := fun _ => rfl, one := fun x u hu => by simp at hu; subst hu; rfl }
def KP : Kind Part := { T := 0, sT := 93, eT := 103, sz := 4, enc := fun x => [.int .u64 x.long, .int .i64 x.runs, .bool x.first, .bool x.last], len := fun _ => rfl, one := fun x u hu => by simp at hu; rcases hu with rfl | rfl | rfl | rfl <;> rfl }

def partVal (p : Part) : Value := .agg #[.int .u64 p.long, .int .i64 p.runs, .bool p.first, .bool p.last]

theorem row_at {α : Type} {K : Kind α} {w : World} {base : Nat} {v : Value} {l : List α} (h : K.row w base v l) {k : Nat} {x : α} (hx : l[k]? = some x) :
    ∃ g C, v = .slice (some ⟨g, 0, none⟩) l.length C ∧ (∀ j u, (K.enc x)[j]? = some u → w.cell? ⟨g, k * K.sz + j, none⟩ = some u) ∧ (∀ j, w.frozen? ⟨g, j, none⟩ = false) := by
  have hk := (List.getElem?_eq_some_iff.1 hx).1
  obtain ⟨g, C, rfl, _, _⟩ := World.ownsRow.form h (by omega)
  obtain ⟨b, o, h1, h2, h3, h4⟩ := (See.of_row h).at hx
  cases h1
  refine ⟨g, C, rfl, fun j u hu => ?_, fun j => World.ownsRow.frozenAt h j⟩
  have := h4 j u hu
  rwa [Nat.zero_add] at this

/-- At block b lies a cover: its marks M, its nodes L, how often they are covered, what is known of them. -/
structure CovM (w : World) (b : Nat) (mv nv ov pv : Value) (hb : Nat) (M : List Int) (L : List Nd) (O : List Int) (P : List Part) (root en : Int) : Prop where
  head : w.heap[b]? = some (.cells #[mv, .int .i64 root, nv, ov, pv, .map (some hb), .int .i64 en] 95 (0, 0))
  marks : KL.row w 0 mv M
  nodes : KD.row w 0 nv L
  often : KC.row w 0 ov O
  parts : KP.row w 0 pv P
  bm : b ∉ blk mv
  bn : b ∉ blk nv
  bo : b ∉ blk ov
  bp : b ∉ blk pv
  bh : b ≠ hb
  om : ∀ y ∈ blk ov, y ∉ blk mv
  on : ∀ y ∈ blk ov, y ∉ blk nv
  op : ∀ y ∈ blk ov, y ∉ blk pv
  pm : ∀ y ∈ blk pv, y ∉ blk mv
  pn : ∀ y ∈ blk pv, y ∉ blk nv
  hm : hb ∉ blk mv
  hn : hb ∉ blk nv
  ho : hb ∉ blk ov
  hp : hb ∉ blk pv

/-- The blocks that a change writes. -/
def covF (b : Nat) (ov pv : Value) : List Nat := b :: (blk ov ++ blk pv)

section
variable {w w' : World} {b : Nat} {mv nv ov pv : Value} {hb : Nat} {M : List Int} {L : List Nd} {O O' : List Int} {P P' : List Part} {root en : Int}

theorem CovM.lt (h : CovM w b mv nv ov pv hb M L O P root en) : ∀ y ∈ covF b ov pv, y < w.heap.size := by
  intro y hy
  unfold covF at hy
  rcases List.mem_cons.1 hy with rfl | hy
  · exact lt_of_block h.head
  · rcases List.mem_append.1 hy with hy | hy
    · exact own_lt h.often y hy
    · exact own_lt h.parts y hy

theorem CovM.upd (h : CovM w b mv nv ov pv hb M L O P root en) {F : List Nat} (hu : Upd F w w') (h1 : b ∉ F) (h2 : ∀ y ∈ blk mv, y ∉ F) (h3 : ∀ y ∈ blk nv, y ∉ F) (h4 : ∀ y ∈ blk ov, y ∉ F) (h5 : ∀ y ∈ blk pv, y ∉ F) : CovM w' b mv nv ov pv hb M L O P root en :=
  { h with head := (hu.block b (lt_of_block h.head) h1).trans h.head, marks := own_upd h.marks hu h2, nodes := own_upd h.nodes hu h3, often := own_upd h.often hu h4, parts := own_upd h.parts hu h5 }

theorem CovM.upd0 (h : CovM w b mv nv ov pv hb M L O P root en) (hu : Upd [] w w') : CovM w' b mv nv ov pv hb M L O P root en :=
  h.upd hu (by simp) (by simp) (by simp) (by simp) (by simp)

theorem CovM.cells (h : CovM w b mv nv ov pv hb M L O P root en) : w.cell? ⟨b, 0, none⟩ = some mv ∧ w.cell? ⟨b, 1, none⟩ = some (.int .i64 root) ∧ w.cell? ⟨b, 2, none⟩ = some nv ∧ w.cell? ⟨b, 3, none⟩ = some ov ∧ w.cell? ⟨b, 4, none⟩ = some pv ∧ w.cell? ⟨b, 5, none⟩ = some (.map (some hb)) ∧ w.cell? ⟨b, 6, none⟩ = some (.int .i64 en) ∧ ∀ j, w.frozen? ⟨b, j, none⟩ = false := by
  refine ⟨?_, ?_, ?_, ?_, ?_, ?_, ?_, ?_⟩ <;> simp [World.cell?, World.frozen?, h.head]

/-- The count of the nodes entered is another now. -/
theorem CovM.enter (h : CovM w b mv nv ov pv hb M L O P root en) (e' : Int) : CovM (w.setCell ⟨b, 6, none⟩ (.int .i64 e')) b mv nv ov pv hb M L O P root e' :=
  { h with head := heap_set h.head 6 _, marks := row_set_other h.marks h.bm _, nodes := row_set_other h.nodes h.bn _, often := row_set_other h.often h.bo _, parts := row_set_other h.parts h.bp _ }

theorem KC.all_eq (l : List Int) : KC.all l = l.map (Value.int .i64) := by
  induction l with
  | nil => rfl
  | cons a l ih => simp only [Kind.all, List.flatMap_cons, List.map_cons] at *; rw [ih]; rfl

/-- How often a node is covered is another number now. -/
theorem CovM.oft {g C N : Nat} (h : CovM w b mv nv (.slice (some ⟨g, 0, none⟩) N C) pv hb M L O P root en) (hN : O.length = N) (k : Nat) (x : Int) :
    CovM (w.setCell ⟨g, k, none⟩ (.int .i64 x)) b mv nv (.slice (some ⟨g, 0, none⟩) N C) pv hb M L (O.set k x) P root en := by
  subst hN
  have hg : g ∈ blk (.slice (some ⟨g, 0, none⟩) O.length C) := by simp [blk]
  have hgb : g ≠ b := fun e => h.bo (by rw [← e]; exact hg)
  refine { h with head := ?_, marks := row_set_other h.marks (h.om g hg) _, nodes := row_set_other h.nodes (h.on g hg) _, often := ?_, parts := row_set_other h.parts (h.op g hg) _ }
  · rw [Below.heap_setCell _ _ _ _ (by simpa using Ne.symm hgb)]; exact h.head
  · have h' : w.ownsRow 0 3 1 (.slice (some ⟨g, 0, none⟩) O.length C) O.length (KC.all O) := h.often
    have := (World.ownsRow.stored h' k (.int .i64 x)).1
    unfold Kind.row
    rw [KC.all_eq, List.length_set, List.map_set, ← KC.all_eq]
    exact this
end
end Go.Proofs.Ytokeagmphjgkkaa
