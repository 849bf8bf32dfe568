/- A box, a number of 128 bits, in a variable. -/
import Derived.Test.YtokpdocabmaagaaGreatItem
import Derived.Test.YtokpdocabmaagaaGreatSumW
namespace Go.Proofs.YtokpdocabmaagaaGreat
open Go.RowKit

def BAt (w : World) (p : Nat) (b : Bx) : Prop := w.heap[p]? = some (.cells #[.int .i64 b.x1, .int .i64 b.x2, .int .i64 b.y1, .int .i64 b.y2, .int .u32 (b.id : Int)] 34 (0, 0))

theorem BAt.upd {F : List Nat} {w w' : World} {p : Nat} {b : Bx} (h : BAt w p b) (hu : Upd F w w') (hp : p ∉ F) : BAt w' p b := by
  unfold BAt at h ⊢
  rw [hu.block p (lt_of_block h) hp]; exact h
theorem BAt.upd0 {w w' : World} {p : Nat} {b : Bx} (h : BAt w p b) (hu : Upd [] w w') : BAt w' p b := h.upd hu (by simp)
theorem BAt.lt {w : World} {p : Nat} {b : Bx} (h : BAt w p b) : p < w.heap.size := lt_of_block h
theorem BAt.cells {w : World} {p : Nat} {b : Bx} (h : BAt w p b) : w.cell? ⟨p, 0, none⟩ = some (.int .i64 b.x1) ∧ w.cell? ⟨p, 1, none⟩ = some (.int .i64 b.x2) ∧ w.cell? ⟨p, 2, none⟩ = some (.int .i64 b.y1) ∧ w.cell? ⟨p, 3, none⟩ = some (.int .i64 b.y2) ∧ w.cell? ⟨p, 4, none⟩ = some (.int .u32 (b.id : Int)) := by
  have h' : w.heap[p]? = some (.cells #[.int .i64 b.x1, .int .i64 b.x2, .int .i64 b.y1, .int .i64 b.y2, .int .u32 (b.id : Int)] 34 (0, 0)) := h
  refine ⟨?_, ?_, ?_, ?_, ?_⟩ <;> simp [World.cell?, h']
theorem BAt.free {w : World} {p : Nat} {b : Bx} (h : BAt w p b) (j : Nat) : w.frozen? ⟨p, j, none⟩ = false := by
  have h' : w.heap[p]? = some (.cells #[.int .i64 b.x1, .int .i64 b.x2, .int .i64 b.y1, .int .i64 b.y2, .int .u32 (b.id : Int)] 34 (0, 0)) := h
  simp [World.frozen?, h']
theorem BAt.new (w : World) (b : Bx) : BAt (w.alloc (.cells #[.int .i64 b.x1, .int .i64 b.x2, .int .i64 b.y1, .int .i64 b.y2, .int .u32 (b.id : Int)] 34)) w.heap.size b := heap_alloc_new _ _
theorem see_one (w : World) (b : Bx) : See KBx (w.alloc (.cells #[.int .i64 b.x1, .int .i64 b.x2, .int .i64 b.y1, .int .i64 b.y2, .int .u32 (b.id : Int)] 34)) (.slice (some ⟨w.heap.size, 0, none⟩) 1 1) [b] :=
  sees_lit w #[.int .i64 b.x1, .int .i64 b.x2, .int .i64 b.y1, .int .i64 b.y2, .int .u32 (b.id : Int)] 34 5 1 rfl (by decide)
theorem BAt.set {w : World} {p : Nat} {b : Bx} (h : BAt w p b) (c : Bx) : BAt (((((w.setCell ⟨p, 0, none⟩ (.int .i64 c.x1)).setCell ⟨p, 1, none⟩ (.int .i64 c.x2)).setCell ⟨p, 2, none⟩ (.int .i64 c.y1)).setCell ⟨p, 3, none⟩ (.int .i64 c.y2)).setCell ⟨p, 4, none⟩ (.int .u32 (c.id : Int))) p c :=
  heap_set (heap_set (heap_set (heap_set (heap_set h 0 _) 1 _) 2 _) 3 _) 4 _

def WAt (w : World) (p : Nat) (a b : Int) : Prop := w.heap[p]? = some (.cells #[.int .u64 a, .int .u64 b] 27 (0, 0))
theorem WAt.upd {F : List Nat} {w w' : World} {p : Nat} {a b : Int} (h : WAt w p a b) (hu : Upd F w w') (hp : p ∉ F) : WAt w' p a b := by
  unfold WAt at h ⊢
  rw [hu.block p (lt_of_block h) hp]; exact h
theorem WAt.upd0 {w w' : World} {p : Nat} {a b : Int} (h : WAt w p a b) (hu : Upd [] w w') : WAt w' p a b := h.upd hu (by simp)
theorem WAt.lt {w : World} {p : Nat} {a b : Int} (h : WAt w p a b) : p < w.heap.size := lt_of_block h
theorem WAt.cells {w : World} {p : Nat} {a b : Int} (h : WAt w p a b) : w.cell? ⟨p, 0, none⟩ = some (.int .u64 a) ∧ w.cell? ⟨p, 1, none⟩ = some (.int .u64 b) := by
  have h' : w.heap[p]? = some (.cells #[.int .u64 a, .int .u64 b] 27 (0, 0)) := h
  refine ⟨?_, ?_⟩ <;> simp [World.cell?, h']
theorem WAt.new (w : World) (a b : Int) : WAt (w.alloc (.cells #[.int .u64 a, .int .u64 b] 27)) w.heap.size a b := heap_alloc_new _ _

theorem keep7 {w w' : World} {a1 a2 a3 a4 a5 a6 a7 : Addr} {v1 v2 v3 v4 v5 v6 v7 : Value} (h : w.cell? a1 = some v1 ∧ w.cell? a2 = some v2 ∧ w.cell? a3 = some v3 ∧ w.cell? a4 = some v4 ∧ w.cell? a5 = some v5 ∧ w.cell? a6 = some v6 ∧ w.cell? a7 = some v7) (hu : Upd [] w w') :
    w'.cell? a1 = some v1 ∧ w'.cell? a2 = some v2 ∧ w'.cell? a3 = some v3 ∧ w'.cell? a4 = some v4 ∧ w'.cell? a5 = some v5 ∧ w'.cell? a6 = some v6 ∧ w'.cell? a7 = some v7 := by
  have e : ∀ {a : Addr} {v : Value}, w.cell? a = some v → w'.cell? a = some v := fun {a v} ha => (hu.cell (World.block_lt_of_cell? w _ ha) (by simp)).trans ha
  exact ⟨e h.1, e h.2.1, e h.2.2.1, e h.2.2.2.1, e h.2.2.2.2.1, e h.2.2.2.2.2.1, e h.2.2.2.2.2.2⟩
end Go.Proofs.YtokpdocabmaagaaGreat
