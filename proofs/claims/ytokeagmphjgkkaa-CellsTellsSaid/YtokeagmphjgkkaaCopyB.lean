/- A box, a number of 128 bits, in a variable. gridironlow.CopyBoxes. -/
import Derived.Test.YtokeagmphjgkkaaItemK
import Derived.Test.YtokeagmphjgkkaaProg
import Derived.Test.YtokeagmphjgkkaaSumW
import Derived.Test.YtokeagmphjgkkaaLits
import Derived.WalkKit
import Derived.LoopTactic
import Derived.Deep.Cut
import Derived.Deep.LoopGhost
import Derived.IntWalk
import Derived.Deep.MidRow
namespace Go.Proofs.Ytokeagmphjgkkaa
open Go.RowKit

def BAt (w : World) (p : Nat) (b : Bx) : Prop := w.heap[p]? = some (.cells #[.int .i64 b.x1, .int .i64 b.x2, .int .i64 b.y1, .int .i64 b.y2, .int .u32 (b.id : Int)] 109 (0, 0))

theorem BAt.upd {F : List Nat} {w w' : World} {p : Nat} {b : Bx} (h : BAt w p b) (hu : Upd F w w') (hp : p ∉ F) : BAt w' p b := by
  unfold BAt at h ⊢
  rw [hu.block p (lt_of_block h) hp]; exact h
theorem BAt.upd0 {w w' : World} {p : Nat} {b : Bx} (h : BAt w p b) (hu : Upd [] w w') : BAt w' p b := h.upd hu (by simp)
theorem BAt.lt {w : World} {p : Nat} {b : Bx} (h : BAt w p b) : p < w.heap.size := lt_of_block h
theorem BAt.cells {w : World} {p : Nat} {b : Bx} (h : BAt w p b) : w.cell? ⟨p, 0, none⟩ = some (.int .i64 b.x1) ∧ w.cell? ⟨p, 1, none⟩ = some (.int .i64 b.x2) ∧ w.cell? ⟨p, 2, none⟩ = some (.int .i64 b.y1) ∧ w.cell? ⟨p, 3, none⟩ = some (.int .i64 b.y2) ∧ w.cell? ⟨p, 4, none⟩ = some (.int .u32 (b.id : Int)) := by
  have h' : w.heap[p]? = some (.cells #[.int .i64 b.x1, .int .i64 b.x2, .int .i64 b.y1, .int .i64 b.y2, .int .u32 (b.id : Int)] 109 (0, 0)) := h
  refine ⟨?_, ?_, ?_, ?_, ?_⟩ <;> simp [World.cell?, h']
theorem BAt.free {w : World} {p : Nat} {b : Bx} (h : BAt w p b) (j : Nat) : w.frozen? ⟨p, j, none⟩ = false := by
  have h' : w.heap[p]? = some (.cells #[.int .i64 b.x1, .int .i64 b.x2, .int .i64 b.y1, .int .i64 b.y2, .int .u32 (b.id : Int)] 109 (0, 0)) := h
  simp [World.frozen?, h']
theorem BAt.new (w : World) (b : Bx) : BAt (w.alloc (.cells #[.int .i64 b.x1, .int .i64 b.x2, .int .i64 b.y1, .int .i64 b.y2, .int .u32 (b.id : Int)] 109)) w.heap.size b := heap_alloc_new _ _
theorem see_one (w : World) (b : Bx) : See KBx (w.alloc (.cells #[.int .i64 b.x1, .int .i64 b.x2, .int .i64 b.y1, .int .i64 b.y2, .int .u32 (b.id : Int)] 109)) (.slice (some ⟨w.heap.size, 0, none⟩) 1 1) [b] :=
  sees_lit w #[.int .i64 b.x1, .int .i64 b.x2, .int .i64 b.y1, .int .i64 b.y2, .int .u32 (b.id : Int)] 109 5 1 rfl (by decide)
theorem BAt.set {w : World} {p : Nat} {b : Bx} (h : BAt w p b) (c : Bx) : BAt (((((w.setCell ⟨p, 0, none⟩ (.int .i64 c.x1)).setCell ⟨p, 1, none⟩ (.int .i64 c.x2)).setCell ⟨p, 2, none⟩ (.int .i64 c.y1)).setCell ⟨p, 3, none⟩ (.int .i64 c.y2)).setCell ⟨p, 4, none⟩ (.int .u32 (c.id : Int))) p c :=
  heap_set (heap_set (heap_set (heap_set (heap_set h 0 _) 1 _) 2 _) 3 _) 4 _

def WAt (w : World) (p : Nat) (a b : Int) : Prop := w.heap[p]? = some (.cells #[.int .u64 a, .int .u64 b] 56 (0, 0))
theorem WAt.upd {F : List Nat} {w w' : World} {p : Nat} {a b : Int} (h : WAt w p a b) (hu : Upd F w w') (hp : p ∉ F) : WAt w' p a b := by
  unfold WAt at h ⊢
  rw [hu.block p (lt_of_block h) hp]; exact h
theorem WAt.upd0 {w w' : World} {p : Nat} {a b : Int} (h : WAt w p a b) (hu : Upd [] w w') : WAt w' p a b := h.upd hu (by simp)
theorem WAt.lt {w : World} {p : Nat} {a b : Int} (h : WAt w p a b) : p < w.heap.size := lt_of_block h
theorem WAt.cells {w : World} {p : Nat} {a b : Int} (h : WAt w p a b) : w.cell? ⟨p, 0, none⟩ = some (.int .u64 a) ∧ w.cell? ⟨p, 1, none⟩ = some (.int .u64 b) := by
  have h' : w.heap[p]? = some (.cells #[.int .u64 a, .int .u64 b] 56 (0, 0)) := h
  refine ⟨?_, ?_⟩ <;> simp [World.cell?, h']
theorem WAt.new (w : World) (a b : Int) : WAt (w.alloc (.cells #[.int .u64 a, .int .u64 b] 56)) w.heap.size a b := heap_alloc_new _ _

theorem BAt.there {w : World} {p : Nat} {b : Bx} (h : BAt w p b) : w.there p 0 5 := fun j hj => by
  obtain ⟨c0, c1, c2, c3, c4⟩ := h.cells
  rcases (by omega : j = 0 ∨ j = 1 ∨ j = 2 ∨ j = 3 ∨ j = 4) with rfl | rfl | rfl | rfl | rfl
  · exact ⟨by rw [c0]; rfl, h.free 0⟩
  · exact ⟨by rw [c1]; rfl, h.free 1⟩
  · exact ⟨by rw [c2]; rfl, h.free 2⟩
  · exact ⟨by rw [c3]; rfl, h.free 3⟩
  · exact ⟨by rw [c4]; rfl, h.free 4⟩
theorem BAt.puts {w : World} {p : Nat} {b : Bx} (h : BAt w p b) (c : Bx) : BAt (w.setCells p 0 [.int .i64 c.x1, .int .i64 c.x2, .int .i64 c.y1, .int .i64 c.y2, .int .u32 (c.id : Int)]) p c := h.set c
theorem upd_puts (p : Nat) : ∀ (vs : List Value) (o : Nat) (w : World), Upd [p] w (w.setCells p o vs)
  | [], _, w => Upd.refl _ _
  | v :: r, o, w => ((Upd.refl [p] w).setCell (.inl (by simp)) v).trans (upd_puts p r (o + 1) _)
theorem WAt.free {w : World} {p : Nat} {a b : Int} (h : WAt w p a b) (j : Nat) : w.frozen? ⟨p, j, none⟩ = false := by
  have h' : w.heap[p]? = some (.cells #[.int .u64 a, .int .u64 b] 56 (0, 0)) := h
  simp [World.frozen?, h']

theorem keep7 {w w' : World} {a1 a2 a3 a4 a5 a6 a7 : Addr} {v1 v2 v3 v4 v5 v6 v7 : Value} (h : w.cell? a1 = some v1 ∧ w.cell? a2 = some v2 ∧ w.cell? a3 = some v3 ∧ w.cell? a4 = some v4 ∧ w.cell? a5 = some v5 ∧ w.cell? a6 = some v6 ∧ w.cell? a7 = some v7) (hu : Upd [] w w') :
    w'.cell? a1 = some v1 ∧ w'.cell? a2 = some v2 ∧ w'.cell? a3 = some v3 ∧ w'.cell? a4 = some v4 ∧ w'.cell? a5 = some v5 ∧ w'.cell? a6 = some v6 ∧ w'.cell? a7 = some v7 := by
  have e : ∀ {a : Addr} {v : Value}, w.cell? a = some v → w'.cell? a = some v := fun {a v} ha => (hu.cell (World.block_lt_of_cell? w _ ha) (by simp)).trans ha
  exact ⟨e h.1, e h.2.1, e h.2.2.1, e h.2.2.2.1, e h.2.2.2.2.1, e h.2.2.2.2.2.1, e h.2.2.2.2.2.2⟩
end Go.Proofs.Ytokeagmphjgkkaa

namespace Go.Proofs.Ytokeagmphjgkkaa
open Go.RowKit

theorem info_box : (Try.prog.info? 109).map (fun i => (i.zero, i.size, i.bytes)) = some (some (.agg #[.int .i64 0, .int .i64 0, .int .i64 0, .int .i64 0, .int .u32 0]), 5, 40) := by kernel_rfl

/-- What CopyBoxes leaves. -/
def CpPost (w : World) (l : List Bx) (e : Ending) (w' : World) : Prop := ∃ A C, e = .returned (.slice A l.length C) ∧ KBx.row w' w.heap.size (.slice A l.length C) l ∧ Upd [] w w'

set_option maxRecDepth 100000 in
set_option maxHeartbeats 2000000 in
theorem copyBoxes (s : Value) (l : List Bx) (w : World) (hs : See KBx w s l) (hb : l.length < 1000000) :
    Calls Try.prog 27 #[s] w (CpPost w l) := by
  obtain ⟨i0, hi, hz0, hz1, hz2⟩ := info_parts info_box
  unfold CpPost
  have H1 := Lib.hid (KBx.all_one l)
  have HS := Lib.hid hs
  have HB := Lib.hid hb
  clear hs hb
  go_enter Try.func27, Try.ntmps27
  go_wp2_with (at_builtin; refine wpList_app _ rfl _ _ 47 rfl w.heap.size 109 i0 (.agg #[.int .i64 0, .int .i64 0, .int .i64 0, .int .i64 0, .int .u32 0]) 5 40 Try.underlying47 hi hz0 hz1 hz2 rfl (by decide) _ 0 [] rfl (World.ownsRow_made w #[] 0 (Nat.le_refl _) (by decide) rfl) _ l.length (KBx.all l) rfl (sees_upd HS.out ((Upd.refl [] w).alloc _) (by simp)) H1.out (by have := HB.out; unfold maxLen; omega) (by have := HB.out; omega) (by simp) ?_)
  intro A C w1 HP
  have HU := HP.upd
  have hb1 : Upd [] w w1 := ((Upd.refl [] w).alloc _).trans' HU (fun k hk => .inr (by simp [blk] at hk; omega))
  have hown : KBx.row w1 w.heap.size (.slice A l.length C) l := by
    have : w1.ownsRow w.heap.size 109 5 (.slice A l.length C) l.length (KBx.all l) := by simpa using HP.own
    exact this
  have HO := Lib.hid (And.intro hown hb1)
  clear HP HU hb1 hown
  go_wp2_with fail
  go_ret
  exact ⟨_, _, rfl, HO.out.1, HO.out.2⟩
end Go.Proofs.Ytokeagmphjgkkaa
