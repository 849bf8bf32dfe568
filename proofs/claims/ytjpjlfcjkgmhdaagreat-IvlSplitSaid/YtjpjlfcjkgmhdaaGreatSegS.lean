/- A seg tree in memory: its ends, its frame, the rows of spans at its nodes. -/
import Derived.Test.YtjpjlfcjkgmhdaaGreatSegQ
import Derived.Test.YtjpjlfcjkgmhdaaGreatPthS
import Derived.Test.YtjpjlfcjkgmhdaaGreatRowsB
import Derived.Test.YtjpjlfcjkgmhdaaGreatSpanK
namespace Go.Proofs.YtjpjlfcjkgmhdaaGreat
open Go.RowKit

/-- Who stands at the nodes. -/
def atS (E : List Int) (S : List Sp) : List (List Sp) := (List.range (2 * nSl E - 1)).map fun k => S.filter fun s => decide (k ∈ nodesS E s)

theorem atS_len (E : List Int) (S : List Sp) : (atS E S).length = 2 * nSl E - 1 := by simp [atS]
theorem atS_at {E : List Int} {S : List Sp} {k : Nat} (h : k < 2 * nSl E - 1) : (atS E S)[k]? = some (S.filter fun s => decide (k ∈ nodesS E s)) := by
  unfold atS
  rw [List.getElem?_map, List.getElem?_range h]
  rfl

/-- A seg tree in memory. -/
structure SegAt (w : World) (b fb : Nat) (ve vn va : Value) (vs : List Value) (E : List Int) (R : List (List Sp)) (c : Int) : Prop where
  head : w.heap[b]? = some (.cells #[ve, .pointer (some ⟨fb, 0, none⟩), va, .int .i64 c] 59 (0, 0))
  ends : KL.row w 0 ve E
  frm : FrmD w fb vn (nSl E)
  rows : RowsAt KSp w va vs R
  bfb : b ≠ fb
  bve : b ∉ blk ve
  bvn : b ∉ blk vn
  bro : b ∉ rfoot va vs
  fro : fb ∉ rfoot va vs
  ero : ∀ y ∈ blk ve, y ∉ rfoot va vs
  nro : ∀ y ∈ blk vn, y ∉ rfoot va vs

theorem SegAt.upd {w w' : World} {b fb : Nat} {ve vn va : Value} {vs : List Value} {E : List Int} {R : List (List Sp)} {c : Int} (h : SegAt w b fb ve vn va vs E R c) {F : List Nat} (hu : Upd F w w')
    (h1 : b ∉ F) (h2 : fb ∉ F) (h3 : ∀ y ∈ blk ve, y ∉ F) (h4 : ∀ y ∈ blk vn, y ∉ F) (h5 : ∀ y ∈ rfoot va vs, y ∉ F) : SegAt w' b fb ve vn va vs E R c :=
  ⟨(hu.block b (lt_of_block h.head) h1).trans h.head, own_upd h.ends hu h3, h.frm.upd hu h2 h4, h.rows.upd hu h5, h.bfb, h.bve, h.bvn, h.bro, h.fro, h.ero, h.nro⟩

theorem SegAt.upd0 {w w' : World} {b fb : Nat} {ve vn va : Value} {vs : List Value} {E : List Int} {R : List (List Sp)} {c : Int} (h : SegAt w b fb ve vn va vs E R c) (hu : Upd [] w w') : SegAt w' b fb ve vn va vs E R c :=
  h.upd hu (by simp) (by simp) (by simp) (by simp) (by simp)

theorem SegAt.cells {w : World} {b fb : Nat} {ve vn va : Value} {vs : List Value} {E : List Int} {R : List (List Sp)} {c : Int} (h : SegAt w b fb ve vn va vs E R c) :
    w.cell? ⟨b, 0, none⟩ = some ve ∧ w.cell? ⟨b, 1, none⟩ = some (.pointer (some ⟨fb, 0, none⟩)) ∧ w.cell? ⟨b, 2, none⟩ = some va ∧ w.cell? ⟨b, 3, none⟩ = some (.int .i64 c) ∧ ∀ j, w.frozen? ⟨b, j, none⟩ = false := by
  have := h.head
  refine ⟨?_, ?_, ?_, ?_, ?_⟩ <;> simp [World.cell?, World.frozen?, this]

/-- A row of spans more at a node: appended to and stored. -/
theorem SegAt.extend {w w2 : World} {b fb g N C : Nat} {ve vn : Value} {vs : List Value} {E : List Int} {R : List (List Sp)} {c : Int} (h : SegAt w b fb ve vn (.slice (some ⟨g, 0, none⟩) N C) vs E R c) (hN : N = vs.length)
    {i : Nat} {u v : Value} {l : List Sp} (hv : vs[i]? = some u) (hu : Upd (blk u) w w2) (hrow : KSp.row w2 0 v l) (hb : blk v = blk u ∨ blk v = [w.heap.size]) :
    SegAt (w2.setCell ⟨g, i, none⟩ v) b fb ve vn (.slice (some ⟨g, 0, none⟩) N C) (vs.set i v) E (R.set i l) c ∧ Upd (rfoot (.slice (some ⟨g, 0, none⟩) N C) vs) w (w2.setCell ⟨g, i, none⟩ v) ∧
      ∀ k ∈ rfoot (.slice (some ⟨g, 0, none⟩) N C) (vs.set i v), k ∈ rfoot (.slice (some ⟨g, 0, none⟩) N C) vs ∨ w.heap.size ≤ k := by
  obtain ⟨r1, r2, r3⟩ := h.rows.extend hN hv hu hrow hb
  have hbw := lt_of_block h.head
  have hfw := lt_of_block h.frm.head
  have hew := own_lt h.ends
  have hnw := own_lt h.frm.row
  refine ⟨⟨(r2.block b hbw h.bro).trans h.head, own_upd h.ends r2 h.ero, h.frm.upd r2 h.fro h.nro, r1, h.bfb, h.bve, h.bvn, fun hc => ?_, fun hc => ?_, fun y hy hc => ?_, fun y hy hc => ?_⟩, r2, r3⟩
  · rcases r3 b hc with h1 | h1
    · exact h.bro h1
    · omega
  · rcases r3 fb hc with h1 | h1
    · exact h.fro h1
    · omega
  · have := hew y hy
    rcases r3 y hc with h1 | h1
    · exact h.ero y hy h1
    · omega
  · have := hnw y hy
    rcases r3 y hc with h1 | h1
    · exact h.nro y hy h1
    · omega

set_option maxRecDepth 100000 in
set_option maxHeartbeats 400000 in
theorem segNone {w : World} {b fb : Nat} {ve vn va : Value} {vs : List Value} {E : List Int} {R : List (List Sp)} {c : Int} (h : SegAt w b fb ve vn va vs E R c) :
    Calls Tryz.prog 45 #[.pointer (some ⟨b, 0, none⟩)] w fun e w' => e = .returned (.bool false) ∧ w = w' := by
  obtain ⟨-, c1, -⟩ := h.cells
  clear h
  go_enter Tryz.func45, Tryz.ntmps45
  go_wp2_with fail
  go_ret
  exact ⟨rfl, rfl⟩

set_option maxRecDepth 100000 in
set_option maxHeartbeats 400000 in
theorem segNoneNil (w : World) :
    Calls Tryz.prog 45 #[.pointer none] w fun e w' => e = .returned (.bool true) ∧ w = w' := by
  go_enter Tryz.func45, Tryz.ntmps45
  go_wp2_with fail
  go_ret
  exact ⟨rfl, rfl⟩
end Go.Proofs.YtjpjlfcjkgmhdaaGreat
