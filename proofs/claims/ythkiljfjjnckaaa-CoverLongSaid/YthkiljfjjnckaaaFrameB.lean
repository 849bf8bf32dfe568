/- frame.Nodes: the nodes that are made once. -/
import Derived.Test.YthkiljfjjnckaaaFrame
namespace Go.Proofs.Ythkiljfjjnckaaa
open Go.RowKit Go.Shelf
attribute [local go_sem ↓] Go.wp_at_zero Go.wp_at_succ

/-- All nodes over n leaves. -/
def nodesN (n : Nat) : List Nd := if n = 0 then [] else nodesL 0 n 0

theorem nodesN_len (n : Nat) : (nodesN n).length = 2 * n - 1 := by
  unfold nodesN
  split
  · simp; omega
  · rw [nodesL_length _ (by omega)]; omega

/-- The frame, its nodes made: what the closure leaves. -/
def MadeR (w : World) (b n : Nat) (w' : World) : Prop := ∃ vn, w'.heap[b]? = some (.cells #[.int .u32 0, .int .i32 1, .int .u32 0, vn, .int .i64 (n : Int), .bool true] 143 (0, 0)) ∧ KD.row w' w.heap.size vn (nodesN n) ∧ Upd [b] w w'

theorem six_cells {w : World} {n : Nat} {x0 x1 x2 x3 x4 x5 : Value} {T : TypeId} (h : w.heap[n]? = some (.cells #[x0, x1, x2, x3, x4, x5] T (0, 0))) :
    (w.cell? ⟨n, 0, none⟩ = some x0 ∧ w.cell? ⟨n, 1, none⟩ = some x1 ∧ w.cell? ⟨n, 2, none⟩ = some x2 ∧ w.cell? ⟨n, 3, none⟩ = some x3 ∧ w.cell? ⟨n, 4, none⟩ = some x4 ∧ w.cell? ⟨n, 5, none⟩ = some x5) ∧ ∀ j, w.frozen? ⟨n, j, none⟩ = false := by
  refine ⟨⟨?_, ?_, ?_, ?_, ?_, ?_⟩, ?_⟩ <;> simp [World.cell?, World.frozen?, h]

/-- The closure's last statement: the pool's nodes are stored. -/
theorem made_end {w w1 w2 : World} {b n : Nat} (hu : Upd [] w w1)
    (hb : w1.heap[b]? = some (.cells #[.int .u32 0, .int .i32 1, .int .u32 0, .slice none 0 0, .int .i64 (n : Int), .bool true] 143 (0, 0))) (hbw : b < w.heap.size)
    {A : Option Addr} {C : Nat} (hr : KD.row w2 w1.heap.size (.slice A (nodesN n).length C) (nodesN n)) (h2 : Below w1.heap.size w1 w2) : MadeR w b n (w2.setCell ⟨b, 3, none⟩ (.slice A (nodesN n).length C)) := by
  have hu2 := Upd.of_below h2
  have hs := hu.size
  refine ⟨_, heap_set ((hu2.block b (lt_of_block hb) (by simp)).trans hb) 3 _, ?_, ?_⟩
  · refine own_base (row_set_other hr (fun hc => ?_) _) hs
    have := own_ge hr b hc
    omega
  · exact ((hu.trans hu2).mono (by simp)).setCell (.inl (by simp)) _

set_option maxRecDepth 100000 in
set_option maxHeartbeats 2000000 in
theorem allIn_zero (b l : Nat) (w : World) (hl : w.cell? ⟨l, 0, none⟩ = some (.pointer (some ⟨b, 0, none⟩)))
    (h : w.heap[b]? = some (.cells #[.int .u32 0, .int .i32 1, .int .u32 0, .slice none 0 0, .int .i64 ((0 : Nat) : Int), .bool true] 143 (0, 0))) :
    Calls Try.prog 106 #[.pointer (some ⟨l, 0, none⟩)] w fun e w' => e = .returned (.tuple #[]) ∧ MadeR w b 0 w' := by
  have hbw := lt_of_block h
  have hlw : l < w.heap.size := World.block_lt_of_cell? w _ hl
  obtain ⟨⟨_, _, _, c3, c4, _⟩, cf⟩ := six_cells h
  have c4' : w.cell? ⟨b, 4, none⟩ = some (.int .i64 0) := c4
  have hp : Calls Try.prog 107 #[.int .i64 0] w fun e w' => e = .returned (.tuple #[.pointer (some ⟨w.heap.size, 0, none⟩), .int .i64 0]) ∧ w' = w.alloc (.cells #[.int .i64 0, .slice none 0 0, .slice none 0 0, .bool true] 189) := poolNewC 0 (by omega) w
  have HP := Lib.hid hp
  clear hp
  have HH := Lib.hid h
  clear h cf c3 c4
  go_enter Try.func106, Try.ntmps106
  go_wp2_with fail
  (with_reducible refine HP.out.mono ?_)
  rintro e w' ⟨rfl, rfl⟩
  go_upto_region 3 with fail
  have hu1 : Upd [] w (w.alloc (.cells #[.int .i64 0, .slice none 0 0, .slice none 0 0, .bool true] 189)) := (Upd.refl _ _).alloc _
  have hp1 : PoolAt (w.alloc (.cells #[.int .i64 0, .slice none 0 0, .slice none 0 0, .bool true] 189)) w.heap.size 0 (.slice none 0 0) (.slice none 0 0) (nodesN 0) [] := ⟨heap_alloc_new w _, World.ownsRow_nil _ _ _ _, World.ownsRow_nil _ _ _ _, rfl, by simp [blk], by simp [blk], by simp [blk]⟩
  generalize (w.alloc (.cells #[.int .i64 0, .slice none 0 0, .slice none 0 0, .bool true] 189)) = W1 at hu1 hp1 ⊢
  have hu1w : Upd [] W1 W1 := Upd.refl _ _
  have hs1 : W1.cell? ⟨l, 0, none⟩ = some (.pointer (some ⟨b, 0, none⟩)) := (hu1.cell (p := ⟨l, 0, none⟩) hlw (by simp)).trans hl
  have s1 : W1.drew.cell? ⟨l, 0, none⟩ = some (.pointer (some ⟨b, 0, none⟩)) := hs1
  have hb1 := (hu1.block b hbw (by simp)).trans HH.out
  have HB1 := Lib.hid hb1
  have HU1 := Lib.hid hu1.drew
  have HBW := Lib.hid hbw
  have hn : Calls Try.prog 109 #[.pointer (some ⟨w.heap.size, 0, none⟩)] W1.drew fun e w' => ∃ A C, e = .returned (.slice A (nodesN 0).length C) ∧ KD.row w' W1.drew.heap.size (.slice A (nodesN 0).length C) (nodesN 0) ∧ Below W1.drew.heap.size W1.drew w' := poolNodesC _ _ _ _ _ _ _ (hp1.upd (hu1w.drew) (by simp)) (by rw [nodesN_len]; omega)
  have HN := Lib.hid hn
  clear hn hb1 hu1 hp1 hu1w
  -- region 3: T waits for all loads; fuel 1
  refine GoT.start [3, 4, 5, 6] (fun w' => w'.cell? ⟨l, 0, none⟩ = some (.pointer (some ⟨b, 0, none⟩))) (by kernel_rfl) ?_ fun hS => ?_
  · exact s1
  refine' GoT.take 1 (i := 0) (oi := ⟨some 27, _, _, _, _, _⟩) (v := _) rfl (by kernel_rfl) (by kernel_rfl) (by kernel_rfl) (by kernel_rfl) (fun _ _ _ h => h) (Or.inl ⟨by rfl, ?y3_0⟩) (by assumption) ?r3_0
  case y3_0 => intro w hSw; go_simp <;> with_reducible rfl
  simp only [Act.put, List.setIfInBounds_toArray, List.set_cons_zero, List.set_cons_succ]
  refine' GoT.move (i := 1) (oi := ⟨some 28, _, _, _, _, _⟩) (v := _) rfl (by kernel_rfl) (by kernel_rfl) (by kernel_rfl) (fun _ _ _ h => h) (Or.inl ⟨by rfl, ?y3_1⟩) ?r3_1
  case y3_1 => intro w; go_simp <;> with_reducible rfl
  simp only [Act.put, List.setIfInBounds_toArray, List.set_cons_zero, List.set_cons_succ]
  -- ACT 2: Go.Op.call { callee := Go.Callee.value (Go.Operand.func 109), args := #[Go.Operand.tmp 28], argTypes := #[166] }
  refine GoT.one (i := 2) (o := ⟨some 29, _, _, _, _, _⟩) rfl (by kernel_rfl) fun K hK => ?_
  go_simp
  go_at_call 109
  (with_reducible refine HN.out.mono ?_)
  rintro e w2 ⟨A, C, rfl, g1, g2⟩
  have hh2 := ((Upd.of_below g2).block b (lt_of_block HB1.out) (by simp)).trans HB1.out
  obtain ⟨⟨_, _, _, e3, _, _⟩, ef⟩ := six_cells hh2
  have e3f := ef 3
  have HG := Lib.hid (And.intro g1 g2)
  clear g1 g2 hh2 ef
  refine hK.out _ _ (fun _ h => ?_) ?_
  · exact (HG.out.2.cell (p := ⟨l, 0, none⟩) (World.block_lt_of_cell? _ _ h)).trans h
  clear hK K
  try simp only [Act.put, List.setIfInBounds_toArray, List.set_cons_zero, List.set_cons_succ]
  refine' GoT.move (i := 3) (oi := ⟨some 30, _, _, _, _, _⟩) (v := _) rfl (by kernel_rfl) (by kernel_rfl) (by kernel_rfl) (fun _ _ _ h => h) (Or.inl ⟨by rfl, ?y3_3⟩) ?r3_3
  case y3_3 => intro w; go_simp <;> with_reducible rfl
  simp only [Act.put, List.setIfInBounds_toArray, List.set_cons_zero, List.set_cons_succ]
  refine' GoT.move (i := 4) (oi := ⟨some 31, _, _, _, _, _⟩) (v := _) rfl (by kernel_rfl) (by kernel_rfl) (by kernel_rfl) (fun _ _ _ h => h) (Or.inl ⟨by rfl, ?y3_4⟩) ?r3_4
  case y3_4 => intro w; go_simp <;> with_reducible rfl
  simp only [Act.put, List.setIfInBounds_toArray, List.set_cons_zero, List.set_cons_succ]
  refine' GoT.move (i := 5) (oi := ⟨some 32, _, _, _, _, _⟩) (v := _) rfl (by kernel_rfl) (by kernel_rfl) (by kernel_rfl) (fun _ _ _ h => h) (Or.inl ⟨by rfl, ?y3_5⟩) ?r3_5
  case y3_5 => intro w; go_simp <;> with_reducible rfl
  simp only [Act.put, List.setIfInBounds_toArray, List.set_cons_zero, List.set_cons_succ]
  -- ACT 6: Go.Op.store 47 (Go.Operand.tmp 32) (Go.Operand.tmp 29)
  refine GoT.one (i := 6) (o := ⟨none, _, _, _, _, _⟩) rfl (by kernel_rfl) fun K hK => ?_
  go_simp
  refine hK.out _ _ (fun h => (by cases h)) ?_
  clear hK K
  try simp only [Act.put, List.setIfInBounds_toArray, List.set_cons_zero, List.set_cons_succ]
  refine GoT.done (by kernel_rfl) ?_
  go_wp2_with fail
  go_end0
  exact ⟨rfl, made_end HU1.out HB1.out HBW.out HG.out.1 HG.out.2⟩

set_option maxRecDepth 100000 in
set_option maxHeartbeats 2000000 in
theorem allIn_pos (b l n : Nat) (w : World) (hn0 : 0 < n) (hn1 : n < 400000) (hl : w.cell? ⟨l, 0, none⟩ = some (.pointer (some ⟨b, 0, none⟩)))
    (h : w.heap[b]? = some (.cells #[.int .u32 0, .int .i32 1, .int .u32 0, .slice none 0 0, .int .i64 (n : Int), .bool true] 143 (0, 0))) :
    Calls Try.prog 106 #[.pointer (some ⟨l, 0, none⟩)] w fun e w' => e = .returned (.tuple #[]) ∧ MadeR w b n w' := by
  have hbw := lt_of_block h
  have hlw : l < w.heap.size := World.block_lt_of_cell? w _ hl
  obtain ⟨⟨_, _, _, c3, c4, _⟩, cf⟩ := six_cells h
  have hp : Calls Try.prog 107 #[.int .i64 (2 * (n : Int))] w fun e w' => e = .returned (.tuple #[.pointer (some ⟨w.heap.size, 0, none⟩), .int .i64 0]) ∧ w' = w.alloc (.cells #[.int .i64 (2 * (n : Int)), .slice none 0 0, .slice none 0 0, .bool true] 189) := by
    have := poolNewC (2 * n) (by omega) w
    simpa using this
  have hp1 : PoolAt (w.alloc (.cells #[.int .i64 (2 * (n : Int)), .slice none 0 0, .slice none 0 0, .bool true] 189)) w.heap.size (2 * n : Nat) (.slice none 0 0) (.slice none 0 0) [] [] := ⟨by simpa using heap_alloc_new w _, World.ownsRow_nil _ _ _ _, World.ownsRow_nil _ _ _ _, rfl, by simp [blk], by simp [blk], by simp [blk]⟩
  have hla := layC w.heap.size (2 * n) n 0 n _ _ _ _ _ (by omega) hn0 (by omega) hp1 (by simp) (by simp; omega)
  have hu0 : Upd [] w (w.alloc (.cells #[.int .i64 (2 * (n : Int)), .slice none 0 0, .slice none 0 0, .bool true] 189)) := (Upd.refl _ _).alloc _
  have hd0 : decide ((0 : Int) < (n : Int)) = true := decide_eq_true (by omega)
  have b0 : (0 : Int) ≤ (n : Int) := Int.natCast_nonneg _
  have b1 : (n : Int) < 400000 := by omega
  have q4 : (w.alloc (.cells #[.int .i64 (2 * (n : Int)), .slice none 0 0, .slice none 0 0, .bool true] 189)).cell? ⟨b, 4, none⟩ = some (.int .i64 (n : Int)) := by rw [World.cell?_alloc_past _ _ _ hbw]; exact c4
  have ql : (w.alloc (.cells #[.int .i64 (2 * (n : Int)), .slice none 0 0, .slice none 0 0, .bool true] 189)).cell? ⟨l, 0, none⟩ = some (.pointer (some ⟨b, 0, none⟩)) := by rw [World.cell?_alloc_past _ _ _ hlw]; exact hl
  have hnd : [] ++ nodesL 0 n ([] : List Nd).length = nodesN n := by unfold nodesN; rw [if_neg (by omega)]; rfl
  rw [hnd] at hla
  obtain ⟨R, hR⟩ : ∃ R, ([] : List Nd).length + 2 * (n - 0) - 2 = R := ⟨_, rfl⟩
  rw [hR] at hla
  have HP := Lib.hid hp
  have HLA := Lib.hid (show Calls Try.prog 108 #[.pointer (some ⟨w.heap.size, 0, none⟩), .int .i64 0, .int .i64 (n : Int)] _ _ from hla)
  have HU0 := Lib.hid hu0
  have HH := Lib.hid h
  clear hp hla h cf c3 hp1 hu0 hnd hR
  go_enter Try.func106, Try.ntmps106
  go_wp2_with fail
  (with_reducible refine HP.out.mono ?_)
  rintro e w' ⟨rfl, rfl⟩
  go_wp2_with fail
  (with_reducible refine HLA.out.mono ?_)
  rintro e W1 ⟨rfl, vn, vk, hp1, r2, _⟩
  have hu1 : Upd [] w W1 := HU0.out.trans' r2 (fun x hx => .inr (by simp [blk] at hx; omega))
  have hu1w : Upd [] W1 W1 := Upd.refl _ _
  have hs1 : W1.cell? ⟨l, 0, none⟩ = some (.pointer (some ⟨b, 0, none⟩)) := (hu1.cell (p := ⟨l, 0, none⟩) hlw (by simp)).trans hl
  have s1 : W1.drew.cell? ⟨l, 0, none⟩ = some (.pointer (some ⟨b, 0, none⟩)) := hs1
  have hb1 := (hu1.block b hbw (by simp)).trans HH.out
  have HB1 := Lib.hid hb1
  have HU1 := Lib.hid hu1.drew
  have HBW := Lib.hid hbw
  have hn : Calls Try.prog 109 #[.pointer (some ⟨w.heap.size, 0, none⟩)] W1.drew fun e w' => ∃ A C, e = .returned (.slice A (nodesN n).length C) ∧ KD.row w' W1.drew.heap.size (.slice A (nodesN n).length C) (nodesN n) ∧ Below W1.drew.heap.size W1.drew w' := poolNodesC _ _ _ _ _ _ _ (hp1.upd (hu1w.drew) (by simp)) (by rw [nodesN_len]; omega)
  have HN := Lib.hid hn
  clear r2 hn hb1 hu1 hp1 hu1w
  go_upto_region 3 with fail
  -- region 3: T waits for all loads; fuel 1
  refine GoT.start [3, 4, 5, 6] (fun w' => w'.cell? ⟨l, 0, none⟩ = some (.pointer (some ⟨b, 0, none⟩))) (by kernel_rfl) ?_ fun hS => ?_
  · exact s1
  refine' GoT.take 1 (i := 0) (oi := ⟨some 27, _, _, _, _, _⟩) (v := _) rfl (by kernel_rfl) (by kernel_rfl) (by kernel_rfl) (by kernel_rfl) (fun _ _ _ h => h) (Or.inl ⟨by rfl, ?y3_0⟩) (by assumption) ?r3_0
  case y3_0 => intro w hSw; go_simp <;> with_reducible rfl
  simp only [Act.put, List.setIfInBounds_toArray, List.set_cons_zero, List.set_cons_succ]
  refine' GoT.move (i := 1) (oi := ⟨some 28, _, _, _, _, _⟩) (v := _) rfl (by kernel_rfl) (by kernel_rfl) (by kernel_rfl) (fun _ _ _ h => h) (Or.inl ⟨by rfl, ?y3_1⟩) ?r3_1
  case y3_1 => intro w; go_simp <;> with_reducible rfl
  simp only [Act.put, List.setIfInBounds_toArray, List.set_cons_zero, List.set_cons_succ]
  -- ACT 2: Go.Op.call { callee := Go.Callee.value (Go.Operand.func 109), args := #[Go.Operand.tmp 28], argTypes := #[166] }
  refine GoT.one (i := 2) (o := ⟨some 29, _, _, _, _, _⟩) rfl (by kernel_rfl) fun K hK => ?_
  go_simp
  go_at_call 109
  (with_reducible refine HN.out.mono ?_)
  rintro e w2 ⟨A, C, rfl, g1, g2⟩
  have hh2 := ((Upd.of_below g2).block b (lt_of_block HB1.out) (by simp)).trans HB1.out
  obtain ⟨⟨_, _, _, e3, _, _⟩, ef⟩ := six_cells hh2
  have e3f := ef 3
  have HG := Lib.hid (And.intro g1 g2)
  clear g1 g2 hh2 ef
  refine hK.out _ _ (fun _ h => ?_) ?_
  · exact (HG.out.2.cell (p := ⟨l, 0, none⟩) (World.block_lt_of_cell? _ _ h)).trans h
  clear hK K
  try simp only [Act.put, List.setIfInBounds_toArray, List.set_cons_zero, List.set_cons_succ]
  refine' GoT.move (i := 3) (oi := ⟨some 30, _, _, _, _, _⟩) (v := _) rfl (by kernel_rfl) (by kernel_rfl) (by kernel_rfl) (fun _ _ _ h => h) (Or.inl ⟨by rfl, ?y3_3⟩) ?r3_3
  case y3_3 => intro w; go_simp <;> with_reducible rfl
  simp only [Act.put, List.setIfInBounds_toArray, List.set_cons_zero, List.set_cons_succ]
  refine' GoT.move (i := 4) (oi := ⟨some 31, _, _, _, _, _⟩) (v := _) rfl (by kernel_rfl) (by kernel_rfl) (by kernel_rfl) (fun _ _ _ h => h) (Or.inl ⟨by rfl, ?y3_4⟩) ?r3_4
  case y3_4 => intro w; go_simp <;> with_reducible rfl
  simp only [Act.put, List.setIfInBounds_toArray, List.set_cons_zero, List.set_cons_succ]
  refine' GoT.move (i := 5) (oi := ⟨some 32, _, _, _, _, _⟩) (v := _) rfl (by kernel_rfl) (by kernel_rfl) (by kernel_rfl) (fun _ _ _ h => h) (Or.inl ⟨by rfl, ?y3_5⟩) ?r3_5
  case y3_5 => intro w; go_simp <;> with_reducible rfl
  simp only [Act.put, List.setIfInBounds_toArray, List.set_cons_zero, List.set_cons_succ]
  -- ACT 6: Go.Op.store 47 (Go.Operand.tmp 32) (Go.Operand.tmp 29)
  refine GoT.one (i := 6) (o := ⟨none, _, _, _, _, _⟩) rfl (by kernel_rfl) fun K hK => ?_
  go_simp
  refine hK.out _ _ (fun h => (by cases h)) ?_
  clear hK K
  try simp only [Act.put, List.setIfInBounds_toArray, List.set_cons_zero, List.set_cons_succ]
  refine GoT.done (by kernel_rfl) ?_
  go_wp2_with fail
  go_end0
  exact ⟨rfl, made_end HU1.out HB1.out HBW.out HG.out.1 HG.out.2⟩

/-- What the nodes are asked for leaves: a row of them. -/
def NodesPost (w : World) (b n : Nat) (e : Ending) (w' : World) : Prop :=
  ∃ A C, e = .returned (.slice A (nodesN n).length C) ∧ KD.row w' w.heap.size (.slice A (nodesN n).length C) (nodesN n) ∧ Upd [b] w w'

set_option maxRecDepth 100000 in
set_option maxHeartbeats 2000000 in
theorem frameAll (b n : Nat) (w : World) (hn : n < 400000) (h : FrameAt w b n) :
    Calls Try.prog 85 #[.pointer (some ⟨b, 0, none⟩)] w (NodesPost w b n) := by
  have hbw := lt_of_block h
  have hmf : ∀ (fn : Fn) (first cap : Array Value) (w : World), (Instr.makeFunc fn first cap).run Try.prog w = .ok (.func fn first cap) w := fun _ _ _ _ => rfl
  have hu0 : Upd [] w (w.alloc (.cells #[.pointer (some ⟨b, 0, none⟩)] 92)) := (Upd.refl _ _).alloc _
  have hl0 : (w.alloc (.cells #[.pointer (some ⟨b, 0, none⟩)] 92)).cell? ⟨w.heap.size, 0, none⟩ = some (.pointer (some ⟨b, 0, none⟩)) := by rw [World.cell?_alloc_at _ _ _ _ rfl]; rfl
  have h0 := (hu0.block b hbw (by simp)).trans h
  have hs0 : w.heap.size < (w.alloc (.cells #[.pointer (some ⟨b, 0, none⟩)] 92)).heap.size := by simp
  generalize hW0 : w.alloc (.cells #[.pointer (some ⟨b, 0, none⟩)] 92) = W0 at hu0 hl0 h0 hs0
  have hbl : (⟨b, 1, none⟩ : Addr) ≠ ⟨w.heap.size, 0, none⟩ := fun e => by injection e with e _ _; omega
  have h1 : (W0.setCell ⟨b, 1, none⟩ (.int .i32 1)).heap[b]? = some (.cells #[.int .u32 0, .int .i32 1, .int .u32 0, .slice none 0 0, .int .i64 (n : Int), .bool true] 143 (0, 0)) := heap_set h0 1 _
  have hl1 : (W0.setCell ⟨b, 1, none⟩ (.int .i32 1)).cell? ⟨w.heap.size, 0, none⟩ = some (.pointer (some ⟨b, 0, none⟩)) := (World.cell?_setCell_other _ _ _ _ hbl).trans hl0
  have hu1 : Upd [b] W0 (W0.setCell ⟨b, 1, none⟩ (.int .i32 1)) := (Upd.refl _ _).setCell (.inl (by simp)) _
  obtain ⟨⟨c0, c1, _⟩, cf⟩ := six_cells h0
  have hcl : Calls Try.prog 106 #[.pointer (some ⟨w.heap.size, 0, none⟩)] (W0.setCell ⟨b, 1, none⟩ (.int .i32 1)) fun e w' => e = .returned (.tuple #[]) ∧ MadeR (W0.setCell ⟨b, 1, none⟩ (.int .i32 1)) b n w' := by
    rcases Nat.eq_zero_or_pos n with rfl | hp
    · exact allIn_zero b _ _ hl1 h1
    · exact allIn_pos b _ n _ hp hn hl1 h1
  have hdo := do_first b _ _ W0 hcl (fun w' hr => by
    obtain ⟨vn, g1, _, _⟩ := hr
    obtain ⟨⟨e0, e1, _⟩, ef⟩ := six_cells g1
    exact ⟨e0, e1, ef 0, ef 1⟩) c0 c1 (cf 1)
  have HDO := Lib.hid hdo
  have HU := Lib.hid (And.intro hu0 hu1)
  have HL := Lib.hid hl1
  have HW := Lib.hid hW0
  have HS := Lib.hid hs0
  clear hdo hcl hu0 hu1 hl1 h1 h0 c0 c1 cf h hbl hW0
  go_enter Try.func85, Try.ntmps85
  go_upto_region 1 with fail
  rw [HW.out]
  go_wp2_with fail
  (with_reducible refine HDO.out.mono ?_)
  rintro e w' ⟨rfl, w2, ⟨vn, g1, g2, g3⟩, rfl⟩
  obtain ⟨A, C, rfl⟩ := own_form g2
  have k1 := heap_set (heap_set g1 0 (.int .u32 1)) 1 (.int .i32 0)
  have k2 : Upd [b] w2 ((w2.setCell ⟨b, 0, none⟩ (.int .u32 1)).setCell ⟨b, 1, none⟩ (.int .i32 0)).drew := (((Upd.refl [b] w2).setCell (p := ⟨b, 0, none⟩) (.inl (by simp)) _).setCell (p := ⟨b, 1, none⟩) (.inl (by simp)) _).drew
  have hs1 : W0.heap.size = (W0.setCell ⟨b, 1, none⟩ (.int .i32 1)).heap.size := by simp [World.setCell]
  have hbv : b ∉ blk (.slice A (nodesN n).length C) := fun hc => by
    have := own_ge g2 b hc
    rw [← hs1] at this
    omega
  have k3 : KD.row ((w2.setCell ⟨b, 0, none⟩ (.int .u32 1)).setCell ⟨b, 1, none⟩ (.int .i32 0)).drew W0.heap.size (.slice A (nodesN n).length C) (nodesN n) := by
    rw [hs1]
    exact own_upd g2 k2 (fun y hy hc => hbv (by simp at hc; rw [← hc]; exact hy))
  have hlb2 : w.heap.size ≠ b := by omega
  have k4 : ((w2.setCell ⟨b, 0, none⟩ (.int .u32 1)).setCell ⟨b, 1, none⟩ (.int .i32 0)).drew.cell? ⟨w.heap.size, 0, none⟩ = some (.pointer (some ⟨b, 0, none⟩)) :=
    ((g3.trans k2).cell (p := ⟨w.heap.size, 0, none⟩) (by rw [← hs1]; exact HS.out) (by simpa using hlb2)).trans HL.out
  have k5 : ((w2.setCell ⟨b, 0, none⟩ (.int .u32 1)).setCell ⟨b, 1, none⟩ (.int .i32 0)).drew.cell? ⟨b, 3, none⟩ = some (.slice A (nodesN n).length C) := by
    rw [World.cell?_drew]
    unfold World.cell?
    rw [k1]
    rfl
  have HE := Lib.hid (And.intro k3 (HU.out.1.mono (G := [b]) (by simp) |>.trans (HU.out.2.trans (g3.trans k2))))
  have HSZ : w.heap.size ≤ W0.heap.size := Nat.le_of_lt HS.out
  clear k1 k2 k3 g1 g2 g3 hs1 hbv hlb2
  generalize ((w2.setCell ⟨b, 0, none⟩ (.int .u32 1)).setCell ⟨b, 1, none⟩ (.int .i32 0)).drew = W3 at *
  go_wp2_with fail
  go_ret
  exact ⟨A, C, rfl, own_base HE.out.1 HSZ, HE.out.2⟩

set_option maxRecDepth 100000 in
set_option maxHeartbeats 2000000 in
theorem frameNodes (b n : Nat) (w : World) (hn : n < 400000) (h : FrameAt w b n) :
    Calls Try.prog 54 #[.pointer (some ⟨b, 0, none⟩)] w (NodesPost w b n) := by
  obtain ⟨i0, hi, hz0, hz1, hz2⟩ := info_parts info_nd
  have hbw := lt_of_block h
  have hu0 : Upd [] w (w.alloc (.cells #[] 106)) := (Upd.refl _ _).alloc _
  have hr0 : (w.alloc (.cells #[] 106)).ownsRow w.heap.size 106 7 (.slice (some ⟨w.heap.size, 0, none⟩) 0 0) 0 [] := ⟨rfl, .inr ⟨w.heap.size, 0, #[], rfl, Nat.le_refl _, heap_alloc_new w _, Nat.le_refl _, Nat.zero_le _, rfl, rfl⟩⟩
  have hs0 : w.heap.size < (w.alloc (.cells #[] 106)).heap.size := by simp
  have hnn := frameNone b n w h
  have hal := frameAll b n (w.alloc (.cells #[] 106)) hn ((hu0.block b hbw (by simp)).trans h)
  have hl := nodesN_len n
  obtain ⟨N, hN⟩ : ∃ N, (nodesN n).length = N := ⟨_, rfl⟩
  have HN := Lib.hid hnn
  have HA := Lib.hid hal
  have HU := Lib.hid hu0
  have HR := Lib.hid hr0
  have HNE := Lib.hid hN
  have hNb : N < 1000000 := by omega
  clear hnn hal hu0 hr0 h hl hN
  go_enter Try.func54, Try.ntmps54
  go_wp2_with fail
  (with_reducible refine HN.out.mono ?_)
  rintro e w' ⟨rfl, rfl⟩
  go_wp2_with fail
  (with_reducible refine HA.out.mono ?_)
  rintro e w' ⟨A, C, rfl, g1, g2⟩
  have k1 : w'.ownsRow w.heap.size 106 7 (.slice (some ⟨w.heap.size, 0, none⟩) 0 0) 0 [] := own_upd HR.out g2 (by simp [blk]; omega)
  have k2 := sees_of_own g1
  rw [HNE.out] at k2 ⊢
  have k3 : w.heap.size ≤ w'.heap.size := by have := g2.size; omega
  have HK := Lib.hid (And.intro k1 k2)
  have HG := Lib.hid g2
  clear k1 k2 g1 g2
  go_wp2_with (at_builtin; refine wpList_app _ rfl _ _ 47 rfl w.heap.size 106 i0 (.agg #[.int .u8 0, .int .i64 0, .int .i64 0, .int .i64 0, .int .i64 0, .int .i64 0, .int .i64 0]) 7 56 Try.underlying47 hi hz0 hz1 hz2 rfl (by decide) _ 0 [] rfl HK.out.1 _ N (KD.all (nodesN n)) rfl HK.out.2 (KD.all_one _) (by unfold maxLen; omega) (by omega) k3 ?_)
  intro A2 C2 w2 HP
  have HP2 := Lib.hid HP
  clear HP
  go_wp2_with fail
  go_ret
  have e1 := HP2.out.own
  have e2 := HP2.out.upd
  refine ⟨A2, C2, ?_, ?_, ?_⟩
  · rw [HNE.out]; rfl
  · rw [HNE.out]
    unfold Kind.row
    rw [HNE.out]
    have e1' : w2.ownsRow w.heap.size 106 7 (.slice A2 N C2) N (KD.all (nodesN n)) := by simpa using e1
    exact e1'
  · exact ((HU.out.mono (by simp)).trans HG.out).trans' e2 (fun y hy => .inr (by simp [blk] at hy; omega))
end Go.Proofs.Ythkiljfjjnckaaa
