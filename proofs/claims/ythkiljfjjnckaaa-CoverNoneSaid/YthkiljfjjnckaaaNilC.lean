/- Who was not made by New: no cover. -/
import Derived.Test.YthkiljfjjnckaaaWhole
namespace Go.Proofs.Ythkiljfjjnckaaa
open Go.RowKit
attribute [local go_sem ↓] Go.wp_at_zero Go.wp_at_succ

/-- No cover: nil, or one without a map. -/
def NilP (w : World) (p : Value) : Prop := p = .pointer none ∨ ∃ b, p = .pointer (some ⟨b, 0, none⟩) ∧ w.cell? ⟨b, 5, none⟩ = some (.map none)

theorem NilP.upd {w w' : World} {p : Value} (h : NilP w p) (hu : Upd [] w w') : NilP w' p := by
  rcases h with h | ⟨b, h1, h2⟩
  · exact .inl h
  · exact .inr ⟨b, h1, (hu.cell (p := ⟨b, 5, none⟩) (World.block_lt_of_cell? w _ h2) (by simp)).trans h2⟩

set_option maxRecDepth 100000 in
set_option maxHeartbeats 400000 in
theorem noneT (p : Value) (w : World) (h : NilP w p) :
    Calls Try.prog 55 #[p] w fun e w' => e = .returned (.bool true) ∧ w = w' := by
  have hmn : ∀ (w : World), (binOp .eql 50 (.map none) (.map none)).run Try.prog w = .ok (.bool true) w := fun w => run_eql_map_nil (P := Try.prog) w 50 96 3 none Try.underlying50
  rcases h with rfl | ⟨b, rfl, c5⟩
  · go_enter Try.func55, Try.ntmps55
    go_wp2_with fail
    go_ret
    exact ⟨rfl, rfl⟩
  · go_enter Try.func55, Try.ntmps55
    go_wp2_with fail
    go_ret
    exact ⟨rfl, rfl⟩

set_option maxRecDepth 100000 in
set_option maxHeartbeats 400000 in
theorem addN (p : Value) (lo hi : Int) (w : World) (h : NilP w p) :
    Calls Try.prog 21 #[p, .int .i64 lo, .int .i64 hi] w fun e w' => e = .returned (.tuple #[.int .i64 0, .int .i64 1]) ∧ Upd [] w w' := by
  have HN := Lib.hid (noneT p w h)
  clear h
  go_enter Try.func21, Try.ntmps21
  go_wp2_with fail
  (with_reducible refine HN.out.mono ?_)
  rintro e w' ⟨rfl, rfl⟩
  go_wp2_with fail
  go_ret2
  exact ⟨rfl, Upd.refl _ _⟩

set_option maxRecDepth 100000 in
set_option maxHeartbeats 400000 in
theorem dropN (p : Value) (lo hi : Int) (w : World) (h : NilP w p) :
    Calls Try.prog 19 #[p, .int .i64 lo, .int .i64 hi] w fun e w' => e = .returned (.tuple #[.int .i64 0, .int .i64 1]) ∧ Upd [] w w' := by
  have HN := Lib.hid (noneT p w h)
  clear h
  go_enter Try.func19, Try.ntmps19
  go_wp2_with fail
  (with_reducible refine HN.out.mono ?_)
  rintro e w' ⟨rfl, rfl⟩
  go_wp2_with fail
  go_ret2
  exact ⟨rfl, Upd.refl _ _⟩

set_option maxRecDepth 100000 in
set_option maxHeartbeats 400000 in
theorem wholeN (p : Value) (w : World) (h : NilP w p) :
    Calls Try.prog 60 #[p] w (KnownPost ⟨0, 0, false, false⟩ w) := by
  have hu0 : Upd [] w (w.alloc (.cells #[.int .u64 0, .int .i64 0, .bool false, .bool false] 103)) := (Upd.refl _ _).alloc _
  have HN := Lib.hid (noneT p _ (h.upd hu0))
  clear h hu0
  go_enter Try.func60, Try.ntmps60
  go_wp2_with fail
  (with_reducible refine HN.out.mono ?_)
  rintro e w' ⟨rfl, rfl⟩
  go_wp2_with fail
  refine bodyPost_ret (v := partVal ⟨0, 0, false, false⟩) (by simp [results, Try.results60, go_sem, partVal]) rfl ⟨rfl, (Upd.refl _ _).alloc _⟩

set_option maxRecDepth 100000 in
set_option maxHeartbeats 400000 in
theorem longN (p : Value) (w : World) (h : NilP w p) :
    Calls Try.prog 23 #[p] w fun e w' => e = .returned (.int .u64 0) ∧ Upd [] w w' := by
  have hw := wholeN p w h
  unfold KnownPost partVal at hw
  dsimp only at hw ⊢
  have hfd : ∀ w : World, (Instr.field 103 (.agg #[.int .u64 0, .int .i64 0, .bool false, .bool false]) 0).run Try.prog w = .ok (.int .u64 0) w := fun _ => by kernel_rfl
  have HW := Lib.hid hw
  clear hw h
  go_enter Try.func23, Try.ntmps23
  go_wp2_with fail
  (with_reducible refine HW.out.mono ?_)
  rintro e w1 ⟨rfl, hu⟩
  have HU := Lib.hid hu
  clear hu
  go_wp2_with fail
  go_ret
  exact ⟨rfl, HU.out⟩

set_option maxRecDepth 100000 in
set_option maxHeartbeats 400000 in
theorem runsN (p : Value) (w : World) (h : NilP w p) :
    Calls Try.prog 25 #[p] w fun e w' => e = .returned (.int .i64 0) ∧ Upd [] w w' := by
  have hw := wholeN p w h
  unfold KnownPost partVal at hw
  dsimp only at hw ⊢
  have hfd : ∀ w : World, (Instr.field 103 (.agg #[.int .u64 0, .int .i64 0, .bool false, .bool false]) 1).run Try.prog w = .ok (.int .i64 0) w := fun _ => by kernel_rfl
  have HW := Lib.hid hw
  clear hw h
  go_enter Try.func25, Try.ntmps25
  go_wp2_with fail
  (with_reducible refine HW.out.mono ?_)
  rintro e w1 ⟨rfl, hu⟩
  have HU := Lib.hid hu
  clear hu
  go_wp2_with fail
  go_ret
  exact ⟨rfl, HU.out⟩

set_option maxRecDepth 100000 in
set_option maxHeartbeats 400000 in
theorem gapsN (p : Value) (w : World) (h : NilP w p) :
    Calls Try.prog 28 #[p] w fun e w' => e = .returned (.slice none 0 0) ∧ Upd [] w w' := by
  have HN := Lib.hid (noneT p w h)
  clear h
  go_enter Try.func28, Try.ntmps28
  go_wp2_with fail
  (with_reducible refine HN.out.mono ?_)
  rintro e w' ⟨rfl, rfl⟩
  go_wp2_with fail
  go_ret
  exact ⟨rfl, Upd.refl _ _⟩
end Go.Proofs.Ythkiljfjjnckaaa
