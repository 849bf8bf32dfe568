/- The walk of HalfNone. -/
import Derived.Test.YtkhgglafnjfiaaaHalfAw
namespace Go.Proofs.Ytkhgglafnjfiaaa
open Go.RowKit

/-- A Half that is none: nil, or one that New did not answer. -/
def NoneH (w : World) (hv : Value) : Prop := hv = .pointer none ∨ ∃ b, hv = .pointer (some ⟨b, 0, none⟩) ∧ w.cell? ⟨b, 2, none⟩ = some (.pointer none)

theorem NoneH.upd {w w' : World} {hv : Value} (h : NoneH w hv) (hu : Upd [] w w') : NoneH w' hv := by
  rcases h with h | ⟨b, rfl, hc⟩
  · exact .inl h
  · exact .inr ⟨b, rfl, (hu.cell (p := ⟨b, 2, none⟩) (World.block_lt_of_cell? w _ hc) (by simp)).trans hc⟩

set_option maxRecDepth 100000 in
set_option maxHeartbeats 400000 in
theorem none_true (hv : Value) (w : World) (h : NoneH w hv) :
    Calls Try.prog 62 #[hv] w fun e w' => e = .returned (.bool true) ∧ w = w' := by
  rcases h with rfl | ⟨b, rfl, hc⟩
  · go_enter Try.func62, Try.ntmps62
    go_wp2_with fail
    go_ret
    exact ⟨rfl, rfl⟩
  · go_enter Try.func62, Try.ntmps62
    go_wp2_with fail
    go_ret
    exact ⟨rfl, rfl⟩

set_option maxRecDepth 100000 in
set_option maxHeartbeats 400000 in
theorem addN (hv : Value) (x : Int) (w : World) (h : NoneH w hv) :
    Calls Try.prog 40 #[hv, .int .i64 x] w fun e w' => e = .returned (.tuple #[.int .i64 0, .bool false]) ∧ w = w' := by
  have HN := Lib.hid h
  clear h
  go_enter Try.func40, Try.ntmps40
  go_wp2_with fail
  refine (none_true hv w HN.out).mono ?_
  rintro e w' ⟨rfl, rfl⟩
  go_wp2_with fail
  go_ret2
  exact ⟨rfl, rfl⟩

set_option maxRecDepth 100000 in
set_option maxHeartbeats 400000 in
theorem dropN0 (hv : Value) (x : Int) (w : World) (h : NoneH w hv) :
    Calls Try.prog 39 #[hv, .int .i64 x] w fun e w' => e = .returned (.tuple #[.int .i64 0, .bool false]) ∧ w = w' := by
  have HN := Lib.hid h
  clear h
  go_enter Try.func39, Try.ntmps39
  go_wp2_with fail
  refine (none_true hv w HN.out).mono ?_
  rintro e w' ⟨rfl, rfl⟩
  go_wp2_with fail
  go_ret2
  exact ⟨rfl, rfl⟩

set_option maxRecDepth 100000 in
set_option maxHeartbeats 400000 in
theorem lenN (hv : Value) (w : World) (h : NoneH w hv) :
    Calls Try.prog 48 #[hv] w fun e w' => e = .returned (.int .i64 0) ∧ w = w' := by
  have HN := Lib.hid h
  clear h
  go_enter Try.func48, Try.ntmps48
  go_wp2_with fail
  refine (none_true hv w HN.out).mono ?_
  rintro e w' ⟨rfl, rfl⟩
  go_wp2_with fail
  go_ret
  exact ⟨rfl, rfl⟩

set_option maxRecDepth 100000 in
set_option maxHeartbeats 400000 in
theorem storedN (hv : Value) (w : World) (h : NoneH w hv) :
    Calls Try.prog 49 #[hv] w fun e w' => e = .returned (.int .i64 0) ∧ w = w' := by
  have HN := Lib.hid h
  clear h
  go_enter Try.func49, Try.ntmps49
  go_wp2_with fail
  refine (none_true hv w HN.out).mono ?_
  rintro e w' ⟨rfl, rfl⟩
  go_wp2_with fail
  go_ret
  exact ⟨rfl, rfl⟩

set_option maxRecDepth 100000 in
set_option maxHeartbeats 400000 in
theorem workN (hv : Value) (w : World) (h : NoneH w hv) :
    Calls Try.prog 50 #[hv] w fun e w' => e = .returned (.int .i64 0) ∧ w = w' := by
  have HN := Lib.hid h
  clear h
  go_enter Try.func50, Try.ntmps50
  go_wp2_with fail
  refine (none_true hv w HN.out).mono ?_
  rintro e w' ⟨rfl, rfl⟩
  go_wp2_with fail
  go_ret
  exact ⟨rfl, rfl⟩

set_option maxRecDepth 100000 in
set_option maxHeartbeats 400000 in
theorem allN (hv : Value) (w : World) (h : NoneH w hv) :
    Calls Try.prog 42 #[hv] w fun e w' => e = .returned (.slice none 0 0) ∧ w = w' := by
  have HN := Lib.hid h
  clear h
  go_enter Try.func42, Try.ntmps42
  go_wp2_with fail
  refine (none_true hv w HN.out).mono ?_
  rintro e w' ⟨rfl, rfl⟩
  go_wp2_with fail
  go_ret
  exact ⟨rfl, rfl⟩

set_option maxRecDepth 100000 in
set_option maxHeartbeats 400000 in
theorem treesN (hv : Value) (w : World) (h : NoneH w hv) :
    Calls Try.prog 43 #[hv] w fun e w' => e = .returned (.slice none 0 0) ∧ w = w' := by
  have HN := Lib.hid h
  clear h
  go_enter Try.func43, Try.ntmps43
  go_wp2_with fail
  refine (none_true hv w HN.out).mono ?_
  rintro e w' ⟨rfl, rfl⟩
  go_wp2_with fail
  go_ret
  exact ⟨rfl, rfl⟩

set_option maxRecDepth 100000 in
set_option maxHeartbeats 400000 in
theorem newN1 (w : World) :
    Calls Try.prog 36 #[.nilFunc, .func (.func 38) #[] #[]] w fun e w' => e = .returned (.pointer none) ∧ w = w' := by
  have e1 : ∀ w, (binOp .eql 59 .nilFunc .nilFunc).run Try.prog w = .ok (.bool true) w := fun w => rfl
  go_enter Try.func36, Try.ntmps36
  go_wp2_with fail
  go_ret
  exact ⟨rfl, rfl⟩

set_option maxRecDepth 100000 in
set_option maxHeartbeats 400000 in
theorem newN2 (w : World) :
    Calls Try.prog 36 #[.func (.func 37) #[] #[], .nilFunc] w fun e w' => e = .returned (.pointer none) ∧ w = w' := by
  have e1 : ∀ w, (binOp .eql 59 (.func (.func 37) #[] #[]) .nilFunc).run Try.prog w = .ok (.bool false) w := fun w => rfl
  have e2 : ∀ w, (binOp .eql 60 .nilFunc .nilFunc).run Try.prog w = .ok (.bool true) w := fun w => rfl
  go_enter Try.func36, Try.ntmps36
  go_wp2_with fail
  go_ret
  exact ⟨rfl, rfl⟩

theorem none_row (w : World) : ∀ k, k < 4 → ∃ hv, ((w.alloc (.cells #[.nilFunc, .nilFunc, .pointer none, .slice none 0 0, .slice none 0 0, .slice none 0 0, .map none] 83)).alloc (.cells #[.pointer none, .pointer (some ⟨w.heap.size, 0, none⟩), .pointer none, .pointer none] 56)).cell? ⟨w.heap.size + 1, k, none⟩ = some hv ∧ NoneH ((w.alloc (.cells #[.nilFunc, .nilFunc, .pointer none, .slice none 0 0, .slice none 0 0, .slice none 0 0, .map none] 83)).alloc (.cells #[.pointer none, .pointer (some ⟨w.heap.size, 0, none⟩), .pointer none, .pointer none] 56)) hv := by
  intro k hk
  have hc : ∀ k, ((w.alloc (.cells #[.nilFunc, .nilFunc, .pointer none, .slice none 0 0, .slice none 0 0, .slice none 0 0, .map none] 83)).alloc (.cells #[.pointer none, .pointer (some ⟨w.heap.size, 0, none⟩), .pointer none, .pointer none] 56)).cell? ⟨w.heap.size + 1, k, none⟩ = #[(.pointer none : Value), .pointer (some ⟨w.heap.size, 0, none⟩), .pointer none, .pointer none][k]? := fun k => by rw [World.cell?_alloc_at _ _ _ _ (by simp)]
  rcases (by omega : k = 0 ∨ k = 1 ∨ k = 2 ∨ k = 3) with rfl | rfl | rfl | rfl
  · exact ⟨_, (hc 0).trans rfl, .inl rfl⟩
  · refine ⟨_, (hc 1).trans rfl, .inr ⟨_, rfl, ?_⟩⟩
    rw [World.cell?_alloc_past _ _ _ (by simp), World.cell?_alloc_at _ _ _ _ rfl]
    rfl
  · exact ⟨_, (hc 2).trans rfl, .inl rfl⟩
  · exact ⟨_, (hc 3).trans rfl, .inl rfl⟩

set_option maxRecDepth 100000 in
set_option maxHeartbeats 1000000 in
theorem none_walk (x : Int) (w : World) :
    Calls Try.prog 11 #[.int .i64 x] w fun e w' => e = .returned (.bool true) ∧ Below w.heap.size w w' := by
  go_enter Try.func11, Try.ntmps11
  go_wp2_with fail
  refine (newN1 _).mono ?_
  rintro e w' ⟨rfl, rfl⟩
  go_wp2_with fail
  refine (newN2 _).mono ?_
  rintro e w' ⟨rfl, rfl⟩
  have hrow := none_row w
  have hup : Upd [] w ((w.alloc (.cells #[.nilFunc, .nilFunc, .pointer none, .slice none 0 0, .slice none 0 0, .slice none 0 0, .map none] 83)).alloc (.cells #[.pointer none, .pointer (some ⟨w.heap.size, 0, none⟩), .pointer none, .pointer none] 56)) := ((Upd.refl _ _).alloc _).alloc _
  go_wp2_with fail
  generalize ((w.alloc (.cells #[.nilFunc, .nilFunc, .pointer none, .slice none 0 0, .slice none 0 0, .slice none 0 0, .map none] 83)).alloc (.cells #[.pointer none, .pointer (some ⟨w.heap.size, 0, none⟩), .pointer none, .pointer none] 56)) = W at *
  generalize w.heap.size + 1 = q at *
  have HR := Lib.hid hrow
  have HU := Lib.hid hup
  clear hrow hup
  go_loopg [17] 4 (fun m i wr => ∃ k, m + k = 4 ∧ i = .int .i64 (k : Int) ∧ Upd [] W wr)
  case atStart => exact ⟨0, rfl, rfl, Upd.refl _ _⟩
  case round =>
    obtain ⟨k, hk, rfl, hu⟩ := hrel
    have hk4 : k ≤ 4 := by omega
    have HK := Lib.hid hk
    have HU2 := Lib.hid hu
    clear hk hu
    by_cases hlt : k < 4
    · obtain ⟨hv, hc, hn⟩ := HR.out k hlt
      have hc' := (HU2.out.cell (p := ⟨q, k, none⟩) (World.block_lt_of_cell? W _ hc) (by simp)).trans hc
      have hn' := hn.upd HU2.out
      have b0 : (0 : Int) ≤ (k : Int) := Int.natCast_nonneg _
      have b1 : (k : Int) < 4 := by omega
      have HN := Lib.hid hn'
      clear hc hn hn'
      go_wp2_with fail
      refine (addN _ _ _ HN.out).mono ?_
      rintro e w' ⟨rfl, rfl⟩
      go_wp2_with fail
      refine (dropN0 _ _ _ HN.out).mono ?_
      rintro e w' ⟨rfl, rfl⟩
      go_wp2_with fail
      refine (lenN _ _ HN.out).mono ?_
      rintro e w' ⟨rfl, rfl⟩
      go_wp2_with fail
      refine (storedN _ _ HN.out).mono ?_
      rintro e w' ⟨rfl, rfl⟩
      go_wp2_with fail
      refine (workN _ _ HN.out).mono ?_
      rintro e w' ⟨rfl, rfl⟩
      go_wp2_with fail
      refine (allN _ _ HN.out).mono ?_
      rintro e w' ⟨rfl, rfl⟩
      go_wp2_with fail
      refine (treesN _ _ HN.out).mono ?_
      rintro e w' ⟨rfl, rfl⟩
      go_wp2_with fail
      go_roundg (4 - (k + 1))
      case measure => have := HK.out; omega
      case rel => exact ⟨k + 1, by have := HK.out; omega, by go_num, HU2.out⟩
    · go_wp2_with fail
      refine (awake22 _).mono ?_
      rintro e w' ⟨rfl, hu⟩
      have HF := Lib.hid ((HU.out.trans HU2.out).trans hu)
      clear hu
      go_wp2_with fail
      go_ret
      exact ⟨rfl, HF.out.below⟩
end Go.Proofs.Ytkhgglafnjfiaaa
