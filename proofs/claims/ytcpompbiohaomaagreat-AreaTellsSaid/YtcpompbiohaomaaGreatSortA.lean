/- sort.order: which key stands ahead. -/
import Derived.Test.YtcpompbiohaomaaGreatKinds
import Derived.Test.YtcpompbiohaomaaGreatRegT
import Derived.Test.YtcpompbiohaomaaGreatQuietU
import Derived.Test.YtcpompbiohaomaaGreatProg
import Derived.WalkKit
import Derived.Deep.Cut
import Derived.Deep.QuietTactic
import Derived.Deep.LoopGhost
import Derived.IntWalk
namespace Go.Proofs.YtcpompbiohaomaaGreat
open Go.RowKit

/-- Keys: where something is, and its name. -/
def KK : Kind (Int × Nat) := { T := 0, sT := 69, eT := 71, sz := 2, enc := fun x => [.int .i64 x.1, .int .u32 (x.2 : Int)], len := fun _ => rfl, one := fun x u hu => by simp at hu; rcases hu with rfl | rfl <;> rfl }

def keyV (k : Int × Nat) : Value := .agg #[.int .i64 k.1, .int .u32 (k.2 : Int)]

/-- -1, 0, 1. -/
def cmpZ (a b : Int) : Int := if a < b then -1 else if b < a then 1 else 0

theorem isNan64 (x : Int) (w : World) : Calls Tryz.prog 114 #[.int .i64 x] w fun e w' => e = .returned (.bool false) ∧ w = w' := by
  have h : (x == x) = true := by simp
  go_enter Tryz.func114, Tryz.ntmps114
  go_wp2_with fail
  go_ret
  exact ⟨rfl, rfl⟩
theorem isNan32 (x : Int) (w : World) : Calls Tryz.prog 121 #[.int .u32 x] w fun e w' => e = .returned (.bool false) ∧ w = w' := by
  have h : (x == x) = true := by simp
  go_enter Tryz.func121, Tryz.ntmps121
  go_wp2_with fail
  go_ret
  exact ⟨rfl, rfl⟩

set_option maxRecDepth 100000 in
theorem compare64 (a b : Int) (w : World) : Calls Tryz.prog 107 #[.int .i64 a, .int .i64 b] w fun e w' => e = .returned (.int .i64 (cmpZ a b)) ∧ w = w' := by
  unfold cmpZ
  by_cases h1 : a < b
  · rw [if_pos h1]
    go_enter Tryz.func107, Tryz.ntmps107
    go_wp2_with ((with_reducible refine (isNan64 _ _).mono ?_); rintro e w' ⟨rfl, rfl⟩)
    go_ret
    exact ⟨rfl, rfl⟩
  · rw [if_neg h1]
    by_cases h2 : b < a
    · rw [if_pos h2]
      go_enter Tryz.func107, Tryz.ntmps107
      go_wp2_with ((with_reducible refine (isNan64 _ _).mono ?_); rintro e w' ⟨rfl, rfl⟩)
      go_ret
      exact ⟨rfl, rfl⟩
    · rw [if_neg h2]
      go_enter Tryz.func107, Tryz.ntmps107
      go_wp2_with ((with_reducible refine (isNan64 _ _).mono ?_); rintro e w' ⟨rfl, rfl⟩)
      go_ret
      exact ⟨rfl, rfl⟩

set_option maxRecDepth 100000 in
theorem compare32 (a b : Int) (w : World) : Calls Tryz.prog 108 #[.int .u32 a, .int .u32 b] w fun e w' => e = .returned (.int .i64 (cmpZ a b)) ∧ w = w' := by
  unfold cmpZ
  by_cases h1 : a < b
  · rw [if_pos h1]
    go_enter Tryz.func108, Tryz.ntmps108
    go_wp2_with ((with_reducible refine (isNan32 _ _).mono ?_); rintro e w' ⟨rfl, rfl⟩)
    go_ret
    exact ⟨rfl, rfl⟩
  · rw [if_neg h1]
    by_cases h2 : b < a
    · rw [if_pos h2]
      go_enter Tryz.func108, Tryz.ntmps108
      go_wp2_with ((with_reducible refine (isNan32 _ _).mono ?_); rintro e w' ⟨rfl, rfl⟩)
      go_ret
      exact ⟨rfl, rfl⟩
    · rw [if_neg h2]
      go_enter Tryz.func108, Tryz.ntmps108
      go_wp2_with ((with_reducible refine (isNan32 _ _).mono ?_); rintro e w' ⟨rfl, rfl⟩)
      go_ret
      exact ⟨rfl, rfl⟩

/-- The first that is not 0. -/
def orZ (a b : Int) : Int := if a = 0 then b else a

set_option maxRecDepth 100000 in
set_option maxHeartbeats 1000000 in
theorem orC (q : Nat) (a b : Int) (w : World) (c0 : w.cell? ⟨q, 0, none⟩ = some (.int .i64 a)) (c1 : w.cell? ⟨q, 1, none⟩ = some (.int .i64 b)) :
    Calls Tryz.prog 106 #[.slice (some ⟨q, 0, none⟩) 2 2] w fun e w' => e = .returned (.int .i64 (orZ a b)) ∧ Upd [] w w' := by
  obtain ⟨r, hr⟩ : ∃ r, orZ a b = r := ⟨_, rfl⟩
  have ha : a ≠ 0 → r = a := fun h => by rw [← hr]; unfold orZ; rw [if_neg h]
  have hb : a = 0 → r = b := fun h => by rw [← hr]; unfold orZ; rw [if_pos h]
  rw [hr]
  have HA := Lib.hid ha
  have HB := Lib.hid hb
  clear ha hb hr
  go_enter Tryz.func106, Tryz.ntmps106
  go_wp2_with fail
  go_loopg [8] 2 (fun m s8 wr => ∃ k, m + k = 2 ∧ s8 = .int .i64 (k : Int) ∧ (0 < k → a = 0) ∧ (1 < k → b = 0) ∧ wr = w)
  case atStart => exact ⟨0, rfl, rfl, by simp, by simp, rfl⟩
  case round =>
    obtain ⟨k, hk, rfl, h0, h1, rfl⟩ := hrel
    rcases (by omega : k = 0 ∨ k = 1 ∨ k = 2) with rfl | rfl | rfl
    · have HK := Lib.hid hk
      clear h0 h1 hk
      by_cases hz : a = 0
      · have z1 : (a == 0) = true := by simpa using hz
        have HZ := Lib.hid hz
        clear hz
        go_wp2_with fail
        go_roundg 1
        case measure => have := HK.out; omega
        case rel => exact ⟨1, by omega, by first | rfl | go_num, fun _ => HZ.out, fun h => by omega, rfl⟩
      · have z1 : (a == 0) = false := by simpa using hz
        have HZ := Lib.hid hz
        clear hz
        go_wp2_with fail
        go_ret
        exact ⟨by rw [HA.out HZ.out]; rfl, Upd.refl _ _⟩
    · have HK := Lib.hid hk
      have HZ := Lib.hid (h0 (by omega))
      clear h0 h1 hk
      by_cases hz : b = 0
      · have z1 : (b == 0) = true := by simpa using hz
        have HZ2 := Lib.hid hz
        clear hz
        go_wp2_with fail
        go_roundg 0
        case measure => have := HK.out; omega
        case rel => exact ⟨2, by omega, by first | rfl | go_num, fun _ => HZ.out, fun _ => HZ2.out, rfl⟩
      · have z1 : (b == 0) = false := by simpa using hz
        clear hz
        go_wp2_with fail
        go_ret
        exact ⟨by rw [HB.out HZ.out]; rfl, Upd.refl _ _⟩
    · have HZ := Lib.hid (h0 (by omega))
      have HZ2 := Lib.hid (h1 (by omega))
      clear h0 h1 hk
      go_wp2_with fail
      go_ret
      exact ⟨by rw [HB.out HZ.out, HZ2.out]; rfl, Upd.refl _ _⟩

/-- How two keys stand. -/
def ordZ (x y : Int × Nat) : Int := orZ (cmpZ x.1 y.1) (cmpZ x.2 y.2)

/-- The one is ahead of the other. -/
def ahead (x y : Int × Nat) : Bool := decide (ordZ x y < 0)

theorem ahead_iff (x y : Int × Nat) : ahead x y = true ↔ x.1 < y.1 ∨ (x.1 = y.1 ∧ x.2 < y.2) := by
  unfold ahead ordZ orZ cmpZ
  simp only [decide_eq_true_eq]
  split <;> split <;> (try split) <;> (try split) <;> omega

set_option maxRecDepth 100000 in
set_option maxHeartbeats 1000000 in
theorem orderC (x y : Int × Nat) (w : World) : Calls Tryz.prog 85 #[keyV x, keyV y] w fun e w' => e = .returned (.int .i64 (ordZ x y)) ∧ Upd [] w w' := by
  obtain ⟨a, i⟩ := x
  obtain ⟨b, j⟩ := y
  unfold keyV ordZ
  dsimp only
  have ha := fun w => compare64 a b w
  have hb := fun w => compare32 (i : Int) (j : Int) w
  obtain ⟨r, hr⟩ : ∃ r, cmpZ a b = r := ⟨_, rfl⟩
  obtain ⟨s, hs⟩ : ∃ s, cmpZ (i : Int) (j : Int) = s := ⟨_, rfl⟩
  simp only [hr] at ha
  simp only [hs] at hb
  rw [hr, hs]
  obtain ⟨i', hi⟩ : ∃ i' : Int, (i : Int) = i' := ⟨_, rfl⟩
  obtain ⟨j', hj⟩ : ∃ j' : Int, (j : Int) = j' := ⟨_, rfl⟩
  rw [hi, hj] at hb ⊢
  have hu : Upd [] w ((w.alloc (.cells #[.int .i64 a, .int .u32 i'] 71)).alloc (.cells #[.int .i64 b, .int .u32 j'] 71)) := ((Upd.refl _ _).alloc _).alloc _
  have hp : ∀ k, ((w.alloc (.cells #[.int .i64 a, .int .u32 i'] 71)).alloc (.cells #[.int .i64 b, .int .u32 j'] 71)).cell? ⟨w.heap.size, k, none⟩ = #[Value.int .i64 a, .int .u32 i'][k]? := fun k => by
    rw [World.cell?_alloc_past _ _ _ (by simp), World.cell?_alloc_at _ _ _ _ rfl]
  have hq : ∀ k, ((w.alloc (.cells #[.int .i64 a, .int .u32 i'] 71)).alloc (.cells #[.int .i64 b, .int .u32 j'] 71)).cell? ⟨w.heap.size + 1, k, none⟩ = #[Value.int .i64 b, .int .u32 j'][k]? := fun k => World.cell?_alloc_at _ _ _ _ (by simp)
  have p0 := hp 0
  have p1 := hp 1
  have q0 := hq 0
  have q1 := hq 1
  simp only [List.getElem?_toArray, List.getElem?_cons_zero, List.getElem?_cons_succ] at p0 p1 q0 q1
  have HU := Lib.hid hu
  have HA := Lib.hid ha
  have HB := Lib.hid hb
  have HOR := Lib.hid (show ∀ w : World, Calls Tryz.prog 106 #[.slice (some ⟨w.heap.size, 0, none⟩) 2 2] (w.alloc (.cells #[.int .i64 r, .int .i64 s] 3)) fun e w' => e = .returned (.int .i64 (orZ r s)) ∧ Upd [] (w.alloc (.cells #[.int .i64 r, .int .i64 s] 3)) w' from fun w => orC w.heap.size r s _ (by rw [World.cell?_alloc_at _ _ _ _ rfl]; rfl) (by rw [World.cell?_alloc_at _ _ _ _ rfl]; rfl))
  clear hp hq hu ha hb hr hs hi hj
  go_enter Tryz.func85, Tryz.ntmps85
  go_upto_region 1 with fail
  generalize ((w.alloc (.cells #[.int .i64 a, .int .u32 i'] 71)).alloc (.cells #[.int .i64 b, .int .u32 j'] 71)) = W at p0 p1 q0 q1 HU ⊢
  generalize w.heap.size = p at p0 p1 q0 q1 ⊢
  have HC := Lib.hid (show W.drew.cell? ⟨p, 0, none⟩ = some (.int .i64 a) ∧ W.drew.cell? ⟨p, 1, none⟩ = some (.int .u32 i') ∧ W.drew.cell? ⟨p + 1, 0, none⟩ = some (.int .i64 b) ∧ W.drew.cell? ⟨p + 1, 1, none⟩ = some (.int .u32 j') from ⟨p0, p1, q0, q1⟩)
  clear p0 p1 q0 q1
  obtain ⟨Wd, hWd⟩ : ∃ Wd, Wd = W.drew := ⟨_, rfl⟩
  have HUd := Lib.hid (show Upd [] w Wd by rw [hWd]; exact HU.out.drew)
  -- region 1: T waits for all loads; fuel 3
  refine GoT.start [9, 10, 11, 12] (fun w' => w'.cell? ⟨p, 0, none⟩ = some (.int .i64 a) ∧ w'.cell? ⟨p, 1, none⟩ = some (.int .u32 i') ∧ w'.cell? ⟨p + 1, 0, none⟩ = some (.int .i64 b) ∧ w'.cell? ⟨p + 1, 1, none⟩ = some (.int .u32 j')) (by kernel_rfl) ?_ fun hS => ?_
  · exact HC.out
  rw [← hWd] at hS ⊢
  clear hWd
  refine' GoT.move (i := 0) (oi := ⟨some 5, _, _, _, _, _⟩) (v := _) rfl (by kernel_rfl) (by kernel_rfl) (by kernel_rfl) (fun _ _ _ h => h) (Or.inl ⟨by rfl, ?y1_0⟩) ?r1_0
  case y1_0 => intro w; go_simp <;> with_reducible rfl
  simp only [Act.put, List.setIfInBounds_toArray, List.set_cons_zero, List.set_cons_succ]
  refine' GoT.take 3 (i := 1) (oi := ⟨some 6, _, _, _, _, _⟩) (v := _) rfl (by kernel_rfl) (by kernel_rfl) (by kernel_rfl) (by kernel_rfl) (fun _ _ _ h => h) (Or.inl ⟨by rfl, ?y1_1⟩) (by assumption) ?r1_1
  case y1_1 => intro w hSw; go_simp <;> with_reducible rfl
  simp only [Act.put, List.setIfInBounds_toArray, List.set_cons_zero, List.set_cons_succ]
  refine' GoT.move (i := 2) (oi := ⟨some 7, _, _, _, _, _⟩) (v := _) rfl (by kernel_rfl) (by kernel_rfl) (by kernel_rfl) (fun _ _ _ h => h) (Or.inl ⟨by rfl, ?y1_2⟩) ?r1_2
  case y1_2 => intro w; go_simp <;> with_reducible rfl
  simp only [Act.put, List.setIfInBounds_toArray, List.set_cons_zero, List.set_cons_succ]
  refine' GoT.take 3 (i := 3) (oi := ⟨some 8, _, _, _, _, _⟩) (v := _) rfl (by kernel_rfl) (by kernel_rfl) (by kernel_rfl) (by kernel_rfl) (fun _ _ _ h => h) (Or.inl ⟨by rfl, ?y1_3⟩) (by assumption) ?r1_3
  case y1_3 => intro w hSw; go_simp <;> with_reducible rfl
  simp only [Act.put, List.setIfInBounds_toArray, List.set_cons_zero, List.set_cons_succ]
  refine' GoT.move (i := 5) (oi := ⟨some 10, _, _, _, _, _⟩) (v := _) rfl (by kernel_rfl) (by kernel_rfl) (by kernel_rfl) (fun _ _ _ h => h) (Or.inl ⟨by rfl, ?y1_5⟩) ?r1_5
  case y1_5 => intro w; go_simp <;> with_reducible rfl
  simp only [Act.put, List.setIfInBounds_toArray, List.set_cons_zero, List.set_cons_succ]
  refine' GoT.take 3 (i := 6) (oi := ⟨some 11, _, _, _, _, _⟩) (v := _) rfl (by kernel_rfl) (by kernel_rfl) (by kernel_rfl) (by kernel_rfl) (fun _ _ _ h => h) (Or.inl ⟨by rfl, ?y1_6⟩) (by assumption) ?r1_6
  case y1_6 => intro w hSw; go_simp <;> with_reducible rfl
  simp only [Act.put, List.setIfInBounds_toArray, List.set_cons_zero, List.set_cons_succ]
  refine' GoT.move (i := 7) (oi := ⟨some 12, _, _, _, _, _⟩) (v := _) rfl (by kernel_rfl) (by kernel_rfl) (by kernel_rfl) (fun _ _ _ h => h) (Or.inl ⟨by rfl, ?y1_7⟩) ?r1_7
  case y1_7 => intro w; go_simp <;> with_reducible rfl
  simp only [Act.put, List.setIfInBounds_toArray, List.set_cons_zero, List.set_cons_succ]
  refine' GoT.take 3 (i := 8) (oi := ⟨some 13, _, _, _, _, _⟩) (v := _) rfl (by kernel_rfl) (by kernel_rfl) (by kernel_rfl) (by kernel_rfl) (fun _ _ _ h => h) (Or.inl ⟨by rfl, ?y1_8⟩) (by assumption) ?r1_8
  case y1_8 => intro w hSw; go_simp <;> with_reducible rfl
  simp only [Act.put, List.setIfInBounds_toArray, List.set_cons_zero, List.set_cons_succ]
  -- 4: Go.Op.call { callee := Go.Callee.value (Go.Operand.func 146), args := #[Go.Operand.tmp 6, Go.Operand.tmp 8], argTypes := #[2, 2] }
  refine GoT.one (i := 4) (o := ⟨some 9, _, _, _, _, _⟩) rfl (by kernel_rfl) fun K hK => ?_
  go_simp
  go_at_call 107
  (with_reducible refine (HA.out _).mono ?_)
  rintro e w' ⟨rfl, rfl⟩
  refine hK.out _ _ (fun _ h => ?_) ?_
  · exact h
  clear hK K
  try simp only [Act.put, List.setIfInBounds_toArray, List.set_cons_zero, List.set_cons_succ]
  -- 9: Go.Op.call { callee := Go.Callee.value (Go.Operand.func 147), args := #[Go.Operand.tmp 11, Go.Operand.tmp 13], argTypes := #[32, 32] }
  refine GoT.one (i := 9) (o := ⟨some 14, _, _, _, _, _⟩) rfl (by kernel_rfl) fun K hK => ?_
  go_simp
  go_at_call 108
  (with_reducible refine (HB.out _).mono ?_)
  rintro e w' ⟨rfl, rfl⟩
  refine hK.out _ _ (fun h => (by cases h)) ?_
  clear hK K
  try simp only [Act.put, List.setIfInBounds_toArray, List.set_cons_zero, List.set_cons_succ]
  -- 10: Go.Op.buildSlice 110 2 #[(0, Go.Operand.tmp 9), (1, Go.Operand.tmp 14)]
  refine GoT.one (i := 10) (o := ⟨some 15, _, _, _, _, _⟩) rfl (by kernel_rfl) fun K hK => ?_
  go_simp
  refine hK.out _ _ (fun h => (by cases h)) ?_
  clear hK K
  try simp only [Act.put, List.setIfInBounds_toArray, List.set_cons_zero, List.set_cons_succ]
  -- 11: Go.Op.call { callee := Go.Callee.value (Go.Operand.func 53), args := #[Go.Operand.tmp 15], argTypes := #[110] }
  refine GoT.one (i := 11) (o := ⟨some 16, _, _, _, _, _⟩) rfl (by kernel_rfl) fun K hK => ?_
  go_simp
  go_at_call 106
  (with_reducible refine (HOR.out _).mono ?_)
  rintro e w5 ⟨rfl, hu5⟩
  refine hK.out _ _ (fun h => (by cases h)) ?_
  clear hK K
  try simp only [Act.put, List.setIfInBounds_toArray, List.set_cons_zero, List.set_cons_succ]
  have HU5 := Lib.hid hu5
  clear hu5
  refine' GoT.move (i := 12) (oi := ⟨some 4, _, _, _, _, _⟩) (v := _) rfl (by kernel_rfl) (by kernel_rfl) (by kernel_rfl) (fun _ _ _ h => h) (Or.inl ⟨by rfl, ?y1_12⟩) ?r1_12
  case y1_12 => intro w; go_simp <;> with_reducible rfl
  simp only [Act.put, List.setIfInBounds_toArray, List.set_cons_zero, List.set_cons_succ]
  refine GoT.done (by kernel_rfl) ?_
  go_wp2_with fail
  go_ret
  exact ⟨rfl, (HUd.out.alloc _).trans HU5.out⟩

end Go.Proofs.YtcpompbiohaomaaGreat

