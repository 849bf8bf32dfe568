/- The chapter's examples of areas, plainly. gridironlaw17.awake: the chapter's examples are met. -/
import Derived.Test.YtcpompbiohaomaaGreatSweepQ
import Derived.Test.YtcpompbiohaomaaGreatRiseP
import Derived.Test.YtcpompbiohaomaaGreatAreaA
import Derived.Test.YtcpompbiohaomaaGreatQuietU
namespace Go.Proofs.YtcpompbiohaomaaGreat

def EZ1 : List Bx := [⟨0, 2, 0, 2, 0⟩]
def EZ2 : List Bx := [⟨0, 2, 0, 2, 0⟩, ⟨1, 3, 1, 3, 0⟩]
def EZ3 : List Bx := [⟨-9223372036854775808, 9223372036854775807, -9223372036854775808, 9223372036854775807, 0⟩]
def EZ0 : List Bx := [⟨0, 0, 0, 5, 0⟩, ⟨3, 1, 3, 1, 0⟩]

theorem EZ_in : (∀ b ∈ EZ1, b.in64) ∧ (∀ b ∈ EZ2, b.in64) ∧ (∀ b ∈ EZ3, b.in64) ∧ (∀ b ∈ EZ0, b.in64) := by
  refine ⟨?_, ?_, ?_, ?_⟩ <;> intro b hb
  · unfold EZ1 at hb
    simp at hb
    subst hb; unfold Bx.in64; decide
  · unfold EZ2 at hb
    simp at hb
    rcases hb with rfl | rfl <;> (unfold Bx.in64; decide)
  · unfold EZ3 at hb
    simp at hb
    subst hb; unfold Bx.in64; decide
  · unfold EZ0 at hb
    simp at hb
    rcases hb with rfl | rfl <;> (unfold Bx.in64; decide)

theorem areaA_eq {l : List Bx} {xs ys : List Int} (hxs : xs.Pairwise (· < ·)) (hys : ys.Pairwise (· < ·)) (mx : ∀ v, v ∈ xs ↔ v ∈ linX l) (my : ∀ v, v ∈ ys ↔ v ∈ linY l)
    (hx : ∀ v ∈ xs, -9223372036854775808 ≤ v ∧ v ≤ 9223372036854775807) (hy : ∀ v ∈ ys, -9223372036854775808 ≤ v ∧ v ≤ 9223372036854775807) : areaA l = areaS l xs ys := areaR_eq hxs hys mx my hx hy

theorem EZ1_a : areaA EZ1 = 4 := by
  rw [areaA_eq (xs := [0, 2]) (ys := [0, 2]) (by decide) (by decide) (fun v => by have e : linX EZ1 = [0, 2] := by decide
                                                                                  rw [e]) (fun v => by have e : linY EZ1 = [0, 2] := by decide
                                                                                                       rw [e]) (by decide) (by decide)]
  decide

theorem EZ2_a : areaA EZ2 = 7 := by
  rw [areaA_eq (xs := [0, 1, 2, 3]) (ys := [0, 1, 2, 3]) (by decide) (by decide) (fun v => by
    have e : linX EZ2 = [0, 2, 1, 3] := by decide
    rw [e]; simp only [List.mem_cons, List.not_mem_nil, or_false]; omega) (fun v => by
    have e : linY EZ2 = [0, 2, 1, 3] := by decide
    rw [e]; simp only [List.mem_cons, List.not_mem_nil, or_false]; omega) (by decide) (by decide)]
  decide

theorem EZ3_a : areaA EZ3 = 18446744073709551615 * 18446744073709551615 := by
  rw [areaA_eq (xs := [-9223372036854775808, 9223372036854775807]) (ys := [-9223372036854775808, 9223372036854775807]) (by decide) (by decide) (fun v => by
    have e : linX EZ3 = [-9223372036854775808, 9223372036854775807] := by decide
    rw [e]) (fun v => by
    have e : linY EZ3 = [-9223372036854775808, 9223372036854775807] := by decide
    rw [e]) (by decide) (by decide)]
  decide

theorem EZ0_a : areaA EZ0 = 0 := by
  rw [areaA_eq (xs := []) (ys := []) (by decide) (by decide) (fun v => by
    have e : linX EZ0 = [] := by decide
    rw [e]) (fun v => by
    have e : linY EZ0 = [] := by decide
    rw [e]) (by decide) (by decide)]
  decide

theorem EZ1_y : sqz (linY EZ1) = [0, 2] := sqz_eq (by decide) fun x => by
  have e : linY EZ1 = [0, 2] := by decide
  rw [e]

theorem EZ1_e : sweepE (sqz (linY EZ1)) (turnsL EZ1) = 2 := by
  rw [EZ1_y]
  have e : turnsL EZ1 = [⟨0, ⟨0, 2, 0, 2, 0⟩, false⟩, ⟨2, ⟨0, 2, 0, 2, 0⟩, true⟩] := by decide
  have h1 : entN (0, 1) 1 = 1 := by
    unfold entN
    rw [if_neg (by decide), ent_in (by decide)]
  have h2 : ∀ g x, spT [0, 2] ⟨x, ⟨0, 2, 0, 2, 0⟩, g⟩ = (0, 1) := by
    intro g x
    show (below [0, 2] 0, below [0, 2] 2) = (0, 1)
    decide
  rw [e]
  unfold sweepE
  simp only [List.map_cons, List.map_nil, h2, List.length_cons, List.length_nil, Nat.reduceAdd, Nat.reduceSub, h1]
  rfl

theorem EZ0_e : sweepE (sqz (linY EZ0)) (turnsL EZ0) = 0 := by
  have e : turnsL EZ0 = [] := by decide
  rw [e]; rfl
end Go.Proofs.YtcpompbiohaomaaGreat

namespace Go.Proofs.YtcpompbiohaomaaGreat
open Go.RowKit

theorem boxC17 (x1 y1 x2 y2 : Int) (w : World) :
    Calls Tryz.prog 13 #[.int .i64 x1, .int .i64 y1, .int .i64 x2, .int .i64 y2] w fun e w' => e = .returned (.agg #[.int .i64 x1, .int .i64 x2, .int .i64 y1, .int .i64 y2, .int .u32 0]) ∧ Upd [] w w' := by
  go_enter Tryz.func13, Tryz.ntmps13
  go_wp2_with fail
  exact bodyPost_ret (v := .agg #[.int .i64 x1, .int .i64 x2, .int .i64 y1, .int .i64 y2, .int .u32 0]) (by simp [results, Tryz.results13, go_sem]) rfl ⟨rfl, (Upd.refl _ _).alloc _⟩

theorem box1_new (w : World) (x1 x2 y1 y2 : Int) : See KBx (w.alloc (.cells #[.int .i64 x1, .int .i64 x2, .int .i64 y1, .int .i64 y2, .int .u32 0] 34)) (.slice (some ⟨w.heap.size, 0, none⟩) 1 1) [⟨x1, x2, y1, y2, 0⟩] :=
  sees_lit w #[.int .i64 x1, .int .i64 x2, .int .i64 y1, .int .i64 y2, .int .u32 0] 34 5 1 rfl (by decide)
theorem box2_new (w : World) (x1 x2 y1 y2 u1 u2 v1 v2 : Int) : See KBx (w.alloc (.cells #[.int .i64 x1, .int .i64 x2, .int .i64 y1, .int .i64 y2, .int .u32 0, .int .i64 u1, .int .i64 u2, .int .i64 v1, .int .i64 v2, .int .u32 0] 34)) (.slice (some ⟨w.heap.size, 0, none⟩) 2 2) [⟨x1, x2, y1, y2, 0⟩, ⟨u1, u2, v1, v2, 0⟩] :=
  sees_lit w #[.int .i64 x1, .int .i64 x2, .int .i64 y1, .int .i64 y2, .int .u32 0, .int .i64 u1, .int .i64 u2, .int .i64 v1, .int .i64 v2, .int .u32 0] 34 5 2 rfl (by decide)

/-- Area of one box, of two boxes that were just made. -/
theorem area1 (w : World) (x1 x2 y1 y2 : Int) (h : ∀ b ∈ [(⟨x1, x2, y1, y2, 0⟩ : Bx)], b.in64) :
    Calls Tryz.prog 7 #[.slice (some ⟨w.heap.size, 0, none⟩) 1 1] (w.alloc (.cells #[.int .i64 x1, .int .i64 x2, .int .i64 y1, .int .i64 y2, .int .u32 0] 34)) fun e w' => e = .returned (.tuple #[wideV (areaA [⟨x1, x2, y1, y2, 0⟩]).toNat, .int .i64 (areaE [⟨x1, x2, y1, y2, 0⟩] : Int)]) ∧ Upd [] w w' := by
  refine (areaAll _ _ _ (box1_new w x1 x2 y1 y2) (by simp) h).mono ?_
  rintro e w' ⟨rfl, hu⟩
  exact ⟨rfl, ((Upd.refl _ _).alloc _).trans hu⟩
theorem area2 (w : World) (x1 x2 y1 y2 u1 u2 v1 v2 : Int) (h : ∀ b ∈ [(⟨x1, x2, y1, y2, 0⟩ : Bx), ⟨u1, u2, v1, v2, 0⟩], b.in64) :
    Calls Tryz.prog 7 #[.slice (some ⟨w.heap.size, 0, none⟩) 2 2] (w.alloc (.cells #[.int .i64 x1, .int .i64 x2, .int .i64 y1, .int .i64 y2, .int .u32 0, .int .i64 u1, .int .i64 u2, .int .i64 v1, .int .i64 v2, .int .u32 0] 34)) fun e w' => e = .returned (.tuple #[wideV (areaA [⟨x1, x2, y1, y2, 0⟩, ⟨u1, u2, v1, v2, 0⟩]).toNat, .int .i64 (areaE [⟨x1, x2, y1, y2, 0⟩, ⟨u1, u2, v1, v2, 0⟩] : Int)]) ∧ Upd [] w w' := by
  refine (areaAll _ _ _ (box2_new w x1 x2 y1 y2 u1 u2 v1 v2) (by simp) h).mono ?_
  rintro e w' ⟨rfl, hu⟩
  exact ⟨rfl, ((Upd.refl _ _).alloc _).trans hu⟩

set_option maxRecDepth 100000 in
set_option maxHeartbeats 4000000 in
theorem awake17 (w : World) :
    Calls Tryz.prog 5 #[] w fun e w' => e = .returned (.bool true) ∧ Upd [] w w' := by
  have ha := fun w => area2 w 0 2 0 2 1 3 1 3 EZ_in.2.1
  have hb := fun w => area1 w 0 2 0 2 EZ_in.1
  have hc := fun w => area1 w (-9223372036854775808) 9223372036854775807 (-9223372036854775808) 9223372036854775807 EZ_in.2.2.1
  have hd := fun w => area2 w 0 0 0 5 3 1 3 1 EZ_in.2.2.2
  rw [show areaA [⟨0, 2, 0, 2, 0⟩, ⟨1, 3, 1, 3, 0⟩] = 7 from EZ2_a] at ha
  rw [show areaA [⟨0, 2, 0, 2, 0⟩] = 4 from EZ1_a, show areaE [⟨0, 2, 0, 2, 0⟩] = 2 from EZ1_e] at hb
  rw [show areaA [⟨-9223372036854775808, 9223372036854775807, -9223372036854775808, 9223372036854775807, 0⟩] = 18446744073709551615 * 18446744073709551615 from EZ3_a] at hc
  rw [show areaA [⟨0, 0, 0, 5, 0⟩, ⟨3, 1, 3, 1, 0⟩] = 0 from EZ0_a, show areaE [⟨0, 0, 0, 5, 0⟩, ⟨3, 1, 3, 1, 0⟩] = 0 from EZ0_e] at hd
  obtain ⟨E2, hE2⟩ : ∃ E, areaE [⟨0, 2, 0, 2, 0⟩, ⟨1, 3, 1, 3, 0⟩] = E := ⟨_, rfl⟩
  obtain ⟨E3, hE3⟩ : ∃ E, areaE [⟨-9223372036854775808, 9223372036854775807, -9223372036854775808, 9223372036854775807, 0⟩] = E := ⟨_, rfl⟩
  rw [hE2] at ha
  rw [hE3] at hc
  have w7 : wideV (7 : Int).toNat = .agg #[.int .u64 0, .int .u64 7] := rfl
  have w4 : wideV (4 : Int).toNat = .agg #[.int .u64 0, .int .u64 4] := rfl
  have w0 : wideV (0 : Int).toNat = .agg #[.int .u64 0, .int .u64 0] := rfl
  have wm : wideV (18446744073709551615 * 18446744073709551615 : Int).toNat = .agg #[.int .u64 18446744073709551614, .int .u64 1] := by
    have e : (18446744073709551615 * 18446744073709551615 : Int).toNat = 340282366920938463426481119284349108225 := by decide
    rw [e]
    unfold wideV
    rfl
  rw [w7] at ha
  rw [w4] at hb
  rw [wm] at hc
  rw [w0] at hd
  have ho7 : ∀ w, Calls Tryz.prog 14 #[.int .u64 7] w fun e w' => e = .returned (.agg #[.int .u64 0, .int .u64 7]) ∧ Upd [] w w' := fun w => wOfC 7 (by decide) w
  have ho4 : ∀ w, Calls Tryz.prog 14 #[.int .u64 4] w fun e w' => e = .returned (.agg #[.int .u64 0, .int .u64 4]) ∧ Upd [] w w' := fun w => wOfC 4 (by decide) w
  have ho0 : ∀ w, Calls Tryz.prog 14 #[.int .u64 0] w fun e w' => e = .returned (.agg #[.int .u64 0, .int .u64 0]) ∧ Upd [] w w' := fun w => wOfC 0 (by decide) w
  have hm : ∀ w, Calls Tryz.prog 15 #[.int .u64 18446744073709551615, .int .u64 18446744073709551615] w fun e w' => e = .returned (.agg #[.int .u64 18446744073709551614, .int .u64 1]) ∧ Upd [] w w' := fun w => by
    have h1 := wMulC 18446744073709551615 18446744073709551615 (by decide) (by decide) w
    have e : wideV (18446744073709551615 * 18446744073709551615) = .agg #[.int .u64 18446744073709551614, .int .u64 1] := by unfold wideV; rfl
    rw [e] at h1
    exact h1
  have n7 : ∀ w, (binOp .eql 27 (.agg #[.int .u64 0, .int .u64 7]) (.agg #[.int .u64 0, .int .u64 7])).run Tryz.prog w = .ok (.bool true) w := fun _ => by kernel_rfl
  have n4 : ∀ w, (binOp .eql 27 (.agg #[.int .u64 0, .int .u64 4]) (.agg #[.int .u64 0, .int .u64 4])).run Tryz.prog w = .ok (.bool true) w := fun _ => by kernel_rfl
  have n0 : ∀ w, (binOp .eql 27 (.agg #[.int .u64 0, .int .u64 0]) (.agg #[.int .u64 0, .int .u64 0])).run Tryz.prog w = .ok (.bool true) w := fun _ => by kernel_rfl
  have nm : ∀ w, (binOp .eql 27 (.agg #[.int .u64 18446744073709551614, .int .u64 1]) (.agg #[.int .u64 18446744073709551614, .int .u64 1])).run Tryz.prog w = .ok (.bool true) w := fun _ => by kernel_rfl
  have HA := Lib.hid ha
  have HB := Lib.hid hb
  have HC := Lib.hid hc
  have HD := Lib.hid hd
  have HO7 := Lib.hid ho7
  have HO4 := Lib.hid ho4
  have HO0 := Lib.hid ho0
  have HM := Lib.hid hm
  clear ha hb hc hd ho7 ho4 ho0 hm w7 w4 w0 wm hE2 hE3
  go_enter Tryz.func5, Tryz.ntmps5
  go_wp2_with fail
  (with_reducible refine (boxC17 _ _ _ _ _).mono ?_)
  rintro e w1 ⟨rfl, hu1⟩
  have HU1 := Lib.hid hu1
  clear hu1
  go_wp2_with fail
  (with_reducible refine (boxC17 _ _ _ _ _).mono ?_)
  rintro e w2 ⟨rfl, hu2⟩
  have HU2 := Lib.hid hu2
  clear hu2
  go_wp2_with fail
  (with_reducible refine (HA.out _).mono ?_)
  rintro e w3 ⟨rfl, hu3⟩
  have HU3 := Lib.hid hu3
  have HN0 := Lib.hid (heap_alloc_new w3 (.cells #[.int .u64 0, .int .u64 7] 27))
  have HV0 := Lib.hid (show Upd [] w3 (w3.alloc (.cells #[.int .u64 0, .int .u64 7] 27)) from (Upd.refl _ _).alloc _)
  clear hu3
  go_wp2_with fail
  (with_reducible refine (boxC17 _ _ _ _ _).mono ?_)
  rintro e w4 ⟨rfl, hu4⟩
  have HU4 := Lib.hid hu4
  clear hu4
  go_wp2_with fail
  (with_reducible refine (HB.out _).mono ?_)
  rintro e w5 ⟨rfl, hu5⟩
  have HU5 := Lib.hid hu5
  have HN1 := Lib.hid (heap_alloc_new w5 (.cells #[.int .u64 0, .int .u64 4] 27))
  have HV1 := Lib.hid (show Upd [] w5 (w5.alloc (.cells #[.int .u64 0, .int .u64 4] 27)) from (Upd.refl _ _).alloc _)
  clear hu5
  go_wp2_with fail
  (with_reducible refine (boxC17 _ _ _ _ _).mono ?_)
  rintro e w6 ⟨rfl, hu6⟩
  have HU6 := Lib.hid hu6
  clear hu6
  go_wp2_with fail
  (with_reducible refine (HC.out _).mono ?_)
  rintro e w7 ⟨rfl, hu7⟩
  have HU7 := Lib.hid hu7
  have HN2 := Lib.hid (heap_alloc_new w7 (.cells #[.int .u64 18446744073709551614, .int .u64 1] 27))
  have HV2 := Lib.hid (show Upd [] w7 (w7.alloc (.cells #[.int .u64 18446744073709551614, .int .u64 1] 27)) from (Upd.refl _ _).alloc _)
  clear hu7
  go_wp2_with fail
  (with_reducible refine (boxC17 _ _ _ _ _).mono ?_)
  rintro e w8 ⟨rfl, hu8⟩
  have HU8 := Lib.hid hu8
  clear hu8
  go_wp2_with fail
  (with_reducible refine (boxC17 _ _ _ _ _).mono ?_)
  rintro e w9 ⟨rfl, hu9⟩
  have HU9 := Lib.hid hu9
  clear hu9
  go_wp2_with fail
  (with_reducible refine (HD.out _).mono ?_)
  rintro e w10 ⟨rfl, hu10⟩
  have HU10 := Lib.hid hu10
  have HN3 := Lib.hid (heap_alloc_new w10 (.cells #[.int .u64 0, .int .u64 0] 27))
  have HV3 := Lib.hid (show Upd [] w10 (w10.alloc (.cells #[.int .u64 0, .int .u64 0] 27)) from (Upd.refl _ _).alloc _)
  clear hu10
  go_upto_region 5 with fail
  generalize w10.alloc (.cells #[.int .u64 0, .int .u64 0] 27) = Wf at HN3 HV3 ⊢
  have g2 := HV3.out
  have g1 := HU8.out.trans (HU9.out.trans (HU10.out.trans g2))
  have g0 := HU6.out.trans (HU7.out.trans (HV2.out.trans g1))
  have gm := HU4.out.trans (HU5.out.trans (HV1.out.trans g0))
  have gw := HU1.out.trans (HU2.out.trans (HU3.out.trans (HV0.out.trans gm)))
  have b0 := (gm.block _ (lt_of_block HN0.out) (by simp)).trans HN0.out
  have c00 : ∀ x : QW Wf, x.w.cell? ⟨w3.heap.size, 0, none⟩ = some (.int .u64 0) := fun x => by have := (x.up.block _ (lt_of_block b0) (by simp)).trans b0; simp [World.cell?, this]
  have c01 : ∀ x : QW Wf, x.w.cell? ⟨w3.heap.size, 1, none⟩ = some (.int .u64 7) := fun x => by have := (x.up.block _ (lt_of_block b0) (by simp)).trans b0; simp [World.cell?, this]
  have b1 := (g0.block _ (lt_of_block HN1.out) (by simp)).trans HN1.out
  have c10 : ∀ x : QW Wf, x.w.cell? ⟨w5.heap.size, 0, none⟩ = some (.int .u64 0) := fun x => by have := (x.up.block _ (lt_of_block b1) (by simp)).trans b1; simp [World.cell?, this]
  have c11 : ∀ x : QW Wf, x.w.cell? ⟨w5.heap.size, 1, none⟩ = some (.int .u64 4) := fun x => by have := (x.up.block _ (lt_of_block b1) (by simp)).trans b1; simp [World.cell?, this]
  have b2 := (g1.block _ (lt_of_block HN2.out) (by simp)).trans HN2.out
  have c20 : ∀ x : QW Wf, x.w.cell? ⟨w7.heap.size, 0, none⟩ = some (.int .u64 18446744073709551614) := fun x => by have := (x.up.block _ (lt_of_block b2) (by simp)).trans b2; simp [World.cell?, this]
  have c21 : ∀ x : QW Wf, x.w.cell? ⟨w7.heap.size, 1, none⟩ = some (.int .u64 1) := fun x => by have := (x.up.block _ (lt_of_block b2) (by simp)).trans b2; simp [World.cell?, this]
  have b3 := HN3.out
  have c30 : ∀ x : QW Wf, x.w.cell? ⟨w10.heap.size, 0, none⟩ = some (.int .u64 0) := fun x => by have := (x.up.block _ (lt_of_block b3) (by simp)).trans b3; simp [World.cell?, this]
  have c31 : ∀ x : QW Wf, x.w.cell? ⟨w10.heap.size, 1, none⟩ = some (.int .u64 0) := fun x => by have := (x.up.block _ (lt_of_block b3) (by simp)).trans b3; simp [World.cell?, this]
  have HGW := Lib.hid gw
  clear g2 g1 g0 gm gw b0 b1 b2 b3
  refine wp_region_quietU (by kernel_rfl) (by kernel_rfl) ?_
  repeat (go_big_quiet_step (first | (with_reducible exact Calls.quietU (HO7.out _)) | (with_reducible exact Calls.quietU (HO4.out _)) | (with_reducible exact Calls.quietU (HO0.out _)) | (with_reducible exact Calls.quietU (HM.out _))))
  refine wpQuiet_nil ?_
  intro wq hw'
  obtain ⟨⟨wy, hwq⟩, hw''⟩ := hw'
  dsimp only at hw''
  subst hw''
  go_wp2_with fail
  go_ret
  exact ⟨rfl, HGW.out.trans hwq⟩
end Go.Proofs.YtcpompbiohaomaaGreat
