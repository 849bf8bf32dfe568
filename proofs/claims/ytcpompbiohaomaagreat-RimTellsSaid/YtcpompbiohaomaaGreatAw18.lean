/- The chapter's examples of rims, plainly. gridironlaw18: box, sides, awake. -/
import Derived.Test.YtcpompbiohaomaaGreatRimSt
import Derived.Test.YtcpompbiohaomaaGreatAw17
import Derived.Test.YtcpompbiohaomaaGreatRimW
import Derived.Test.YtcpompbiohaomaaGreatAreaA
namespace Go.Proofs.YtcpompbiohaomaaGreat

def EF : List Bx := [⟨0, 3, 0, 1, 0⟩, ⟨0, 3, 2, 3, 0⟩, ⟨0, 1, 0, 3, 0⟩, ⟨2, 3, 0, 3, 0⟩]
def EX1 : List Bx := [⟨0, 1, 0, 1, 0⟩, ⟨1, 2, 1, 2, 0⟩]
def EX2 : List Bx := [⟨0, 1, 0, 1, 0⟩, ⟨1, 2, 0, 1, 0⟩]

instance (l : List Bx) (p q r s : Int) : Decidable (Within l p q r s) := by unfold Within; infer_instance
instance (b : Bx) : Decidable b.in64 := by unfold Bx.in64; infer_instance

theorem rimA_small {l : List Bx} (n : Int) (h0 : 0 ≤ n) (hn : n < 9223372036854775807) (h1 : Within l 0 n 0 n) (h2 : Within (l.map tuB) 0 n 0 n) : rimA l = horG l 0 n 0 (n + 1) + horG (l.map tuB) 0 n 0 (n + 1) := by
  unfold rimA horR
  rw [horG_ext h1 (by omega) h0 (by omega) (by omega) h0 (by omega), horG_ext h2 (by omega) h0 (by omega) (by omega) h0 (by omega)]

theorem EX_in : (∀ b ∈ EF, b.in64) ∧ (∀ b ∈ EX1, b.in64) ∧ (∀ b ∈ EX2, b.in64) := by decide

theorem EZ1_r : rimA EZ1 = 8 := by rw [rimA_small 2 (by decide) (by decide) (by decide) (by decide)]; decide
theorem EZ2_r : rimA EZ2 = 12 := by rw [rimA_small 3 (by decide) (by decide) (by decide) (by decide)]; decide
theorem EX1_r : rimA EX1 = 8 := by rw [rimA_small 2 (by decide) (by decide) (by decide) (by decide)]; decide
theorem EX2_r : rimA EX2 = 6 := by rw [rimA_small 2 (by decide) (by decide) (by decide) (by decide)]; decide
theorem EF_r : rimA EF = 16 := by rw [rimA_small 3 (by decide) (by decide) (by decide) (by decide)]; decide
theorem EZ3_r : rimA EZ3 = 73786976294838206460 := by
  unfold EZ3
  rw [rimA_one (by unfold Bx.in64; decide) (by decide)]
  rfl
theorem E_r : rimA [] = 0 := by rw [rimA_small 2 (by decide) (by decide) (by decide) (by decide)]; decide
theorem EZ1_re : rimE EZ1 = 4 := by
  unfold rimE
  have e : EZ1.map tuB = EZ1 := by decide
  rw [e, EZ1_e]
end Go.Proofs.YtcpompbiohaomaaGreat

namespace Go.Proofs.YtcpompbiohaomaaGreat
open Go.RowKit

set_option maxRecDepth 100000 in
theorem boxC18 (x1 y1 x2 y2 : Int) (w : World) : Calls Tryz.prog 26 #[.int .i64 x1, .int .i64 y1, .int .i64 x2, .int .i64 y2] w fun e w' => e = .returned (.agg #[.int .i64 x1, .int .i64 x2, .int .i64 y1, .int .i64 y2, .int .u32 0]) ∧ Upd [] w w' := by
  go_enter Tryz.func26, Tryz.ntmps26
  go_wp2_with fail
  exact bodyPost_ret (v := .agg #[.int .i64 x1, .int .i64 x2, .int .i64 y1, .int .i64 y2, .int .u32 0]) (by simp [results, Tryz.results26, go_sem]) rfl ⟨rfl, (Upd.refl _ _).alloc _⟩

set_option maxRecDepth 100000 in
set_option maxHeartbeats 2000000 in
theorem sidesC (v : Value) (l : List Bx) (w : World) (hs : See KBx w v l) (hl : l.length < 100000) (hb : ∀ b ∈ l, b.in64) :
    Calls Tryz.prog 27 #[v] w fun e w' => e = .returned (wideV (rimA l).toNat) ∧ Upd [] w w' := by
  have hu0 : Upd [] w (w.alloc (.cells #[.int .u64 0, .int .u64 0] 27)) := (Upd.refl _ _).alloc _
  have hr := rimAll v l _ (hs.upd0 hu0) hl hb
  unfold RimPost at hr
  obtain ⟨A, C, rfl⟩ := hs.form
  obtain ⟨h, lo, hv, -, -⟩ := wideV_open (rimA l).toNat
  obtain ⟨E, hE⟩ : ∃ E, rimE l = E := ⟨_, rfl⟩
  rw [hv, hE] at hr
  rw [hv]
  have h2 : (w.alloc (.cells #[.int .u64 0, .int .u64 0] 27)).heap[w.heap.size]? = some (.cells #[.int .u64 0, .int .u64 0] 27 (0, 0)) := heap_alloc_new _ _
  have HR := Lib.hid hr
  have H2 := Lib.hid (And.intro h2 hu0)
  clear hs hl hb hr hv hE h2 hu0
  go_enter Tryz.func27, Tryz.ntmps27
  go_wp2_with fail
  (with_reducible refine HR.out.mono ?_)
  rintro e w1 ⟨rfl, hu1⟩
  have h3 := (hu1.block w.heap.size (lt_of_block H2.out.1) (by simp)).trans H2.out.1
  have hu2 : Upd [] w1 (w1.alloc (.cells #[.int .u64 (h : Int), .int .u64 (lo : Int)] 27)) := (Upd.refl _ _).alloc _
  have h4 : (w1.alloc (.cells #[.int .u64 (h : Int), .int .u64 (lo : Int)] 27)).heap[w1.heap.size]? = some (.cells #[.int .u64 (h : Int), .int .u64 (lo : Int)] 27 (0, 0)) := heap_alloc_new _ _
  have h5 := (hu2.block w.heap.size (lt_of_block h3) (by simp)).trans h3
  have H5 := Lib.hid (And.intro h5 (And.intro h4 (H2.out.2.trans (hu1.trans hu2))))
  clear h3 hu2 h4 h5 hu1
  go_upto_region 2 with fail
  generalize (w1.alloc (.cells #[.int .u64 (h : Int), .int .u64 (lo : Int)] 27)) = W at H5 ⊢
  generalize w1.heap.size = q at H5 ⊢
  generalize hp : w.heap.size = p at H5 ⊢
  have z0 : W.cell? ⟨p, 0, none⟩ = some (.int .u64 0) := by simp [World.cell?, H5.out.1]
  have z1 : W.cell? ⟨p, 1, none⟩ = some (.int .u64 0) := by simp [World.cell?, H5.out.1]
  have zf0 : W.frozen? ⟨p, 0, none⟩ = false := by simp [World.frozen?, H5.out.1]
  have zf1 : W.frozen? ⟨p, 1, none⟩ = false := by simp [World.frozen?, H5.out.1]
  have c0 : W.cell? ⟨q, 0, none⟩ = some (.int .u64 (h : Int)) := by simp [World.cell?, H5.out.2.1]
  have c1 : W.cell? ⟨q, 1, none⟩ = some (.int .u64 (lo : Int)) := by simp [World.cell?, H5.out.2.1]
  have HP := Lib.hid hp
  clear hp
  have hr := heap_set (heap_set H5.out.1 0 (.int .u64 (h : Int))) 1 (.int .u64 (lo : Int))
  have HZ := Lib.hid (And.intro hr (show Upd [] w ((W.setCell ⟨p, 0, none⟩ (.int .u64 (h : Int))).setCell ⟨p, 1, none⟩ (.int .u64 (lo : Int))) from ((H5.out.2.2.setCell (.inr (by rw [HP.out]; exact Nat.le_refl _)) _).setCell (.inr (by rw [HP.out]; exact Nat.le_refl _)) _)))
  clear hr
  go_wp2_with fail
  clear z0 z1 zf0 zf1 c0 c1
  generalize ((W.setCell ⟨p, 0, none⟩ (.int .u64 (h : Int))).setCell ⟨p, 1, none⟩ (.int .u64 (lo : Int))) = Wz at HZ ⊢
  have x0 : Wz.cell? ⟨p, 0, none⟩ = some (.int .u64 (h : Int)) := by simp [World.cell?, HZ.out.1]
  have x1 : Wz.cell? ⟨p, 1, none⟩ = some (.int .u64 (lo : Int)) := by simp [World.cell?, HZ.out.1]
  exact bodyPost_ret (v := .agg #[.int .u64 (h : Int), .int .u64 (lo : Int)]) (by simp [results, Tryz.results27, go_sem, x0, x1]) rfl ⟨rfl, HZ.out.2⟩

set_option maxRecDepth 100000 in
set_option maxHeartbeats 8000000 in
theorem awake18 (w : World) :
    Calls Tryz.prog 10 #[] w fun e w' => e = .returned (.bool true) ∧ Upd [] w w' := by
  have h1 : ∀ w : World, Calls Tryz.prog 11 #[.slice (some ⟨w.heap.size, 0, none⟩) 1 1] (w.alloc (.cells #[.int .i64 0, .int .i64 2, .int .i64 0, .int .i64 2, .int .u32 0] 34)) fun e w' => e = .returned (.tuple #[.agg #[.int .u64 0, .int .u64 8], .int .i64 4]) ∧ Upd [] w w' := fun w => by
    refine (rimAll _ EZ1 _ (box1_new w 0 2 0 2) (by decide) EZ_in.1).mono ?_
    rintro e w' ⟨rfl, hu⟩
    rw [EZ1_r, EZ1_re]
    exact ⟨rfl, ((Upd.refl _ _).alloc _).trans hu⟩
  have hf : ∀ w : World, Calls Tryz.prog 27 #[.slice (some ⟨w.heap.size, 0, none⟩) 4 4] (w.alloc (.cells #[.int .i64 0, .int .i64 3, .int .i64 0, .int .i64 1, .int .u32 0, .int .i64 0, .int .i64 3, .int .i64 2, .int .i64 3, .int .u32 0, .int .i64 0, .int .i64 1, .int .i64 0, .int .i64 3, .int .u32 0, .int .i64 2, .int .i64 3, .int .i64 0, .int .i64 3, .int .u32 0] 34)) fun e w' => e = .returned (.agg #[.int .u64 0, .int .u64 16]) ∧ Upd [] (w.alloc (.cells #[.int .i64 0, .int .i64 3, .int .i64 0, .int .i64 1, .int .u32 0, .int .i64 0, .int .i64 3, .int .i64 2, .int .i64 3, .int .u32 0, .int .i64 0, .int .i64 1, .int .i64 0, .int .i64 3, .int .u32 0, .int .i64 2, .int .i64 3, .int .i64 0, .int .i64 3, .int .u32 0] 34)) w' := fun w => by
    refine (sidesC _ EF _ (show See KBx _ _ EF from sees_lit w #[.int .i64 0, .int .i64 3, .int .i64 0, .int .i64 1, .int .u32 0, .int .i64 0, .int .i64 3, .int .i64 2, .int .i64 3, .int .u32 0, .int .i64 0, .int .i64 1, .int .i64 0, .int .i64 3, .int .u32 0, .int .i64 2, .int .i64 3, .int .i64 0, .int .i64 3, .int .u32 0] 34 5 4 rfl (by decide)) (by decide) EX_in.1).mono ?_
    rintro e w' ⟨rfl, hu⟩
    rw [EF_r]
    exact ⟨rfl, hu⟩
  have h2 : ∀ w : World, Calls Tryz.prog 27 #[.slice (some ⟨w.heap.size, 0, none⟩) 2 2] (w.alloc (.cells #[.int .i64 0, .int .i64 2, .int .i64 0, .int .i64 2, .int .u32 0, .int .i64 1, .int .i64 3, .int .i64 1, .int .i64 3, .int .u32 0] 34)) fun e w' => e = .returned (.agg #[.int .u64 0, .int .u64 12]) ∧ Upd [] (w.alloc (.cells #[.int .i64 0, .int .i64 2, .int .i64 0, .int .i64 2, .int .u32 0, .int .i64 1, .int .i64 3, .int .i64 1, .int .i64 3, .int .u32 0] 34)) w' := fun w => by
    refine (sidesC _ EZ2 _ (show See KBx _ _ EZ2 from sees_lit w #[.int .i64 0, .int .i64 2, .int .i64 0, .int .i64 2, .int .u32 0, .int .i64 1, .int .i64 3, .int .i64 1, .int .i64 3, .int .u32 0] 34 5 2 rfl (by decide)) (by decide) EZ_in.2.1).mono ?_
    rintro e w' ⟨rfl, hu⟩
    rw [EZ2_r]
    exact ⟨rfl, hu⟩
  have hx1 : ∀ w : World, Calls Tryz.prog 27 #[.slice (some ⟨w.heap.size, 0, none⟩) 2 2] (w.alloc (.cells #[.int .i64 0, .int .i64 1, .int .i64 0, .int .i64 1, .int .u32 0, .int .i64 1, .int .i64 2, .int .i64 1, .int .i64 2, .int .u32 0] 34)) fun e w' => e = .returned (.agg #[.int .u64 0, .int .u64 8]) ∧ Upd [] (w.alloc (.cells #[.int .i64 0, .int .i64 1, .int .i64 0, .int .i64 1, .int .u32 0, .int .i64 1, .int .i64 2, .int .i64 1, .int .i64 2, .int .u32 0] 34)) w' := fun w => by
    refine (sidesC _ EX1 _ (show See KBx _ _ EX1 from sees_lit w #[.int .i64 0, .int .i64 1, .int .i64 0, .int .i64 1, .int .u32 0, .int .i64 1, .int .i64 2, .int .i64 1, .int .i64 2, .int .u32 0] 34 5 2 rfl (by decide)) (by decide) EX_in.2.1).mono ?_
    rintro e w' ⟨rfl, hu⟩
    rw [EX1_r]
    exact ⟨rfl, hu⟩
  have hx2 : ∀ w : World, Calls Tryz.prog 27 #[.slice (some ⟨w.heap.size, 0, none⟩) 2 2] (w.alloc (.cells #[.int .i64 0, .int .i64 1, .int .i64 0, .int .i64 1, .int .u32 0, .int .i64 1, .int .i64 2, .int .i64 0, .int .i64 1, .int .u32 0] 34)) fun e w' => e = .returned (.agg #[.int .u64 0, .int .u64 6]) ∧ Upd [] (w.alloc (.cells #[.int .i64 0, .int .i64 1, .int .i64 0, .int .i64 1, .int .u32 0, .int .i64 1, .int .i64 2, .int .i64 0, .int .i64 1, .int .u32 0] 34)) w' := fun w => by
    refine (sidesC _ EX2 _ (show See KBx _ _ EX2 from sees_lit w #[.int .i64 0, .int .i64 1, .int .i64 0, .int .i64 1, .int .u32 0, .int .i64 1, .int .i64 2, .int .i64 0, .int .i64 1, .int .u32 0] 34 5 2 rfl (by decide)) (by decide) EX_in.2.2).mono ?_
    rintro e w' ⟨rfl, hu⟩
    rw [EX2_r]
    exact ⟨rfl, hu⟩
  have h3 : ∀ w : World, Calls Tryz.prog 27 #[.slice (some ⟨w.heap.size, 0, none⟩) 1 1] (w.alloc (.cells #[.int .i64 (-9223372036854775808), .int .i64 9223372036854775807, .int .i64 (-9223372036854775808), .int .i64 9223372036854775807, .int .u32 0] 34)) fun e w' => e = .returned (.agg #[.int .u64 3, .int .u64 18446744073709551612]) ∧ Upd [] (w.alloc (.cells #[.int .i64 (-9223372036854775808), .int .i64 9223372036854775807, .int .i64 (-9223372036854775808), .int .i64 9223372036854775807, .int .u32 0] 34)) w' := fun w => by
    refine (sidesC _ EZ3 _ (show See KBx _ _ EZ3 from sees_lit w #[.int .i64 (-9223372036854775808), .int .i64 9223372036854775807, .int .i64 (-9223372036854775808), .int .i64 9223372036854775807, .int .u32 0] 34 5 1 rfl (by decide)) (by decide) EZ_in.2.2.1).mono ?_
    rintro e w' ⟨rfl, hu⟩
    rw [EZ3_r]
    exact ⟨rfl, hu⟩
  have h0 : ∀ w : World, Calls Tryz.prog 27 #[.slice none 0 0] w fun e w' => e = .returned (.agg #[.int .u64 0, .int .u64 0]) ∧ Upd [] w w' := fun w => by
    refine (sidesC (.slice none 0 0) [] w ⟨rfl, .inl ⟨rfl, rfl⟩⟩ (by decide) (by simp)).mono ?_
    rintro e w' ⟨rfl, hu⟩
    rw [E_r]
    exact ⟨rfl, hu⟩
  have o8 : ∀ w, Calls Tryz.prog 14 #[.int .u64 8] w fun e w' => e = .returned (.agg #[.int .u64 0, .int .u64 8]) ∧ Upd [] w w' := fun w => wOfC 8 (by decide) w
  have n8 : ∀ w, (binOp .eql 27 (.agg #[.int .u64 0, .int .u64 8]) (.agg #[.int .u64 0, .int .u64 8])).run Tryz.prog w = .ok (.bool true) w := fun _ => by kernel_rfl
  have o12 : ∀ w, Calls Tryz.prog 14 #[.int .u64 12] w fun e w' => e = .returned (.agg #[.int .u64 0, .int .u64 12]) ∧ Upd [] w w' := fun w => wOfC 12 (by decide) w
  have n12 : ∀ w, (binOp .eql 27 (.agg #[.int .u64 0, .int .u64 12]) (.agg #[.int .u64 0, .int .u64 12])).run Tryz.prog w = .ok (.bool true) w := fun _ => by kernel_rfl
  have o6 : ∀ w, Calls Tryz.prog 14 #[.int .u64 6] w fun e w' => e = .returned (.agg #[.int .u64 0, .int .u64 6]) ∧ Upd [] w w' := fun w => wOfC 6 (by decide) w
  have n6 : ∀ w, (binOp .eql 27 (.agg #[.int .u64 0, .int .u64 6]) (.agg #[.int .u64 0, .int .u64 6])).run Tryz.prog w = .ok (.bool true) w := fun _ => by kernel_rfl
  have o16 : ∀ w, Calls Tryz.prog 14 #[.int .u64 16] w fun e w' => e = .returned (.agg #[.int .u64 0, .int .u64 16]) ∧ Upd [] w w' := fun w => wOfC 16 (by decide) w
  have n16 : ∀ w, (binOp .eql 27 (.agg #[.int .u64 0, .int .u64 16]) (.agg #[.int .u64 0, .int .u64 16])).run Tryz.prog w = .ok (.bool true) w := fun _ => by kernel_rfl
  have o0 : ∀ w, Calls Tryz.prog 14 #[.int .u64 0] w fun e w' => e = .returned (.agg #[.int .u64 0, .int .u64 0]) ∧ Upd [] w w' := fun w => wOfC 0 (by decide) w
  have n0 : ∀ w, (binOp .eql 27 (.agg #[.int .u64 0, .int .u64 0]) (.agg #[.int .u64 0, .int .u64 0])).run Tryz.prog w = .ok (.bool true) w := fun _ => by kernel_rfl
  have om : ∀ w, Calls Tryz.prog 15 #[.int .u64 18446744073709551615, .int .u64 4] w fun e w' => e = .returned (.agg #[.int .u64 3, .int .u64 18446744073709551612]) ∧ Upd [] w w' := fun w => by
    have h1 := wMulC 18446744073709551615 4 (by decide) (by decide) w
    have e : wideV (18446744073709551615 * 4) = .agg #[.int .u64 3, .int .u64 18446744073709551612] := by unfold wideV; rfl
    rw [e] at h1
    exact h1
  have nm : ∀ w, (binOp .eql 27 (.agg #[.int .u64 3, .int .u64 18446744073709551612]) (.agg #[.int .u64 3, .int .u64 18446744073709551612])).run Tryz.prog w = .ok (.bool true) w := fun _ => by kernel_rfl
  have H1 := Lib.hid h1
  have HFR := Lib.hid hf
  have HS2 := Lib.hid h2
  have HX1 := Lib.hid hx1
  have HX2 := Lib.hid hx2
  have HS3 := Lib.hid h3
  have HS0 := Lib.hid h0
  have HO := Lib.hid (And.intro o8 (And.intro o12 (And.intro o6 (And.intro o16 (And.intro o0 om)))))
  clear h1 hf h2 hx1 hx2 h3 h0 o8 o12 o6 o16 o0 om
  go_enter Tryz.func10, Tryz.ntmps10
  go_wp2_with fail
  (with_reducible refine (boxC18 _ _ _ _ _).mono ?_)
  rintro e w1 ⟨rfl, hu1⟩
  have HU1 := Lib.hid hu1
  clear hu1
  go_wp2_with fail
  (with_reducible refine (H1.out _).mono ?_)
  rintro e w2 ⟨rfl, hu2⟩
  have HU2 := Lib.hid hu2
  clear hu2
  have HA := Lib.hid (heap_alloc_new w2 (.cells #[.int .u64 0, .int .u64 8] 27))
  have HUA := Lib.hid (show Upd [] w (w2.alloc (.cells #[.int .u64 0, .int .u64 8] 27)) from HU1.out.trans (HU2.out.trans ((Upd.refl _ _).alloc _)))
  go_upto_region 2 with fail
  generalize (w2.alloc (.cells #[.int .u64 0, .int .u64 8] 27)) = Wa at HA HUA ⊢
  generalize w2.heap.size = p1 at HA ⊢
  go_wp2_with fail
  (with_reducible refine (boxC18 _ _ _ _ _).mono ?_)
  rintro e w3 ⟨rfl, hu3⟩
  have HU3 := Lib.hid hu3
  clear hu3
  go_wp2_with fail
  (with_reducible refine (boxC18 _ _ _ _ _).mono ?_)
  rintro e w4 ⟨rfl, hu4⟩
  have HU4 := Lib.hid hu4
  clear hu4
  go_wp2_with fail
  (with_reducible refine (boxC18 _ _ _ _ _).mono ?_)
  rintro e w5 ⟨rfl, hu5⟩
  have HU5 := Lib.hid hu5
  clear hu5
  go_wp2_with fail
  (with_reducible refine (boxC18 _ _ _ _ _).mono ?_)
  rintro e w6 ⟨rfl, hu6⟩
  have HU6 := Lib.hid hu6
  clear hu6
  go_wp2_with fail
  (with_reducible refine (HFR.out _).mono ?_)
  rintro e w7 ⟨rfl, hu7⟩
  have HU7 := Lib.hid hu7
  clear hu7
  have HB := Lib.hid (heap_alloc_new w7 (.cells #[.int .u64 0, .int .u64 16] 27))
  have hub : Upd [] Wa (w7.alloc (.cells #[.int .u64 0, .int .u64 16] 27)) := HU3.out.trans (HU4.out.trans (HU5.out.trans (HU6.out.trans (((Upd.refl _ _).alloc _).trans (HU7.out.trans ((Upd.refl _ _).alloc _))))))
  have HA2 := Lib.hid ((hub.block p1 (lt_of_block HA.out) (by simp)).trans HA.out)
  have HUB := Lib.hid (HUA.out.trans hub)
  clear hub
  go_upto_region 3 with fail
  generalize (w7.alloc (.cells #[.int .u64 0, .int .u64 16] 27)) = Wb at HA2 HB HUB ⊢
  generalize w7.heap.size = p3 at HB ⊢
  obtain ⟨Wd, hWd⟩ : ∃ Wd, Wd = Wb.drew := ⟨_, rfl⟩
  have HUD := Lib.hid (show Upd [] w Wd by rw [hWd]; exact HUB.out.drew)
  have HS : Wd.cell? ⟨p1, 0, none⟩ = some (.int .u64 0) ∧ Wd.cell? ⟨p1, 1, none⟩ = some (.int .u64 8) ∧ Wd.cell? ⟨p3, 0, none⟩ = some (.int .u64 0) ∧ Wd.cell? ⟨p3, 1, none⟩ = some (.int .u64 16) := by
    have e : ∀ p q, Wd.cell? ⟨p, q, none⟩ = Wb.cell? ⟨p, q, none⟩ := fun p q => by rw [hWd]; rfl
    rw [e, e, e, e]
    exact ⟨by simp [World.cell?, HA2.out], by simp [World.cell?, HA2.out], by simp [World.cell?, HB.out], by simp [World.cell?, HB.out]⟩
  have HS := Lib.hid HS
  -- region 3: T waits for all loads; fuel 1
  refine GoT.start [] (fun w' => w'.cell? ⟨p1, 0, none⟩ = some (.int .u64 0) ∧ w'.cell? ⟨p1, 1, none⟩ = some (.int .u64 8) ∧ w'.cell? ⟨p3, 0, none⟩ = some (.int .u64 0) ∧ w'.cell? ⟨p3, 1, none⟩ = some (.int .u64 16)) (by kernel_rfl) ?_ fun hS => ?_
  · exact by rw [← hWd]; exact HS.out
  rw [← hWd] at hS ⊢
  clear hWd
  refine' GoT.take 1 (i := 0) (oi := ⟨some 16, _, _, _, _, _⟩) (v := _) rfl (by kernel_rfl) (by kernel_rfl) (by kernel_rfl) (by kernel_rfl) (fun _ _ _ h => h) (Or.inl ⟨by rfl, ?y3_0⟩) (by assumption) ?r3_0
  case y3_0 => intro w hSw; go_simp <;> with_reducible rfl
  simp only [Act.put, List.setIfInBounds_toArray, List.set_cons_zero, List.set_cons_succ]
  -- 1: Go.Op.call { callee := Go.Callee.value (Go.Operand.func 23), args := #[Go.Operand.const (Go.Value.int Go.IntKind.u64 8)], argTypes := #[25] }
  refine GoT.one (i := 1) (o := ⟨some 17, _, _, _, _, _⟩) rfl (by kernel_rfl) fun K hK => ?_
  go_simp
  go_at_call 14
  (with_reducible refine (HO.out.1 _).mono ?_)
  rintro e w21 ⟨rfl, hu21⟩
  refine hK.out _ _ (fun _ h => ?_) ?_
  · exact keep4 h hu21
  clear hK K
  try simp only [Act.put, List.setIfInBounds_toArray, List.set_cons_zero, List.set_cons_succ]
  have HU21 := Lib.hid (HUD.out.trans (hu21))
  have HS21 := Lib.hid (keep4 HS.out (hu21))
  clear hu21
  refine' GoT.move (i := 2) (oi := ⟨some 18, _, _, _, _, _⟩) (v := _) rfl (by kernel_rfl) (by kernel_rfl) (by kernel_rfl) (fun _ _ _ h => h) (Or.inl ⟨by rfl, ?y3_2⟩) ?r3_2
  case y3_2 => intro w; go_simp <;> with_reducible rfl
  simp only [Act.put, List.setIfInBounds_toArray, List.set_cons_zero, List.set_cons_succ]
  refine' GoT.move (i := 3) (oi := ⟨some 19, _, _, _, _, _⟩) (v := _) rfl (by kernel_rfl) (by kernel_rfl) (by kernel_rfl) (fun _ _ _ h => h) (Or.inl ⟨by rfl, ?y3_3⟩) ?r3_3
  case y3_3 => intro w; go_simp <;> with_reducible rfl
  simp only [Act.put, List.setIfInBounds_toArray, List.set_cons_zero, List.set_cons_succ]
  refine' GoT.move (i := 4) (oi := ⟨some 20, _, _, _, _, _⟩) (v := _) rfl (by kernel_rfl) (by kernel_rfl) (by kernel_rfl) (fun _ _ _ h => h) (Or.inl ⟨by rfl, ?y3_4⟩) ?r3_4
  case y3_4 => intro w; go_simp <;> with_reducible rfl
  simp only [Act.put, List.setIfInBounds_toArray, List.set_cons_zero, List.set_cons_succ]
  refine' GoT.move (i := 5) (oi := ⟨some 21, _, _, _, _, _⟩) (v := _) rfl (by kernel_rfl) (by kernel_rfl) (by kernel_rfl) (fun _ _ _ h => h) (Or.inl ⟨by rfl, ?y3_5⟩) ?r3_5
  case y3_5 => intro w; go_simp <;> with_reducible rfl
  simp only [Act.put, List.setIfInBounds_toArray, List.set_cons_zero, List.set_cons_succ]
  refine' GoT.move (i := 6) (oi := ⟨some 22, _, _, _, _, _⟩) (v := _) rfl (by kernel_rfl) (by kernel_rfl) (by kernel_rfl) (fun _ _ _ h => h) (Or.inl ⟨by rfl, ?y3_6⟩) ?r3_6
  case y3_6 => intro w; go_simp <;> with_reducible rfl
  simp only [Act.put, List.setIfInBounds_toArray, List.set_cons_zero, List.set_cons_succ]
  refine' GoT.move (i := 7) (oi := ⟨some 23, _, _, _, _, _⟩) (v := _) rfl (by kernel_rfl) (by kernel_rfl) (by kernel_rfl) (fun _ _ _ h => h) (Or.inl ⟨by rfl, ?y3_7⟩) ?r3_7
  case y3_7 => intro w; go_simp <;> with_reducible rfl
  simp only [Act.put, List.setIfInBounds_toArray, List.set_cons_zero, List.set_cons_succ]
  -- 8: Go.Op.call { callee := Go.Callee.value (Go.Operand.func 32), args := #[Go.Operand.const (Go.Value.int Go.IntKind.i64 0), Go.Operand.const (Go.Value.in
  refine GoT.one (i := 8) (o := ⟨some 24, _, _, _, _, _⟩) rfl (by kernel_rfl) fun K hK => ?_
  go_simp
  go_at_call 26
  (with_reducible refine (boxC18 _ _ _ _ _).mono ?_)
  rintro e w22 ⟨rfl, hu22⟩
  refine hK.out _ _ (fun _ h => ?_) ?_
  · exact keep4 h hu22
  clear hK K
  try simp only [Act.put, List.setIfInBounds_toArray, List.set_cons_zero, List.set_cons_succ]
  have HU22 := Lib.hid (HU21.out.trans (hu22))
  have HS22 := Lib.hid (keep4 HS21.out (hu22))
  clear hu22
  -- 9: Go.Op.call { callee := Go.Callee.value (Go.Operand.func 32), args := #[Go.Operand.const (Go.Value.int Go.IntKind.i64 1), Go.Operand.const (Go.Value.in
  refine GoT.one (i := 9) (o := ⟨some 25, _, _, _, _, _⟩) rfl (by kernel_rfl) fun K hK => ?_
  go_simp
  go_at_call 26
  (with_reducible refine (boxC18 _ _ _ _ _).mono ?_)
  rintro e w23 ⟨rfl, hu23⟩
  refine hK.out _ _ (fun _ h => ?_) ?_
  · exact keep4 h hu23
  clear hK K
  try simp only [Act.put, List.setIfInBounds_toArray, List.set_cons_zero, List.set_cons_succ]
  have HU23 := Lib.hid (HU22.out.trans (hu23))
  have HS23 := Lib.hid (keep4 HS22.out (hu23))
  clear hu23
  -- 10: Go.Op.buildSlice 22 2 #[(0, Go.Operand.tmp 24), (1, Go.Operand.tmp 25)]
  refine GoT.one (i := 10) (o := ⟨some 26, _, _, _, _, _⟩) rfl (by kernel_rfl) fun K hK => ?_
  go_simp
  refine hK.out _ _ (fun _ h => ?_) ?_
  · exact keep4 h ((Upd.refl _ _).alloc _)
  clear hK K
  try simp only [Act.put, List.setIfInBounds_toArray, List.set_cons_zero, List.set_cons_succ]
  -- 11: Go.Op.call { callee := Go.Callee.value (Go.Operand.func 33), args := #[Go.Operand.tmp 26], argTypes := #[22] }
  refine GoT.one (i := 11) (o := ⟨some 27, _, _, _, _, _⟩) rfl (by kernel_rfl) fun K hK => ?_
  go_simp
  go_at_call 27
  (with_reducible refine (HS2.out _).mono ?_)
  rintro e w24 ⟨rfl, hu24⟩
  refine hK.out _ _ (fun _ h => ?_) ?_
  · exact keep4 h hu24
  clear hK K
  try simp only [Act.put, List.setIfInBounds_toArray, List.set_cons_zero, List.set_cons_succ]
  have HU24 := Lib.hid (HU23.out.trans (((Upd.refl _ _).alloc _).trans hu24))
  have HS24 := Lib.hid (keep4 HS23.out (((Upd.refl _ _).alloc _).trans hu24))
  clear hu24
  -- 12: Go.Op.call { callee := Go.Callee.value (Go.Operand.func 23), args := #[Go.Operand.const (Go.Value.int Go.IntKind.u64 12)], argTypes := #[25] }
  refine GoT.one (i := 12) (o := ⟨some 28, _, _, _, _, _⟩) rfl (by kernel_rfl) fun K hK => ?_
  go_simp
  go_at_call 14
  (with_reducible refine (HO.out.2.1 _).mono ?_)
  rintro e w25 ⟨rfl, hu25⟩
  refine hK.out _ _ (fun _ h => ?_) ?_
  · exact keep4 h hu25
  clear hK K
  try simp only [Act.put, List.setIfInBounds_toArray, List.set_cons_zero, List.set_cons_succ]
  have HU25 := Lib.hid (HU24.out.trans (hu25))
  have HS25 := Lib.hid (keep4 HS24.out (hu25))
  clear hu25
  refine' GoT.move (i := 13) (oi := ⟨some 29, _, _, _, _, _⟩) (v := _) rfl (by kernel_rfl) (by kernel_rfl) (by kernel_rfl) (fun _ _ _ h => h) (Or.inl ⟨by rfl, ?y3_13⟩) ?r3_13
  case y3_13 => intro w; go_simp <;> with_reducible rfl
  simp only [Act.put, List.setIfInBounds_toArray, List.set_cons_zero, List.set_cons_succ]
  refine' GoT.move (i := 14) (oi := ⟨some 30, _, _, _, _, _⟩) (v := _) rfl (by kernel_rfl) (by kernel_rfl) (by kernel_rfl) (fun _ _ _ h => h) (Or.inl ⟨by rfl, ?y3_14⟩) ?r3_14
  case y3_14 => intro w; go_simp <;> with_reducible rfl
  simp only [Act.put, List.setIfInBounds_toArray, List.set_cons_zero, List.set_cons_succ]
  refine' GoT.move (i := 15) (oi := ⟨some 31, _, _, _, _, _⟩) (v := _) rfl (by kernel_rfl) (by kernel_rfl) (by kernel_rfl) (fun _ _ _ h => h) (Or.inl ⟨by rfl, ?y3_15⟩) ?r3_15
  case y3_15 => intro w; go_simp <;> with_reducible rfl
  simp only [Act.put, List.setIfInBounds_toArray, List.set_cons_zero, List.set_cons_succ]
  -- 16: Go.Op.call { callee := Go.Callee.value (Go.Operand.func 32), args := #[Go.Operand.const (Go.Value.int Go.IntKind.i64 0), Go.Operand.const (Go.Value.in
  refine GoT.one (i := 16) (o := ⟨some 32, _, _, _, _, _⟩) rfl (by kernel_rfl) fun K hK => ?_
  go_simp
  go_at_call 26
  (with_reducible refine (boxC18 _ _ _ _ _).mono ?_)
  rintro e w26 ⟨rfl, hu26⟩
  refine hK.out _ _ (fun _ h => ?_) ?_
  · exact keep4 h hu26
  clear hK K
  try simp only [Act.put, List.setIfInBounds_toArray, List.set_cons_zero, List.set_cons_succ]
  have HU26 := Lib.hid (HU25.out.trans (hu26))
  have HS26 := Lib.hid (keep4 HS25.out (hu26))
  clear hu26
  -- 17: Go.Op.call { callee := Go.Callee.value (Go.Operand.func 32), args := #[Go.Operand.const (Go.Value.int Go.IntKind.i64 1), Go.Operand.const (Go.Value.in
  refine GoT.one (i := 17) (o := ⟨some 33, _, _, _, _, _⟩) rfl (by kernel_rfl) fun K hK => ?_
  go_simp
  go_at_call 26
  (with_reducible refine (boxC18 _ _ _ _ _).mono ?_)
  rintro e w27 ⟨rfl, hu27⟩
  refine hK.out _ _ (fun _ h => ?_) ?_
  · exact keep4 h hu27
  clear hK K
  try simp only [Act.put, List.setIfInBounds_toArray, List.set_cons_zero, List.set_cons_succ]
  have HU27 := Lib.hid (HU26.out.trans (hu27))
  have HS27 := Lib.hid (keep4 HS26.out (hu27))
  clear hu27
  -- 18: Go.Op.buildSlice 22 2 #[(0, Go.Operand.tmp 32), (1, Go.Operand.tmp 33)]
  refine GoT.one (i := 18) (o := ⟨some 34, _, _, _, _, _⟩) rfl (by kernel_rfl) fun K hK => ?_
  go_simp
  refine hK.out _ _ (fun _ h => ?_) ?_
  · exact keep4 h ((Upd.refl _ _).alloc _)
  clear hK K
  try simp only [Act.put, List.setIfInBounds_toArray, List.set_cons_zero, List.set_cons_succ]
  -- 19: Go.Op.call { callee := Go.Callee.value (Go.Operand.func 33), args := #[Go.Operand.tmp 34], argTypes := #[22] }
  refine GoT.one (i := 19) (o := ⟨some 35, _, _, _, _, _⟩) rfl (by kernel_rfl) fun K hK => ?_
  go_simp
  go_at_call 27
  (with_reducible refine (HX1.out _).mono ?_)
  rintro e w28 ⟨rfl, hu28⟩
  refine hK.out _ _ (fun _ h => ?_) ?_
  · exact keep4 h hu28
  clear hK K
  try simp only [Act.put, List.setIfInBounds_toArray, List.set_cons_zero, List.set_cons_succ]
  have HU28 := Lib.hid (HU27.out.trans (((Upd.refl _ _).alloc _).trans hu28))
  have HS28 := Lib.hid (keep4 HS27.out (((Upd.refl _ _).alloc _).trans hu28))
  clear hu28
  -- 20: Go.Op.call { callee := Go.Callee.value (Go.Operand.func 23), args := #[Go.Operand.const (Go.Value.int Go.IntKind.u64 8)], argTypes := #[25] }
  refine GoT.one (i := 20) (o := ⟨some 36, _, _, _, _, _⟩) rfl (by kernel_rfl) fun K hK => ?_
  go_simp
  go_at_call 14
  (with_reducible refine (HO.out.1 _).mono ?_)
  rintro e w29 ⟨rfl, hu29⟩
  refine hK.out _ _ (fun _ h => ?_) ?_
  · exact keep4 h hu29
  clear hK K
  try simp only [Act.put, List.setIfInBounds_toArray, List.set_cons_zero, List.set_cons_succ]
  have HU29 := Lib.hid (HU28.out.trans (hu29))
  have HS29 := Lib.hid (keep4 HS28.out (hu29))
  clear hu29
  refine' GoT.move (i := 21) (oi := ⟨some 37, _, _, _, _, _⟩) (v := _) rfl (by kernel_rfl) (by kernel_rfl) (by kernel_rfl) (fun _ _ _ h => h) (Or.inl ⟨by rfl, ?y3_21⟩) ?r3_21
  case y3_21 => intro w; go_simp <;> with_reducible rfl
  simp only [Act.put, List.setIfInBounds_toArray, List.set_cons_zero, List.set_cons_succ]
  refine' GoT.move (i := 22) (oi := ⟨some 38, _, _, _, _, _⟩) (v := _) rfl (by kernel_rfl) (by kernel_rfl) (by kernel_rfl) (fun _ _ _ h => h) (Or.inl ⟨by rfl, ?y3_22⟩) ?r3_22
  case y3_22 => intro w; go_simp <;> with_reducible rfl
  simp only [Act.put, List.setIfInBounds_toArray, List.set_cons_zero, List.set_cons_succ]
  refine' GoT.move (i := 23) (oi := ⟨some 39, _, _, _, _, _⟩) (v := _) rfl (by kernel_rfl) (by kernel_rfl) (by kernel_rfl) (fun _ _ _ h => h) (Or.inl ⟨by rfl, ?y3_23⟩) ?r3_23
  case y3_23 => intro w; go_simp <;> with_reducible rfl
  simp only [Act.put, List.setIfInBounds_toArray, List.set_cons_zero, List.set_cons_succ]
  -- 24: Go.Op.call { callee := Go.Callee.value (Go.Operand.func 32), args := #[Go.Operand.const (Go.Value.int Go.IntKind.i64 0), Go.Operand.const (Go.Value.in
  refine GoT.one (i := 24) (o := ⟨some 40, _, _, _, _, _⟩) rfl (by kernel_rfl) fun K hK => ?_
  go_simp
  go_at_call 26
  (with_reducible refine (boxC18 _ _ _ _ _).mono ?_)
  rintro e w30 ⟨rfl, hu30⟩
  refine hK.out _ _ (fun _ h => ?_) ?_
  · exact keep4 h hu30
  clear hK K
  try simp only [Act.put, List.setIfInBounds_toArray, List.set_cons_zero, List.set_cons_succ]
  have HU30 := Lib.hid (HU29.out.trans (hu30))
  have HS30 := Lib.hid (keep4 HS29.out (hu30))
  clear hu30
  -- 25: Go.Op.call { callee := Go.Callee.value (Go.Operand.func 32), args := #[Go.Operand.const (Go.Value.int Go.IntKind.i64 1), Go.Operand.const (Go.Value.in
  refine GoT.one (i := 25) (o := ⟨some 41, _, _, _, _, _⟩) rfl (by kernel_rfl) fun K hK => ?_
  go_simp
  go_at_call 26
  (with_reducible refine (boxC18 _ _ _ _ _).mono ?_)
  rintro e w31 ⟨rfl, hu31⟩
  refine hK.out _ _ (fun _ h => ?_) ?_
  · exact keep4 h hu31
  clear hK K
  try simp only [Act.put, List.setIfInBounds_toArray, List.set_cons_zero, List.set_cons_succ]
  have HU31 := Lib.hid (HU30.out.trans (hu31))
  have HS31 := Lib.hid (keep4 HS30.out (hu31))
  clear hu31
  -- 26: Go.Op.buildSlice 22 2 #[(0, Go.Operand.tmp 40), (1, Go.Operand.tmp 41)]
  refine GoT.one (i := 26) (o := ⟨some 42, _, _, _, _, _⟩) rfl (by kernel_rfl) fun K hK => ?_
  go_simp
  refine hK.out _ _ (fun _ h => ?_) ?_
  · exact keep4 h ((Upd.refl _ _).alloc _)
  clear hK K
  try simp only [Act.put, List.setIfInBounds_toArray, List.set_cons_zero, List.set_cons_succ]
  -- 27: Go.Op.call { callee := Go.Callee.value (Go.Operand.func 33), args := #[Go.Operand.tmp 42], argTypes := #[22] }
  refine GoT.one (i := 27) (o := ⟨some 43, _, _, _, _, _⟩) rfl (by kernel_rfl) fun K hK => ?_
  go_simp
  go_at_call 27
  (with_reducible refine (HX2.out _).mono ?_)
  rintro e w32 ⟨rfl, hu32⟩
  refine hK.out _ _ (fun _ h => ?_) ?_
  · exact keep4 h hu32
  clear hK K
  try simp only [Act.put, List.setIfInBounds_toArray, List.set_cons_zero, List.set_cons_succ]
  have HU32 := Lib.hid (HU31.out.trans (((Upd.refl _ _).alloc _).trans hu32))
  have HS32 := Lib.hid (keep4 HS31.out (((Upd.refl _ _).alloc _).trans hu32))
  clear hu32
  -- 28: Go.Op.call { callee := Go.Callee.value (Go.Operand.func 23), args := #[Go.Operand.const (Go.Value.int Go.IntKind.u64 6)], argTypes := #[25] }
  refine GoT.one (i := 28) (o := ⟨some 44, _, _, _, _, _⟩) rfl (by kernel_rfl) fun K hK => ?_
  go_simp
  go_at_call 14
  (with_reducible refine (HO.out.2.2.1 _).mono ?_)
  rintro e w33 ⟨rfl, hu33⟩
  refine hK.out _ _ (fun _ h => ?_) ?_
  · exact keep4 h hu33
  clear hK K
  try simp only [Act.put, List.setIfInBounds_toArray, List.set_cons_zero, List.set_cons_succ]
  have HU33 := Lib.hid (HU32.out.trans (hu33))
  have HS33 := Lib.hid (keep4 HS32.out (hu33))
  clear hu33
  have hSS := HS33.out
  refine' GoT.move (i := 29) (oi := ⟨some 45, _, _, _, _, _⟩) (v := _) rfl (by kernel_rfl) (by kernel_rfl) (by kernel_rfl) (fun _ _ _ h => h) (Or.inl ⟨by rfl, ?y3_29⟩) ?r3_29
  case y3_29 => intro w; go_simp <;> with_reducible rfl
  simp only [Act.put, List.setIfInBounds_toArray, List.set_cons_zero, List.set_cons_succ]
  refine' GoT.move (i := 30) (oi := ⟨some 46, _, _, _, _, _⟩) (v := _) rfl (by kernel_rfl) (by kernel_rfl) (by kernel_rfl) (fun _ _ _ h => h) (Or.inl ⟨by rfl, ?y3_30⟩) ?r3_30
  case y3_30 => intro w; go_simp <;> with_reducible rfl
  simp only [Act.put, List.setIfInBounds_toArray, List.set_cons_zero, List.set_cons_succ]
  refine' GoT.move (i := 31) (oi := ⟨some 47, _, _, _, _, _⟩) (v := _) rfl (by kernel_rfl) (by kernel_rfl) (by kernel_rfl) (fun _ _ _ h => h) (Or.inl ⟨by rfl, ?y3_31⟩) ?r3_31
  case y3_31 => intro w; go_simp <;> with_reducible rfl
  simp only [Act.put, List.setIfInBounds_toArray, List.set_cons_zero, List.set_cons_succ]
  refine' GoT.take 1 (i := 32) (oi := ⟨some 48, _, _, _, _, _⟩) (v := _) rfl (by kernel_rfl) (by kernel_rfl) (by kernel_rfl) (by kernel_rfl) (fun _ _ _ h => h) (Or.inl ⟨by rfl, ?y3_32⟩) (by assumption) ?r3_32
  case y3_32 => intro w hSw; go_simp <;> with_reducible rfl
  simp only [Act.put, List.setIfInBounds_toArray, List.set_cons_zero, List.set_cons_succ]
  -- 33: Go.Op.call { callee := Go.Callee.value (Go.Operand.func 23), args := #[Go.Operand.const (Go.Value.int Go.IntKind.u64 16)], argTypes := #[25] }
  refine GoT.one (i := 33) (o := ⟨some 49, _, _, _, _, _⟩) rfl (by kernel_rfl) fun K hK => ?_
  go_simp
  go_at_call 14
  (with_reducible refine (HO.out.2.2.2.1 _).mono ?_)
  rintro e w34 ⟨rfl, hu34⟩
  refine hK.out _ _ (fun _ h => ?_) ?_
  · exact keep4 h hu34
  clear hK K
  try simp only [Act.put, List.setIfInBounds_toArray, List.set_cons_zero, List.set_cons_succ]
  have HU34 := Lib.hid (HU33.out.trans (hu34))
  have HS34 := Lib.hid (keep4 HS33.out (hu34))
  clear hu34
  refine' GoT.move (i := 34) (oi := ⟨some 50, _, _, _, _, _⟩) (v := _) rfl (by kernel_rfl) (by kernel_rfl) (by kernel_rfl) (fun _ _ _ h => h) (Or.inl ⟨by rfl, ?y3_34⟩) ?r3_34
  case y3_34 => intro w; go_simp <;> with_reducible rfl
  simp only [Act.put, List.setIfInBounds_toArray, List.set_cons_zero, List.set_cons_succ]
  refine' GoT.move (i := 35) (oi := ⟨some 51, _, _, _, _, _⟩) (v := _) rfl (by kernel_rfl) (by kernel_rfl) (by kernel_rfl) (fun _ _ _ h => h) (Or.inl ⟨by rfl, ?y3_35⟩) ?r3_35
  case y3_35 => intro w; go_simp <;> with_reducible rfl
  simp only [Act.put, List.setIfInBounds_toArray, List.set_cons_zero, List.set_cons_succ]
  refine' GoT.move (i := 36) (oi := ⟨some 52, _, _, _, _, _⟩) (v := _) rfl (by kernel_rfl) (by kernel_rfl) (by kernel_rfl) (fun _ _ _ h => h) (Or.inl ⟨by rfl, ?y3_36⟩) ?r3_36
  case y3_36 => intro w; go_simp <;> with_reducible rfl
  simp only [Act.put, List.setIfInBounds_toArray, List.set_cons_zero, List.set_cons_succ]
  -- 37: Go.Op.call { callee := Go.Callee.value (Go.Operand.func 32), args := #[Go.Operand.const (Go.Value.int Go.IntKind.i64 (-9223372036854775808)), Go.Opera
  refine GoT.one (i := 37) (o := ⟨some 53, _, _, _, _, _⟩) rfl (by kernel_rfl) fun K hK => ?_
  go_simp
  go_at_call 26
  (with_reducible refine (boxC18 _ _ _ _ _).mono ?_)
  rintro e w35 ⟨rfl, hu35⟩
  refine hK.out _ _ (fun _ h => ?_) ?_
  · exact keep4 h hu35
  clear hK K
  try simp only [Act.put, List.setIfInBounds_toArray, List.set_cons_zero, List.set_cons_succ]
  have HU35 := Lib.hid (HU34.out.trans (hu35))
  have HS35 := Lib.hid (keep4 HS34.out (hu35))
  clear hu35
  -- 38: Go.Op.buildSlice 22 1 #[(0, Go.Operand.tmp 53)]
  refine GoT.one (i := 38) (o := ⟨some 54, _, _, _, _, _⟩) rfl (by kernel_rfl) fun K hK => ?_
  go_simp
  refine hK.out _ _ (fun _ h => ?_) ?_
  · exact keep4 h ((Upd.refl _ _).alloc _)
  clear hK K
  try simp only [Act.put, List.setIfInBounds_toArray, List.set_cons_zero, List.set_cons_succ]
  -- 39: Go.Op.call { callee := Go.Callee.value (Go.Operand.func 33), args := #[Go.Operand.tmp 54], argTypes := #[22] }
  refine GoT.one (i := 39) (o := ⟨some 55, _, _, _, _, _⟩) rfl (by kernel_rfl) fun K hK => ?_
  go_simp
  go_at_call 27
  (with_reducible refine (HS3.out _).mono ?_)
  rintro e w36 ⟨rfl, hu36⟩
  refine hK.out _ _ (fun _ h => ?_) ?_
  · exact keep4 h hu36
  clear hK K
  try simp only [Act.put, List.setIfInBounds_toArray, List.set_cons_zero, List.set_cons_succ]
  have HU36 := Lib.hid (HU35.out.trans (((Upd.refl _ _).alloc _).trans hu36))
  have HS36 := Lib.hid (keep4 HS35.out (((Upd.refl _ _).alloc _).trans hu36))
  clear hu36
  -- 40: Go.Op.call { callee := Go.Callee.value (Go.Operand.func 24), args := #[Go.Operand.const (Go.Value.int Go.IntKind.u64 18446744073709551615), Go.Operand
  refine GoT.one (i := 40) (o := ⟨some 56, _, _, _, _, _⟩) rfl (by kernel_rfl) fun K hK => ?_
  go_simp
  go_at_call 15
  (with_reducible refine (HO.out.2.2.2.2.2 _).mono ?_)
  rintro e w37 ⟨rfl, hu37⟩
  refine hK.out _ _ (fun _ h => ?_) ?_
  · exact keep4 h hu37
  clear hK K
  try simp only [Act.put, List.setIfInBounds_toArray, List.set_cons_zero, List.set_cons_succ]
  have HU37 := Lib.hid (HU36.out.trans (hu37))
  have HS37 := Lib.hid (keep4 HS36.out (hu37))
  clear hu37
  refine' GoT.move (i := 41) (oi := ⟨some 57, _, _, _, _, _⟩) (v := _) rfl (by kernel_rfl) (by kernel_rfl) (by kernel_rfl) (fun _ _ _ h => h) (Or.inl ⟨by rfl, ?y3_41⟩) ?r3_41
  case y3_41 => intro w; go_simp <;> with_reducible rfl
  simp only [Act.put, List.setIfInBounds_toArray, List.set_cons_zero, List.set_cons_succ]
  refine' GoT.move (i := 42) (oi := ⟨some 58, _, _, _, _, _⟩) (v := _) rfl (by kernel_rfl) (by kernel_rfl) (by kernel_rfl) (fun _ _ _ h => h) (Or.inl ⟨by rfl, ?y3_42⟩) ?r3_42
  case y3_42 => intro w; go_simp <;> with_reducible rfl
  simp only [Act.put, List.setIfInBounds_toArray, List.set_cons_zero, List.set_cons_succ]
  refine' GoT.move (i := 43) (oi := ⟨some 59, _, _, _, _, _⟩) (v := _) rfl (by kernel_rfl) (by kernel_rfl) (by kernel_rfl) (fun _ _ _ h => h) (Or.inl ⟨by rfl, ?y3_43⟩) ?r3_43
  case y3_43 => intro w; go_simp <;> with_reducible rfl
  simp only [Act.put, List.setIfInBounds_toArray, List.set_cons_zero, List.set_cons_succ]
  -- 44: Go.Op.call { callee := Go.Callee.value (Go.Operand.func 33), args := #[Go.Operand.const (Go.Value.slice none 0 0)], argTypes := #[22] }
  refine GoT.one (i := 44) (o := ⟨some 60, _, _, _, _, _⟩) rfl (by kernel_rfl) fun K hK => ?_
  go_simp
  go_at_call 27
  (with_reducible refine (HS0.out _).mono ?_)
  rintro e w38 ⟨rfl, hu38⟩
  refine hK.out _ _ (fun _ h => ?_) ?_
  · exact keep4 h hu38
  clear hK K
  try simp only [Act.put, List.setIfInBounds_toArray, List.set_cons_zero, List.set_cons_succ]
  have HU38 := Lib.hid (HU37.out.trans (hu38))
  have HS38 := Lib.hid (keep4 HS37.out (hu38))
  clear hu38
  -- 45: Go.Op.call { callee := Go.Callee.value (Go.Operand.func 23), args := #[Go.Operand.const (Go.Value.int Go.IntKind.u64 0)], argTypes := #[25] }
  refine GoT.one (i := 45) (o := ⟨some 61, _, _, _, _, _⟩) rfl (by kernel_rfl) fun K hK => ?_
  go_simp
  go_at_call 14
  (with_reducible refine (HO.out.2.2.2.2.1 _).mono ?_)
  rintro e w39 ⟨rfl, hu39⟩
  refine hK.out _ _ (fun _ h => ?_) ?_
  · exact keep4 h hu39
  clear hK K
  try simp only [Act.put, List.setIfInBounds_toArray, List.set_cons_zero, List.set_cons_succ]
  have HU39 := Lib.hid (HU38.out.trans (hu39))
  have HS39 := Lib.hid (keep4 HS38.out (hu39))
  clear hu39
  refine' GoT.move (i := 46) (oi := ⟨some 62, _, _, _, _, _⟩) (v := _) rfl (by kernel_rfl) (by kernel_rfl) (by kernel_rfl) (fun _ _ _ h => h) (Or.inl ⟨by rfl, ?y3_46⟩) ?r3_46
  case y3_46 => intro w; go_simp <;> with_reducible rfl
  simp only [Act.put, List.setIfInBounds_toArray, List.set_cons_zero, List.set_cons_succ]
  refine' GoT.move (i := 47) (oi := ⟨some 63, _, _, _, _, _⟩) (v := _) rfl (by kernel_rfl) (by kernel_rfl) (by kernel_rfl) (fun _ _ _ h => h) (Or.inl ⟨by rfl, ?y3_47⟩) ?r3_47
  case y3_47 => intro w; go_simp <;> with_reducible rfl
  simp only [Act.put, List.setIfInBounds_toArray, List.set_cons_zero, List.set_cons_succ]
  refine' GoT.move (i := 48) (oi := ⟨some 0, _, _, _, _, _⟩) (v := _) rfl (by kernel_rfl) (by kernel_rfl) (by kernel_rfl) (fun _ _ _ h => h) (Or.inl ⟨by rfl, ?y3_48⟩) ?r3_48
  case y3_48 => intro w; go_simp <;> with_reducible rfl
  simp only [Act.put, List.setIfInBounds_toArray, List.set_cons_zero]
  refine GoT.done (by kernel_rfl) ?_
  go_wp2_with fail
  go_ret
  exact ⟨rfl, HU39.out⟩
end Go.Proofs.YtcpompbiohaomaaGreat
