/- gridironlow.Longs: are two lists of numbers the same? gridironlaw19.awake: the chapter's examples are met. -/
import Derived.Test.YtokeagmphjgkkaaKinds
import Derived.Test.YtokeagmphjgkkaaProg
import Derived.BigQuiet
import Derived.Deep.QuietTactic
import Derived.Deep.LoopGhost
import Derived.Deep.Light
import Derived.IntWalk
import Derived.WalkKit
import Derived.Test.YtokeagmphjgkkaaRimC
import Derived.Test.YtokeagmphjgkkaaRiseP
namespace Go.Proofs.Ytokeagmphjgkkaa
open Go.RowKit

set_option maxRecDepth 100000 in
set_option maxHeartbeats 1000000 in
theorem longsC (a b : Value) (la lb : List Int) (w : World) (ha : See KL w a la) (hb : See KL w b lb) (hl : la.length < 1000000) (hl' : lb.length < 1000000) :
    Calls Try.prog 14 #[a, b] w fun e w' => e = .returned (.bool (decide (la = lb))) ∧ Upd [] w w' := by
  obtain ⟨A, C, rfl⟩ := ha.form
  obtain ⟨B, D, rfl⟩ := hb.form
  obtain ⟨r, hr⟩ : ∃ r, decide (la = lb) = r := ⟨_, rfl⟩
  obtain ⟨q, hq⟩ : ∃ q, ((la.length : Int) == (lb.length : Int)) = q := ⟨_, rfl⟩
  have hq2 : (la.length == lb.length) = q := by
    rw [← hq]
    by_cases he : la.length = lb.length
    · simp [he]
    · have e1 : ((la.length : Int) == (lb.length : Int)) = false := by simp; omega
      rw [e1]; simp [he]
  have HA := Lib.hid ha
  have HB := Lib.hid hb
  have HR := Lib.hid hr
  have HQ := Lib.hid hq
  rw [hr]
  clear ha hb hr
  have h2 : (la.length : Int) < 1000000 := by omega
  have h3 : (lb.length : Int) < 1000000 := by omega
  have HH2 := Lib.hid h2
  clear hl hl'
  go_enter Try.func14, Try.ntmps14
  go_wp2_with fail
  go_loopg [5] (la.length) (fun m i wr => ∃ k, m + k = la.length ∧ i = .int .i64 (k : Int) ∧ k ≤ lb.length ∧ la.take k = lb.take k ∧ Upd [] w wr)
  case atStart => exact ⟨0, rfl, rfl, Nat.zero_le _, rfl, Upd.refl _ _⟩
  case round =>
    obtain ⟨k, hk, rfl, hkb, htk, hu⟩ := hrel
    have HU := Lib.hid hu
    have HT := Lib.hid htk
    have HK := Lib.hid hk
    have HKL := Lib.hid hkb
    have b0 : (0 : Int) ≤ (k : Int) := Int.natCast_nonneg _
    have h1 : k ≤ la.length := by omega
    clear hu htk hk hkb h2 h3
    by_cases hlt : k < la.length
    · have hd1 : decide (k < la.length) = true := decide_eq_true hlt
      by_cases hlt' : k < lb.length
      · have hd2 : decide (k < lb.length) = true := decide_eq_true hlt'
        obtain ⟨x, hx⟩ : ∃ x, la[k] = x := ⟨_, rfl⟩
        obtain ⟨y, hy⟩ : ∃ y, lb[k] = y := ⟨_, rfl⟩
        obtain ⟨b1, o1, hA, -, -, hc1⟩ := KL.at (HA.out.upd0 HU.out) (k := k) (x := x) (by rw [List.getElem?_eq_getElem hlt, hx])
        obtain ⟨b2, o2, hB, -, -, hc2⟩ := KL.at (HB.out.upd0 HU.out) (k := k) (x := y) (by rw [List.getElem?_eq_getElem hlt', hy])
        subst hA hB
        have HX := Lib.hid hx
        have HY := Lib.hid hy
        have HLT := Lib.hid (And.intro hlt hlt')
        have b1 : (k : Int) < (la.length : Int) := by omega
        have b2 : (k : Int) < (lb.length : Int) := by omega
        clear hx hy hq hq2 h1
        by_cases hxy : x = y
        · have hq : (x == y) = true := by simp [hxy]
          have hq' : (x != y) = false := by simp [hxy]
          have HXY := Lib.hid hxy
          clear hxy
          go_wp2_with fail
          go_quiet (fail)
          go_wp2_with fail
          go_roundg (gk - 1)
          case measure => have := HK.out; have := HLT.out; omega
          case rel =>
            refine ⟨k + 1, by have := HK.out; have := HLT.out; omega, by have h2 := HH2.out; rw [IntWalk.wrap64_in _ ⟨by omega, by omega⟩]; rfl, HLT.out.2, ?_, HU.out.drewN _⟩
            rw [List.take_succ_eq_append_getElem HLT.out.1, List.take_succ_eq_append_getElem HLT.out.2, HT.out, HX.out, HY.out, HXY.out]
        · have hq : (x == y) = false := by simp [hxy]
          have hq' : (x != y) = true := by simp [hxy]
          have hd : r = false := by
            rw [← HR.out, decide_eq_false_iff_not]
            intro e; subst e; exact hxy (by rw [← HX.out, ← HY.out])
          have HD := Lib.hid hd
          clear hxy hd
          go_wp2_with fail
          go_quiet (fail)
          go_wp2_with fail
          go_ret
          exact ⟨by rw [HD.out]; rfl, HU.out.drewN _⟩
      · have hd2 : decide (k < lb.length) = false := decide_eq_false hlt'
        have hrq : q = r := by
          rw [← HR.out, ← HQ.out]
          have e1 : ((la.length : Int) == (lb.length : Int)) = false := by simp; omega
          rw [e1]; symm; rw [decide_eq_false_iff_not]; intro e; rw [e] at hlt; exact hlt' hlt
        have HRQ := Lib.hid hrq
        clear hrq hlt hlt' h1
        go_wp2_with fail
        go_ret
        exact ⟨by rw [← HRQ.out]; rfl, HU.out⟩
    · have hd1 : decide (k < la.length) = false := decide_eq_false hlt
      have hrq : q = r := by
        rw [← HR.out, ← HQ.out]
        have hke : k = la.length := by omega
        have ht := HT.out
        have hkb := HKL.out
        by_cases he : la.length = lb.length
        · rw [List.take_of_length_le (by omega), List.take_of_length_le (by omega)] at ht
          rw [decide_eq_true ht, he]; simp
        · have e1 : ((la.length : Int) == (lb.length : Int)) = false := by simp; omega
          rw [e1]; symm; rw [decide_eq_false_iff_not]; intro e; exact he (by rw [e])
      have HRQ := Lib.hid hrq
      clear hrq hlt h1
      go_wp2_with fail
      go_ret
      exact ⟨by rw [← HRQ.out]; rfl, HU.out⟩
end Go.Proofs.Ytokeagmphjgkkaa

namespace Go.Proofs.Ytokeagmphjgkkaa
open Go.RowKit

def L2 : List Bx := [⟨0, 2, 0, 2, 0⟩, ⟨1, 3, 1, 3, 0⟩]

theorem L2_in : ∀ b ∈ L2, b.in64 := by
  intro b hb
  unfold L2 at hb
  simp at hb
  rcases hb with rfl | rfl <;> (unfold Bx.in64; decide)

theorem L2_x : sqz (linX L2) = [0, 1, 2, 3] := sqz_eq (by decide) fun x => by
  have e : linX L2 = [0, 2, 1, 3] := by decide
  rw [e]
  simp only [List.mem_cons, List.not_mem_nil, or_false]
  omega
theorem L2_y : sqz (linY L2) = [0, 1, 2, 3] := sqz_eq (by decide) fun x => by
  have e : linY L2 = [0, 2, 1, 3] := by decide
  rw [e]
  simp only [List.mem_cons, List.not_mem_nil, or_false]
  omega
theorem L2_area : areaN L2 = 7 := by unfold areaN; rw [L2_x, L2_y]; decide
theorem L2_rim : rimN L2 = 12 := by unfold rimN; rw [L2_x, L2_y]; decide
theorem L2_cols : colsB L2 [0, 1, 2, 3] [0, 1, 2, 3] = [[true, true, false], [true, true, true], [false, true, true]] := by decide

theorem KBx_all (l : List Bx) : KBx.all l = l.flatMap fun b => [.int .i64 b.x1, .int .i64 b.x2, .int .i64 b.y1, .int .i64 b.y2, .int .u32 (b.id : Int)] := rfl

theorem L2_new (w : World) : See KBx (w.alloc (.cells #[.int .i64 0, .int .i64 2, .int .i64 0, .int .i64 2, .int .u32 0, .int .i64 1, .int .i64 3, .int .i64 1, .int .i64 3, .int .u32 0] 109)) (.slice (some ⟨w.heap.size, 0, none⟩) 2 2) L2 :=
  sees_lit w #[.int .i64 0, .int .i64 2, .int .i64 0, .int .i64 2, .int .u32 0, .int .i64 1, .int .i64 3, .int .i64 1, .int .i64 3, .int .u32 0] 109 5 2 rfl (by decide)

theorem nil_See {α : Type} (K : Kind α) (w : World) : See K w (.slice none 0 0) [] := ⟨by simp [Kind.all], .inl ⟨rfl, rfl⟩⟩

theorem nums_new (w : World) : See KL (w.alloc (.cells #[.int .i64 0, .int .i64 1, .int .i64 2, .int .i64 3] 2)) (.slice (some ⟨w.heap.size, 0, none⟩) 4 4) [0, 1, 2, 3] :=
  sees_lit w #[.int .i64 0, .int .i64 1, .int .i64 2, .int .i64 3] 2 1 4 rfl (by decide)

set_option maxRecDepth 100000 in
set_option maxHeartbeats 8000000 in
theorem awake19 (w : World) :
    Calls Try.prog 26 #[] w fun e w' => e = .returned (.bool true) ∧ Upd [] w w' := by
  have hnew := L2_new w
  obtain ⟨W1, hW1⟩ : ∃ W1, (w.alloc (.cells #[.int .i64 0, .int .i64 2, .int .i64 0, .int .i64 2, .int .u32 0, .int .i64 1, .int .i64 3, .int .i64 1, .int .i64 3, .int .u32 0] 109)) = W1 := ⟨_, rfl⟩
  have hu1 : Upd [] w W1 := by rw [← hW1]; exact (Upd.refl _ _).alloc _
  rw [hW1] at hnew
  obtain ⟨q, hq⟩ : ∃ q, w.heap.size = q := ⟨_, rfl⟩
  rw [hq] at hnew
  have hbk := blocksC _ L2 W1 hnew (by decide)
  rw [L2_x, L2_y] at hbk
  unfold BlkPost at hbk
  rw [L2_cols] at hbk
  simp only [List.length_cons, List.length_nil, Nat.reduceAdd, Nat.reduceSub] at hbk
  have har := fun w' (hu : Upd [] W1 w') => areaC _ L2 w' (hnew.upd0 hu) (by decide) L2_in
  have hri := fun w' (hu : Upd [] W1 w') => rimCC _ L2 w' (hnew.upd0 hu) (by decide) L2_in
  rw [L2_area] at har
  rw [L2_rim] at hri
  have w7 : wideV 7 = .agg #[.int .u64 0, .int .u64 7] := rfl
  have w12 : wideV 12 = .agg #[.int .u64 0, .int .u64 12] := rfl
  have ho7 : ∀ w, Calls Try.prog 61 #[.int .u64 7] w fun e w' => e = .returned (wideV 7) ∧ Upd [] w w' := fun w => wOfC 7 (by decide) w
  have ho12 : ∀ w, Calls Try.prog 61 #[.int .u64 12] w fun e w' => e = .returned (wideV 12) ∧ Upd [] w w' := fun w => wOfC 12 (by decide) w
  rw [w7] at har ho7
  rw [w12] at hri ho12
  have n7 : ∀ w, (binOp .neq 56 (.agg #[.int .u64 0, .int .u64 7]) (.agg #[.int .u64 0, .int .u64 7])).run Try.prog w = .ok (.bool false) w := fun _ => by kernel_rfl
  have n12 : ∀ w, (binOp .neq 56 (.agg #[.int .u64 0, .int .u64 12]) (.agg #[.int .u64 0, .int .u64 12])).run Try.prog w = .ok (.bool false) w := fun _ => by kernel_rfl
  have hh1 := fun w' (hu : Upd [] W1 w') => heldC _ L2 2 2 w' (hnew.upd0 hu) (by decide)
  have hh2 := fun w' (hu : Upd [] W1 w') => heldC _ L2 2 0 w' (hnew.upd0 hu) (by decide)
  rw [show covB L2 2 2 = true by decide] at hh1
  rw [show covB L2 2 0 = false by decide] at hh2
  have hb0 := fun w' => blocksC (.slice none 0 0) [] w' (nil_See KBx w') (by decide)
  unfold BlkPost at hb0
  rw [show sqz (linX []) = [] from sqz_nil, show sqz (linY []) = [] from sqz_nil] at hb0
  simp only [List.length_nil, Nat.reduceSub] at hb0
  have HBK := Lib.hid hbk
  have HAR := Lib.hid har
  have HRI := Lib.hid hri
  have HO7 := Lib.hid ho7
  have HO12 := Lib.hid ho12
  have HH1 := Lib.hid hh1
  have HH2 := Lib.hid hh2
  have HB0 := Lib.hid hb0
  have HU1 := Lib.hid hu1
  clear hbk har hri ho7 ho12 hh1 hh2 hb0 hu1 hnew w7 w12
  go_enter Try.func26, Try.ntmps26
  go_wp2_with fail
  clear hW1 hq
  (with_reducible refine HBK.out.mono ?_)
  rintro e w2 ⟨A1, C1, A2, C2, A3, C3, rfl, sx, sy, sr, hu2⟩
  have HSX := Lib.hid sx
  have HSY := Lib.hid sy
  have HSR2 := Lib.hid sr
  have HU2 := Lib.hid hu2
  clear sx sy sr hu2
  go_wp2_with fail
  (with_reducible refine (HAR.out _ HU2.out).mono ?_)
  rintro e w3 ⟨rfl, hu⟩
  have HU3 := Lib.hid (HU2.out.trans hu)
  have HU23 := Lib.hid hu
  clear hu
  go_wp2_with fail
  (with_reducible refine (HO7.out _).mono ?_)
  rintro e w4 ⟨rfl, hu⟩
  have HU4 := Lib.hid (HU3.out.trans hu)
  have HU24 := Lib.hid (HU23.out.trans hu)
  clear hu
  go_wp2_with fail
  (with_reducible refine (HRI.out _ HU4.out).mono ?_)
  rintro e w5 ⟨rfl, hu⟩
  have HU5 := Lib.hid (HU4.out.trans hu)
  have HU25 := Lib.hid (HU24.out.trans hu)
  clear hu
  go_wp2_with fail
  (with_reducible refine (HO12.out _).mono ?_)
  rintro e w6 ⟨rfl, hu⟩
  have HU6 := Lib.hid (HU5.out.trans hu)
  have HU26 := Lib.hid (HU25.out.trans hu)
  have HSR := Lib.hid (HSR2.out.upd0 HU26.out)
  clear hu
  go_wp2_with fail
  clear n7 n12
  go_loopg [38] 3 (fun m s38 wr => ∃ k, m + k = 3 ∧ s38 = .int .i64 (k : Int) ∧ Upd [] w6 wr)
  case atStart => exact ⟨0, rfl, rfl, Upd.refl _ _⟩
  case round =>
    obtain ⟨k, hk, rfl, hu⟩ := hrel
    rcases (by omega : k = 0 ∨ k = 1 ∨ k = 2 ∨ k = 3) with h | h | h | h
    · obtain rfl : k = 0 := by omega
      obtain ⟨gb, go, Ak, Ck, hA, crow, hrow⟩ := (HSR.out.upd0 hu).at (k := 0) (l := [true, true, false]) rfl
      obtain ⟨gr, gro, hAk, c0⟩ := KBat hrow (k := 0) (x := true) rfl
      obtain ⟨gr1, gro1, hAk1, c1⟩ := KBat hrow (k := 1) (x := true) rfl
      obtain ⟨gr2, gro2, hAk2, c2⟩ := KBat hrow (k := 2) (x := false) rfl
      subst hA hAk
      cases hAk1
      cases hAk2
      have i0 : ∀ w, (Instr.index 112 (.agg #[.bool true, .bool true, .bool false, .bool true, .bool true, .bool true, .bool false, .bool true, .bool true]) (.int .i64 0)).run Try.prog w = .ok (.agg #[.bool true, .bool true, .bool false]) w := fun _ => by kernel_rfl
      have n0 : ∀ w, (binOp .neq 111 (.agg #[.bool true, .bool true, .bool false]) (.agg #[.bool true, .bool true, .bool false])).run Try.prog w = .ok (.bool false) w := fun _ => by kernel_rfl
      have crow' : wr.cell? ⟨gb, go, none⟩ = some (.slice (some ⟨gr, gro, none⟩) 3 Ck) := crow
      have c0' : wr.cell? ⟨gr, gro, none⟩ = some (.bool true) := c0
      have HU := Lib.hid hu
      have HK := Lib.hid hk
      obtain ⟨W, hW⟩ : ∃ W, wr.alloc (.cells #[.bool true, .bool true, .bool false] 111) = W := ⟨_, rfl⟩
      have huW : Upd [] wr W := by rw [← hW]; exact (Upd.refl _ _).alloc _
      have a0 := (huW.cell (p := ⟨gb, go, none⟩) (World.block_lt_of_cell? wr _ crow') (by simp)).trans crow'
      have a1 := (huW.cell (p := ⟨gr, gro, none⟩) (World.block_lt_of_cell? wr _ c0') (by simp)).trans c0'
      have a2 := (huW.cell (p := ⟨gr, gro + 1, none⟩) (World.block_lt_of_cell? wr _ c1) (by simp)).trans c1
      have a3 := (huW.cell (p := ⟨gr, gro + 2, none⟩) (World.block_lt_of_cell? wr _ c2) (by simp)).trans c2
      have hn4 := heap_alloc_new wr (.cells #[.bool true, .bool true, .bool false] 111)
      rw [hW] at hn4
      obtain ⟨q6, hq6⟩ : ∃ q, wr.heap.size = q := ⟨_, rfl⟩
      rw [hq6] at hn4
      have a4 : W.cell? ⟨q6, 0, none⟩ = some (.bool true) := by simp [World.cell?, hn4]
      have a5 : W.cell? ⟨q6, 1, none⟩ = some (.bool true) := by simp [World.cell?, hn4]
      have a6 : W.cell? ⟨q6, 2, none⟩ = some (.bool false) := by simp [World.cell?, hn4]
      have HUW := Lib.hid huW
      have HWW := Lib.hid hW
      have HQ6 := Lib.hid hq6
      clear hu hrow crow c0 c1 c2 hk crow' c0' huW hn4 hW hq6
      go_upto_region 8 with fail
      rw [HWW.out, HQ6.out]
      go_quiet (fail)
      go_wp2_with fail
      go_roundg (gk - 1)
      case measure => have := HK.out; omega
      case rel => exact ⟨1, by have := HK.out; omega, by first | rfl | go_num, (HU.out.trans HUW.out).drewN _⟩
    · obtain rfl : k = 1 := by omega
      obtain ⟨gb, go, Ak, Ck, hA, crow, hrow⟩ := (HSR.out.upd0 hu).at (k := 1) (l := [true, true, true]) rfl
      obtain ⟨gr, gro, hAk, c0⟩ := KBat hrow (k := 0) (x := true) rfl
      obtain ⟨gr1, gro1, hAk1, c1⟩ := KBat hrow (k := 1) (x := true) rfl
      obtain ⟨gr2, gro2, hAk2, c2⟩ := KBat hrow (k := 2) (x := true) rfl
      subst hA hAk
      cases hAk1
      cases hAk2
      have i0 : ∀ w, (Instr.index 112 (.agg #[.bool true, .bool true, .bool false, .bool true, .bool true, .bool true, .bool false, .bool true, .bool true]) (.int .i64 1)).run Try.prog w = .ok (.agg #[.bool true, .bool true, .bool true]) w := fun _ => by kernel_rfl
      have n0 : ∀ w, (binOp .neq 111 (.agg #[.bool true, .bool true, .bool true]) (.agg #[.bool true, .bool true, .bool true])).run Try.prog w = .ok (.bool false) w := fun _ => by kernel_rfl
      have crow' : wr.cell? ⟨gb, go + 1, none⟩ = some (.slice (some ⟨gr, gro, none⟩) 3 Ck) := crow
      have c0' : wr.cell? ⟨gr, gro, none⟩ = some (.bool true) := c0
      have HU := Lib.hid hu
      have HK := Lib.hid hk
      obtain ⟨W, hW⟩ : ∃ W, wr.alloc (.cells #[.bool true, .bool true, .bool true] 111) = W := ⟨_, rfl⟩
      have huW : Upd [] wr W := by rw [← hW]; exact (Upd.refl _ _).alloc _
      have a0 := (huW.cell (p := ⟨gb, go + 1, none⟩) (World.block_lt_of_cell? wr _ crow') (by simp)).trans crow'
      have a1 := (huW.cell (p := ⟨gr, gro, none⟩) (World.block_lt_of_cell? wr _ c0') (by simp)).trans c0'
      have a2 := (huW.cell (p := ⟨gr, gro + 1, none⟩) (World.block_lt_of_cell? wr _ c1) (by simp)).trans c1
      have a3 := (huW.cell (p := ⟨gr, gro + 2, none⟩) (World.block_lt_of_cell? wr _ c2) (by simp)).trans c2
      have hn4 := heap_alloc_new wr (.cells #[.bool true, .bool true, .bool true] 111)
      rw [hW] at hn4
      obtain ⟨q6, hq6⟩ : ∃ q, wr.heap.size = q := ⟨_, rfl⟩
      rw [hq6] at hn4
      have a4 : W.cell? ⟨q6, 0, none⟩ = some (.bool true) := by simp [World.cell?, hn4]
      have a5 : W.cell? ⟨q6, 1, none⟩ = some (.bool true) := by simp [World.cell?, hn4]
      have a6 : W.cell? ⟨q6, 2, none⟩ = some (.bool true) := by simp [World.cell?, hn4]
      have HUW := Lib.hid huW
      have HWW := Lib.hid hW
      have HQ6 := Lib.hid hq6
      clear hu hrow crow c0 c1 c2 hk crow' c0' huW hn4 hW hq6
      go_upto_region 8 with fail
      rw [HWW.out, HQ6.out]
      go_quiet (fail)
      go_wp2_with fail
      go_roundg (gk - 1)
      case measure => have := HK.out; omega
      case rel => exact ⟨2, by have := HK.out; omega, by first | rfl | go_num, (HU.out.trans HUW.out).drewN _⟩
    · obtain rfl : k = 2 := by omega
      obtain ⟨gb, go, Ak, Ck, hA, crow, hrow⟩ := (HSR.out.upd0 hu).at (k := 2) (l := [false, true, true]) rfl
      obtain ⟨gr, gro, hAk, c0⟩ := KBat hrow (k := 0) (x := false) rfl
      obtain ⟨gr1, gro1, hAk1, c1⟩ := KBat hrow (k := 1) (x := true) rfl
      obtain ⟨gr2, gro2, hAk2, c2⟩ := KBat hrow (k := 2) (x := true) rfl
      subst hA hAk
      cases hAk1
      cases hAk2
      have i0 : ∀ w, (Instr.index 112 (.agg #[.bool true, .bool true, .bool false, .bool true, .bool true, .bool true, .bool false, .bool true, .bool true]) (.int .i64 2)).run Try.prog w = .ok (.agg #[.bool false, .bool true, .bool true]) w := fun _ => by kernel_rfl
      have n0 : ∀ w, (binOp .neq 111 (.agg #[.bool false, .bool true, .bool true]) (.agg #[.bool false, .bool true, .bool true])).run Try.prog w = .ok (.bool false) w := fun _ => by kernel_rfl
      have crow' : wr.cell? ⟨gb, go + 2, none⟩ = some (.slice (some ⟨gr, gro, none⟩) 3 Ck) := crow
      have c0' : wr.cell? ⟨gr, gro, none⟩ = some (.bool false) := c0
      have HU := Lib.hid hu
      have HK := Lib.hid hk
      obtain ⟨W, hW⟩ : ∃ W, wr.alloc (.cells #[.bool false, .bool true, .bool true] 111) = W := ⟨_, rfl⟩
      have huW : Upd [] wr W := by rw [← hW]; exact (Upd.refl _ _).alloc _
      have a0 := (huW.cell (p := ⟨gb, go + 2, none⟩) (World.block_lt_of_cell? wr _ crow') (by simp)).trans crow'
      have a1 := (huW.cell (p := ⟨gr, gro, none⟩) (World.block_lt_of_cell? wr _ c0') (by simp)).trans c0'
      have a2 := (huW.cell (p := ⟨gr, gro + 1, none⟩) (World.block_lt_of_cell? wr _ c1) (by simp)).trans c1
      have a3 := (huW.cell (p := ⟨gr, gro + 2, none⟩) (World.block_lt_of_cell? wr _ c2) (by simp)).trans c2
      have hn4 := heap_alloc_new wr (.cells #[.bool false, .bool true, .bool true] 111)
      rw [hW] at hn4
      obtain ⟨q6, hq6⟩ : ∃ q, wr.heap.size = q := ⟨_, rfl⟩
      rw [hq6] at hn4
      have a4 : W.cell? ⟨q6, 0, none⟩ = some (.bool false) := by simp [World.cell?, hn4]
      have a5 : W.cell? ⟨q6, 1, none⟩ = some (.bool true) := by simp [World.cell?, hn4]
      have a6 : W.cell? ⟨q6, 2, none⟩ = some (.bool true) := by simp [World.cell?, hn4]
      have HUW := Lib.hid huW
      have HWW := Lib.hid hW
      have HQ6 := Lib.hid hq6
      clear hu hrow crow c0 c1 c2 hk crow' c0' huW hn4 hW hq6
      go_upto_region 8 with fail
      rw [HWW.out, HQ6.out]
      go_quiet (fail)
      go_wp2_with fail
      go_roundg (gk - 1)
      case measure => have := HK.out; omega
      case rel => exact ⟨3, by have := HK.out; omega, by first | rfl | go_num, (HU.out.trans HUW.out).drewN _⟩
    · obtain rfl : k = 3 := by omega
      have HUr := Lib.hid (HU6.out.trans hu)
      have HU2r := Lib.hid (HU26.out.trans hu)
      clear hu hk h
      go_wp2_with fail
      (with_reducible refine (HB0.out _).mono ?_)
      rintro e w7 ⟨A4, C4, A5, C5, A6, C6, rfl, -, -, -, hu⟩
      have HU7 := Lib.hid (HUr.out.trans hu)
      have HU27 := Lib.hid (HU2r.out.trans hu)
      have hua : Upd [] w7 (w7.alloc (.cells #[.int .i64 0, .int .i64 1, .int .i64 2, .int .i64 3] 2)) := (Upd.refl _ _).alloc _
      have hlg := longsC (.slice A1 4 C1) (.slice (some ⟨w7.heap.size, 0, none⟩) 4 4) [0, 1, 2, 3] [0, 1, 2, 3] _ ((HSX.out.upd0 HU27.out).upd0 hua) (nums_new w7) (by decide) (by decide)
      have hlg2 := fun w' (hu : Upd [] w2 w') => longsC (.slice A2 4 C2) (.slice A1 4 C1) [0, 1, 2, 3] [0, 1, 2, 3] w' (HSY.out.upd0 hu) (HSX.out.upd0 hu) (by decide) (by decide)
      rw [decide_eq_true rfl] at hlg
      simp only [decide_true] at hlg2
      have HLG := Lib.hid hlg
      have HLG2 := Lib.hid hlg2
      have HUA := Lib.hid hua
      clear hu hlg hlg2 hua
      go_wp2_with fail
      (with_reducible refine HLG.out.mono ?_)
      rintro e w8 ⟨rfl, hu⟩
      have HU8 := Lib.hid (HU7.out.trans (HUA.out.trans hu))
      have HU28 := Lib.hid (HU27.out.trans (HUA.out.trans hu))
      clear hu
      go_wp2_with fail
      (with_reducible refine (HLG2.out _ HU28.out).mono ?_)
      rintro e w9 ⟨rfl, hu⟩
      have HU9 := Lib.hid (HU8.out.trans hu)
      clear hu
      go_wp2_with fail
      (with_reducible refine (HH1.out _ HU9.out).mono ?_)
      rintro e w10 ⟨rfl, hu⟩
      have HU10 := Lib.hid (HU9.out.trans hu)
      clear hu
      go_wp2_with fail
      (with_reducible refine (HH2.out _ HU10.out).mono ?_)
      rintro e w11 ⟨rfl, hu⟩
      have HU11 := Lib.hid (HU10.out.trans hu)
      clear hu
      go_wp2_with fail
      go_ret
      exact ⟨rfl, HU1.out.trans HU11.out⟩
end Go.Proofs.Ytokeagmphjgkkaa
