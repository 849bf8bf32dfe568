/- The document's numbers as bits: Cmp, Sub, Diff. -/
import Derived.Test.YtcpompbiohaomaaRefA
namespace Go.Proofs.Ytcpompbiohaomaa
open Go.RowKit

theorem rb_kp4 {w w' : World} {a1 a2 a3 a4 : Addr} {v1 v2 v3 v4 : Value} (h : w.cell? a1 = some v1 ∧ w.cell? a2 = some v2 ∧ w.cell? a3 = some v3 ∧ w.cell? a4 = some v4) (hu : Upd [] w w') :
    w'.cell? a1 = some v1 ∧ w'.cell? a2 = some v2 ∧ w'.cell? a3 = some v3 ∧ w'.cell? a4 = some v4 := by
  have e : ∀ {a : Addr} {v : Value}, w.cell? a = some v → w'.cell? a = some v := fun {a v} ha => (hu.cell (World.block_lt_of_cell? w _ ha) (by simp)).trans ha
  exact ⟨e h.1, e h.2.1, e h.2.2.1, e h.2.2.2⟩

def CmpPost (w : World) (e : Ending) (w' : World) : Prop := ∃ z : Int, e = .returned (.int .i64 z) ∧ 0 ≤ z ∧ Upd [] w w'

set_option maxRecDepth 100000 in
set_option maxHeartbeats 4000000 in
theorem rcmpC (a b : Nat) (ha : W128 a) (hb : W128 b) (hab : b ≤ a) (w : World) : Calls Try.prog 89 #[wideV a, wideV b] w (CmpPost w) := by
  obtain ⟨ah, hah⟩ : ∃ h, a / 18446744073709551616 = h := ⟨_, rfl⟩
  obtain ⟨al, hal⟩ : ∃ h, a % 18446744073709551616 = h := ⟨_, rfl⟩
  obtain ⟨bh, hbh⟩ : ∃ h, b / 18446744073709551616 = h := ⟨_, rfl⟩
  obtain ⟨bl, hbl⟩ : ∃ h, b % 18446744073709551616 = h := ⟨_, rfl⟩
  have hba : ∀ w, Calls Try.prog 90 #[.agg #[.int .u64 (ah : Int), .int .u64 (al : Int)]] w (BitsPost w a) := fun w => by
    have := bitsC a ha w
    unfold wideV at this
    rw [hah, hal] at this
    exact this
  have hbb : ∀ w, Calls Try.prog 90 #[.agg #[.int .u64 (bh : Int), .int .u64 (bl : Int)]] w (BitsPost w b) := fun w => by
    have := bitsC b hb w
    unfold wideV at this
    rw [hbh, hbl] at this
    exact this
  have hva : a < 2 ^ 128 := by unfold W128 at ha; omega
  have hvb : b < 2 ^ 128 := by unfold W128 at hb; omega
  unfold wideV
  rw [hah, hal, hbh, hbl]
  have HA := Lib.hid hba
  have HB := Lib.hid hbb
  have BA := Lib.hid (BL_bits hva)
  have BB := Lib.hid (BL_bits hvb)
  have HAB := Lib.hid hab
  obtain ⟨p, hp⟩ : ∃ p, w.heap.size = p := ⟨_, rfl⟩
  have hn1 := heap_alloc_new w (.cells #[.int .u64 (ah : Int), .int .u64 (al : Int)] 56)
  obtain ⟨W1, hW1⟩ : ∃ W1, w.alloc (.cells #[.int .u64 (ah : Int), .int .u64 (al : Int)] 56) = W1 := ⟨_, rfl⟩
  have hu1 : Upd [] w W1 := by rw [← hW1]; exact (Upd.refl _ _).alloc _
  have hq0 : W1.heap.size = p + 1 := by rw [← hW1, ← hp]; simp
  rw [hW1, hp] at hn1
  have hn2 := heap_alloc_new W1 (.cells #[.int .u64 (bh : Int), .int .u64 (bl : Int)] 56)
  obtain ⟨W2, hW2⟩ : ∃ W2, W1.alloc (.cells #[.int .u64 (bh : Int), .int .u64 (bl : Int)] 56) = W2 := ⟨_, rfl⟩
  have hu2 : Upd [] W1 W2 := by rw [← hW2]; exact (Upd.refl _ _).alloc _
  rw [hW2, hq0] at hn2
  have hn1' := (hu2.block p (lt_of_block hn1) (by simp)).trans hn1
  obtain ⟨a0, a1, -⟩ := WdAt.cells (p := p) hn1'
  obtain ⟨c0, c1, -⟩ := WdAt.cells (p := p + 1) hn2
  have HC := Lib.hid (And.intro a0 (And.intro a1 (And.intro c0 c1)))
  have HU := Lib.hid (hu1.trans hu2)
  have HW1 := Lib.hid hW1
  have HW2 := Lib.hid hW2
  have HP := Lib.hid hp
  clear hba hbb hva hvb ha hb hab hah hal hbh hbl hn1 hn2 hn1' a0 a1 c0 c1 hu1 hu2 hW1 hW2 hp hq0
  go_enter Try.func89, Try.ntmps89
  go_upto_region 1 with fail
  rw [HW1.out, HW2.out, HP.out]
  -- region 1: T waits for all loads; fuel 1
  refine GoT.start [] (fun w' => w'.cell? ⟨p, 0, none⟩ = some (.int .u64 (ah : Int)) ∧ w'.cell? ⟨p, 1, none⟩ = some (.int .u64 (al : Int)) ∧ w'.cell? ⟨p + 1, 0, none⟩ = some (.int .u64 (bh : Int)) ∧ w'.cell? ⟨p + 1, 1, none⟩ = some (.int .u64 (bl : Int))) (by kernel_rfl) ?_ fun hS => ?_
  · exact HC.out
  refine' GoT.take 1 (i := 0) (oi := ⟨some 8, _, _, _, _, _⟩) (v := _) rfl (by kernel_rfl) (by kernel_rfl) (by kernel_rfl) (by kernel_rfl) (fun _ _ _ h => h) (Or.inl ⟨by rfl, ?y1_0⟩) (by assumption) ?r1_0
  case y1_0 => intro w hSw; go_simp <;> with_reducible rfl
  simp only [Act.put, List.setIfInBounds_toArray, List.set_cons_zero, List.set_cons_succ]
  refine' GoT.take 1 (i := 2) (oi := ⟨some 10, _, _, _, _, _⟩) (v := _) rfl (by kernel_rfl) (by kernel_rfl) (by kernel_rfl) (by kernel_rfl) (fun _ _ _ h => h) (Or.inl ⟨by rfl, ?y1_2⟩) (by assumption) ?r1_2
  case y1_2 => intro w hSw; go_simp <;> with_reducible rfl
  simp only [Act.put, List.setIfInBounds_toArray, List.set_cons_zero, List.set_cons_succ]
  -- 1: Go.Op.call { callee := Go.Callee.value (Go.Operand.func 90), args := #[Go.Operand.tmp 8], argTypes := #[56] }
  refine GoT.one (i := 1) (o := ⟨some 9, _, _, _, _, _⟩) rfl (by kernel_rfl) fun K hK => ?_
  go_simp
  go_at_call 90
  (with_reducible refine (HA.out _).mono ?_)
  rintro e w3 ⟨g1, rfl, hg1, hr1, hu3⟩
  have HR1 := Lib.hid (And.intro hg1 (And.intro hr1 hu3))
  clear hg1 hr1 hu3
  refine hK.out _ _ (fun _ h => ?_) ?_
  · exact rb_kp4 h HR1.out.2.2
  clear hK K
  try simp only [Act.put, List.setIfInBounds_toArray, List.set_cons_zero, List.set_cons_succ]
  -- 3: Go.Op.call { callee := Go.Callee.value (Go.Operand.func 90), args := #[Go.Operand.tmp 10], argTypes := #[56] }
  refine GoT.one (i := 3) (o := ⟨some 11, _, _, _, _, _⟩) rfl (by kernel_rfl) fun K hK => ?_
  go_simp
  go_at_call 90
  (with_reducible refine (HB.out _).mono ?_)
  rintro e w4 ⟨g2, rfl, hg2, hr2, hu4⟩
  have HR2 := Lib.hid (And.intro hg2 (And.intro hr2 hu4))
  clear hg2 hr2 hu4
  refine hK.out _ _ (fun _ h => ?_) ?_
  · exact rb_kp4 h HR2.out.2.2
  clear hK K
  try simp only [Act.put, List.setIfInBounds_toArray, List.set_cons_zero, List.set_cons_succ]
  refine' GoT.move (i := 4) (oi := ⟨some 5, _, _, _, _, _⟩) (v := _) rfl (by kernel_rfl) (by kernel_rfl) (by kernel_rfl) (fun _ _ _ h => h) (Or.inl ⟨by rfl, ?y1_4⟩) ?r1_4
  case y1_4 => intro w; go_simp <;> with_reducible rfl
  simp only [Act.put, List.setIfInBounds_toArray, List.set_cons_zero, List.set_cons_succ]
  refine' GoT.move (i := 5) (oi := ⟨some 6, _, _, _, _, _⟩) (v := _) rfl (by kernel_rfl) (by kernel_rfl) (by kernel_rfl) (fun _ _ _ h => h) (Or.inl ⟨by rfl, ?y1_5⟩) ?r1_5
  case y1_5 => intro w; go_simp <;> with_reducible rfl
  simp only [Act.put, List.setIfInBounds_toArray, List.set_cons_zero, List.set_cons_succ]
  refine GoT.done (by kernel_rfl) ?_
  have hsA : See KN w4 (.slice (some ⟨g1, 0, none⟩) 128 128) (bitsL a 128) := (See.of_row HR1.out.2.1).upd0 HR2.out.2.2
  have hsB : See KN w4 (.slice (some ⟨g2, 0, none⟩) 128 128) (bitsL b 128) := See.of_row HR2.out.2.1
  have hu4 : Upd [] w w4 := (HU.out.trans (Upd.refl _ _).drew).trans (HR1.out.2.2.trans HR2.out.2.2)
  obtain ⟨A, hA⟩ : ∃ A, bitsL a 128 = A := ⟨_, rfl⟩
  obtain ⟨B, hB⟩ : ∃ B, bitsL b 128 = B := ⟨_, rfl⟩
  rw [hA] at hsA
  rw [hB] at hsB
  have hbA := BA.out
  have hbB := BB.out
  rw [hA] at hbA
  rw [hB] at hbB
  have HSA := Lib.hid (And.intro hsA hbA)
  have HSB := Lib.hid (And.intro hsB hbB)
  have HU4 := Lib.hid hu4
  clear hsA hsB hbA hbB hu4 hA hB hS
  go_wp2_with fail
  go_loopg [7] 128 (fun m s7 wr => ∃ k z, m = k ∧ s7 = .int .i64 z ∧ z = (k : Int) - 1 ∧ k ≤ 128 ∧ A.drop k = B.drop k ∧ ∃ q, wr = w4.drewN q)
  case atStart => exact ⟨128, _, rfl, rfl, by first | rfl | go_num, Nat.le_refl _, by rw [List.drop_eq_nil_of_le (by rw [HSA.out.2.1]; omega), List.drop_eq_nil_of_le (by rw [HSB.out.2.1]; omega)], 0, rfl⟩
  case round =>
    obtain ⟨k, z, hm, rfl, hz, hk, hd, q, rfl⟩ := hrel
    have HM := Lib.hid hm
    have HD := Lib.hid hd
    clear hd hm
    rcases k with _ | j
    · have hzn : z < 0 := by omega
      have hd0 : decide ((0 : Int) ≤ z) = false := decide_eq_false (by omega)
      clear hz hk
      go_wp2_with fail
      go_ret
      exact ⟨0, rfl, by omega, HU4.out.drewN q⟩
    · obtain rfl : z = (j : Int) := by omega
      obtain ⟨x, hx⟩ : ∃ x, A[j]? = some x := ⟨_, List.getElem?_eq_getElem (by rw [HSA.out.2.1]; omega)⟩
      obtain ⟨y, hy⟩ : ∃ y, B[j]? = some y := ⟨_, List.getElem?_eq_getElem (by rw [HSB.out.2.1]; omega)⟩
      obtain ⟨q1, o1, e1, -, -, x0⟩ := kn_at HSA.out.1 hx
      obtain ⟨q2, o2, e2, -, -, y0⟩ := kn_at HSB.out.1 hy
      cases e1
      cases e2
      rw [Nat.zero_add] at x0 y0
      have hx1 := HSA.out.2.2.1.at hx
      have hy1 := HSB.out.2.2.1.at hy
      have bx0 : (0 : Int) ≤ (x : Int) := Int.natCast_nonneg _
      have bx1 : (x : Int) ≤ 1 := by omega
      have by0 : (0 : Int) ≤ (y : Int) := Int.natCast_nonneg _
      have by1 : (y : Int) ≤ 1 := by omega
      have j0 : (0 : Int) ≤ (j : Int) := Int.natCast_nonneg _
      have j1 : (j : Int) < 128 := by omega
      have jn : j < 128 := by omega
      have HX := Lib.hid (And.intro hx hy)
      clear hx hy hz
      by_cases hxy : x = y
      · have hq : ((x : Int) == (y : Int)) = true := by rw [beq_iff_eq]; omega
        have HXY := Lib.hid hxy
        clear hxy
        go_upto_region 5 with fail
        go_quiet (fail)
        go_wp2_with fail
        go_roundg j
        case measure => have := HM.out; omega
        case rel => exact ⟨j, _, rfl, rfl, by first | rfl | go_num, by omega, drop_at HX.out.1 (by rw [HXY.out]; exact HX.out.2) HD.out, _, rfl⟩
      · have hq : ((x : Int) == (y : Int)) = false := by rw [beq_eq_false_iff_ne]; omega
        have HXY := Lib.hid hxy
        clear hxy
        go_upto_region 5 with fail
        go_quiet (fail)
        go_wp2_with fail
        go_quiet (fail)
        go_wp2_with fail
        go_ret
        refine ⟨_, rfl, ?_, ((HU4.out.drewN _).drewN _).drewN _⟩
        rcases Nat.lt_or_ge x y with h | h
        · have := cmp_at HSA.out.2.2.1 HX.out.1 HX.out.2 HD.out h
          rw [HSA.out.2.2.2, HSB.out.2.2.2] at this
          have := HAB.out
          omega
        · omega

def SubPost (w : World) (D : Nat) (e : Ending) (w' : World) : Prop := e = .returned (.tuple #[wideV D, .bool true]) ∧ Upd [] w w'

set_option maxRecDepth 100000 in
set_option maxHeartbeats 8000000 in
theorem rsubC (a b : Nat) (ha : W128 a) (hb : W128 b) (hab : b ≤ a) (w : World) : Calls Try.prog 67 #[wideV a, wideV b] w (SubPost w (a - b)) := by
  obtain ⟨ah, hah⟩ : ∃ h, a / 18446744073709551616 = h := ⟨_, rfl⟩
  obtain ⟨al, hal⟩ : ∃ h, a % 18446744073709551616 = h := ⟨_, rfl⟩
  obtain ⟨bh, hbh⟩ : ∃ h, b / 18446744073709551616 = h := ⟨_, rfl⟩
  obtain ⟨bl, hbl⟩ : ∃ h, b % 18446744073709551616 = h := ⟨_, rfl⟩
  have hba : ∀ w, Calls Try.prog 90 #[.agg #[.int .u64 (ah : Int), .int .u64 (al : Int)]] w (BitsPost w a) := fun w => by
    have := bitsC a ha w
    unfold wideV at this
    rw [hah, hal] at this
    exact this
  have hbb : ∀ w, Calls Try.prog 90 #[.agg #[.int .u64 (bh : Int), .int .u64 (bl : Int)]] w (BitsPost w b) := fun w => by
    have := bitsC b hb w
    unfold wideV at this
    rw [hbh, hbl] at this
    exact this
  have hva : a < 2 ^ 128 := by unfold W128 at ha; omega
  have hvb : b < 2 ^ 128 := by unfold W128 at hb; omega
  have hsub : ∀ Q, Calls Try.prog 67 #[.agg #[.int .u64 (ah : Int), .int .u64 (al : Int)], .agg #[.int .u64 (bh : Int), .int .u64 (bl : Int)]] w Q → Calls Try.prog 67 #[wideV a, wideV b] w Q := fun Q h => by unfold wideV; rw [hah, hal, hbh, hbl]; exact h
  refine hsub _ ?_
  have HA := Lib.hid hba
  have HB := Lib.hid hbb
  have BA := Lib.hid (BL_bits hva)
  have BB := Lib.hid (BL_bits hvb)
  have HAB := Lib.hid hab
  have hcmp : ∀ w, Calls Try.prog 89 #[.agg #[.int .u64 (ah : Int), .int .u64 (al : Int)], .agg #[.int .u64 (bh : Int), .int .u64 (bl : Int)]] w (CmpPost w) := fun w => by
    have := rcmpC a b ha hb hab w
    unfold wideV at this
    rw [hah, hal, hbh, hbl] at this
    exact this
  have HCMP := Lib.hid hcmp
  obtain ⟨D, hD⟩ : ∃ D, a - b = D := ⟨_, rfl⟩
  have hWD : W128 D := ha.mono (by omega)
  obtain ⟨dh, hdh⟩ : ∃ h, D / 18446744073709551616 = h := ⟨_, rfl⟩
  obtain ⟨dl, hdl⟩ : ∃ h, D % 18446744073709551616 = h := ⟨_, rfl⟩
  have hwv : wideV D = .agg #[.int .u64 (dh : Int), .int .u64 (dl : Int)] := by unfold wideV; rw [hdh, hdl]
  have HWV := Lib.hid (And.intro hD (And.intro hWD hwv))
  rw [hD]
  obtain ⟨p, hp⟩ : ∃ p, w.heap.size = p := ⟨_, rfl⟩
  have hn1 := heap_alloc_new w (.cells #[.int .u64 (ah : Int), .int .u64 (al : Int)] 56)
  obtain ⟨W1, hW1⟩ : ∃ W1, w.alloc (.cells #[.int .u64 (ah : Int), .int .u64 (al : Int)] 56) = W1 := ⟨_, rfl⟩
  have hu1 : Upd [] w W1 := by rw [← hW1]; exact (Upd.refl _ _).alloc _
  have hq0 : W1.heap.size = p + 1 := by rw [← hW1, ← hp]; simp
  rw [hW1, hp] at hn1
  have hn2 := heap_alloc_new W1 (.cells #[.int .u64 (bh : Int), .int .u64 (bl : Int)] 56)
  obtain ⟨W2, hW2⟩ : ∃ W2, W1.alloc (.cells #[.int .u64 (bh : Int), .int .u64 (bl : Int)] 56) = W2 := ⟨_, rfl⟩
  have hu2 : Upd [] W1 W2 := by rw [← hW2]; exact (Upd.refl _ _).alloc _
  rw [hW2, hq0] at hn2
  have hn1' := (hu2.block p (lt_of_block hn1) (by simp)).trans hn1
  have hq2 : W2.heap.size = p + 2 := by rw [← hW2]; simp; omega
  have hn3 := heap_alloc_new W2 (.cells #[.int .u64 0, .int .u64 0] 56)
  obtain ⟨W3, hW3⟩ : ∃ W3, W2.alloc (.cells #[.int .u64 0, .int .u64 0] 56) = W3 := ⟨_, rfl⟩
  have hu3 : Upd [] W2 W3 := by rw [← hW3]; exact (Upd.refl _ _).alloc _
  rw [hW3, hq2] at hn3
  replace hn1' := (hu3.block p (lt_of_block hn1') (by simp)).trans hn1'
  replace hn2 := (hu3.block (p + 1) (lt_of_block hn2) (by simp)).trans hn2
  obtain ⟨a0, a1, -⟩ := WdAt.cells (p := p) hn1'
  obtain ⟨c0, c1, -⟩ := WdAt.cells (p := p + 1) hn2
  have HC := Lib.hid (And.intro a0 (And.intro a1 (And.intro c0 c1)))
  have HU := Lib.hid ((hu1.trans hu2).trans hu3)
  have HW3 := Lib.hid hW3
  have HN3 := Lib.hid (show WdAt W3 (p + 2) 0 0 from hn3)
  have HW1 := Lib.hid hW1
  have HW2 := Lib.hid hW2
  have HP := Lib.hid hp
  clear hsub hcmp hD hWD hdh hdl hwv hn3 hu3 hW3 hq2 hba hbb hva hvb ha hb hab hah hal hbh hbl hn1 hn2 hn1' a0 a1 c0 c1 hu1 hu2 hW1 hW2 hp hq0
  go_enter Try.func67, Try.ntmps67
  go_upto_region 1 with fail
  rw [HW1.out, HW2.out, HW3.out, HP.out]
  obtain ⟨a0, a1, c0, c1⟩ := HC.out
  go_wp2_with fail
  (with_reducible refine (HCMP.out _).mono ?_)
  rintro e W4 ⟨z, rfl, hz, hu4⟩
  have HCC := Lib.hid (rb_kp4 (And.intro a0 (And.intro a1 (And.intro c0 c1))) hu4)
  have HU4 := Lib.hid (HU.out.trans hu4)
  have HN4 := Lib.hid (HN3.out.upd hu4 (by simp))
  have hz' : decide (z < 0) = false := decide_eq_false (by omega)
  clear a0 a1 c0 c1 hu4
  go_upto_region 3 with fail
  -- region 3: T waits for all loads; fuel 1
  refine GoT.start [] (fun w' => w'.cell? ⟨p, 0, none⟩ = some (.int .u64 (ah : Int)) ∧ w'.cell? ⟨p, 1, none⟩ = some (.int .u64 (al : Int)) ∧ w'.cell? ⟨p + 1, 0, none⟩ = some (.int .u64 (bh : Int)) ∧ w'.cell? ⟨p + 1, 1, none⟩ = some (.int .u64 (bl : Int))) (by kernel_rfl) ?_ fun hS => ?_
  · exact rb_kp4 HCC.out (Upd.refl _ _).drew
  refine' GoT.take 1 (i := 0) (oi := ⟨some 17, _, _, _, _, _⟩) (v := _) rfl (by kernel_rfl) (by kernel_rfl) (by kernel_rfl) (by kernel_rfl) (fun _ _ _ h => h) (Or.inl ⟨by rfl, ?y3_0⟩) (by assumption) ?r3_0
  case y3_0 => intro w hSw; go_simp <;> with_reducible rfl
  simp only [Act.put, List.setIfInBounds_toArray, List.set_cons_zero, List.set_cons_succ]
  refine' GoT.take 1 (i := 2) (oi := ⟨some 19, _, _, _, _, _⟩) (v := _) rfl (by kernel_rfl) (by kernel_rfl) (by kernel_rfl) (by kernel_rfl) (fun _ _ _ h => h) (Or.inl ⟨by rfl, ?y3_2⟩) (by assumption) ?r3_2
  case y3_2 => intro w hSw; go_simp <;> with_reducible rfl
  simp only [Act.put, List.setIfInBounds_toArray, List.set_cons_zero, List.set_cons_succ]
  -- 1: Go.Op.call { callee := Go.Callee.value (Go.Operand.func 90), args := #[Go.Operand.tmp 17], argTypes := #[56] }
  refine GoT.one (i := 1) (o := ⟨some 18, _, _, _, _, _⟩) rfl (by kernel_rfl) fun K hK => ?_
  go_simp
  go_at_call 90
  (with_reducible refine (HA.out _).mono ?_)
  rintro e w3 ⟨g1, rfl, hg1, hr1, hu3⟩
  have HR1 := Lib.hid (And.intro hg1 (And.intro hr1 hu3))
  clear hg1 hr1 hu3
  refine hK.out _ _ (fun _ h => ?_) ?_
  · exact rb_kp4 h HR1.out.2.2
  clear hK K
  try simp only [Act.put, List.setIfInBounds_toArray, List.set_cons_zero, List.set_cons_succ]
  -- 3: Go.Op.call { callee := Go.Callee.value (Go.Operand.func 90), args := #[Go.Operand.tmp 19], argTypes := #[56] }
  refine GoT.one (i := 3) (o := ⟨some 20, _, _, _, _, _⟩) rfl (by kernel_rfl) fun K hK => ?_
  go_simp
  go_at_call 90
  (with_reducible refine (HB.out _).mono ?_)
  rintro e w4 ⟨g2, rfl, hg2, hr2, hu4⟩
  have HR2 := Lib.hid (And.intro hg2 (And.intro hr2 hu4))
  clear hg2 hr2 hu4
  refine hK.out _ _ (fun _ h => ?_) ?_
  · exact rb_kp4 h HR2.out.2.2
  clear hK K
  try simp only [Act.put, List.setIfInBounds_toArray, List.set_cons_zero, List.set_cons_succ]
  refine' GoT.move (i := 4) (oi := ⟨some 6, _, _, _, _, _⟩) (v := _) rfl (by kernel_rfl) (by kernel_rfl) (by kernel_rfl) (fun _ _ _ h => h) (Or.inl ⟨by rfl, ?y3_4⟩) ?r3_4
  case y3_4 => intro w; go_simp <;> with_reducible rfl
  simp only [Act.put, List.setIfInBounds_toArray, List.set_cons_zero, List.set_cons_succ]
  refine' GoT.move (i := 5) (oi := ⟨some 7, _, _, _, _, _⟩) (v := _) rfl (by kernel_rfl) (by kernel_rfl) (by kernel_rfl) (fun _ _ _ h => h) (Or.inl ⟨by rfl, ?y3_5⟩) ?r3_5
  case y3_5 => intro w; go_simp <;> with_reducible rfl
  simp only [Act.put, List.setIfInBounds_toArray, List.set_cons_zero, List.set_cons_succ]
  refine GoT.done (by kernel_rfl) ?_
  have hmk := kn_make w4 128 (by decide)
  obtain ⟨w5, hw5⟩ : ∃ W, w4.alloc (.cells (madeCells #[.int .i64 0] (128 * 1)) 3) = W := ⟨_, rfl⟩
  have hu5 : Upd [] w4 w5 := by rw [← hw5]; exact (Upd.refl _ _).alloc _
  rw [hw5] at hmk
  have hmk1 : (Instr.makeSlice 67 (.int .i64 128) (.int .i64 128)).run Try.prog w4 = .ok (.slice (some ⟨w4.heap.size, 0, none⟩) 128 128) w5 := hmk.1
  obtain ⟨g3, hg3⟩ : ∃ g, w4.heap.size = g := ⟨_, rfl⟩
  rw [hg3] at hmk1 hmk
  have l1 : w.heap.size ≤ g1 := by have h1 := HR1.out.1; have h2 := HU4.out.size; simp at h1; omega
  have l2 : w.heap.size ≤ g2 := by have h1 := HR2.out.1; have h2 := HR1.out.2.2.size; have h3 := HU4.out.size; simp at h2; omega
  have l12 : g1 < g2 := by have h1 := own_lt HR1.out.2.1 g1 (by simp [blk]); have h2 := HR2.out.1; omega
  have l23 : g2 < g3 := by have h1 := own_lt HR2.out.2.1 g2 (by simp [blk]); omega
  have lp1 : p + 2 < g1 := by have h1 := lt_of_block HN4.out; have h2 := HR1.out.1; simp at h2; omega
  have l3 : w.heap.size ≤ g3 := by omega
  have hxr : KN.row w5 0 (.slice (some ⟨g1, 0, none⟩) 128 128) (bitsL a 128) := own_base (own_upd (own_upd HR1.out.2.1 HR2.out.2.2 (by simp)) hu5 (by simp)) (Nat.zero_le _)
  have hyr : KN.row w5 0 (.slice (some ⟨g2, 0, none⟩) 128 128) (bitsL b 128) := own_base (own_upd HR2.out.2.1 hu5 (by simp)) (Nat.zero_le _)
  have hor : KN.row w5 0 (.slice (some ⟨g3, 0, none⟩) 128 128) (List.replicate 128 0) := own_base hmk.2 (Nat.zero_le _)
  have hu0 : Upd [] w w5 := (HU4.out.trans ((Upd.refl _ _).drew.trans (HR1.out.2.2.trans HR2.out.2.2))).trans hu5
  have hn0 : WdAt w5 (p + 2) 0 0 := HN4.out.upd (((Upd.refl _ _).drew.trans (HR1.out.2.2.trans HR2.out.2.2)).trans hu5) (by simp)
  obtain ⟨Y, hY⟩ : ∃ Y, bitsL b 128 = Y := ⟨_, rfl⟩
  have hyb := BB.out
  have hst : SubAt (bitsL a 128) Y (List.replicate 128 0) 0 D := by
    refine ⟨BA.out.1, BA.out.2.1, by simp, Bits01.rep _ (by omega), ?_, ?_⟩
    · rw [List.drop_zero, List.drop_zero, BA.out.2.2, ← hY, BB.out.2.2]; exact HAB.out
    · rw [List.drop_zero, List.drop_zero, BA.out.2.2, ← hY, BB.out.2.2, List.take_zero, ← HWV.out.1]; simp [valL]
  rw [hY] at hyr hyb
  have HST := Lib.hid (And.intro hst (And.intro hxr (And.intro hyr hor)))
  have HY := Lib.hid hyb
  have HU5 := Lib.hid (And.intro hu0 hn0)
  have HL := Lib.hid (And.intro l1 (And.intro l3 (And.intro lp1 (And.intro l12 l23))))
  clear hmk hw5 hu5 hxr hyr hor hu0 hn0 hst hyb hY l1 l2 l12 l23 l3 lp1 hS hg3
  go_wp2_with fail
  go_loopg [9, 10, 11] 128 (fun m s9 _ _ wr => ∃ i X O, m + i = 128 ∧ s9 = .int .i64 (i : Int) ∧ SubAt X Y O i D ∧ KN.row wr 0 (.slice (some ⟨g1, 0, none⟩) 128 128) X ∧ KN.row wr 0 (.slice (some ⟨g3, 0, none⟩) 128 128) O ∧ Upd [g1, g3] w5 wr)
  case atStart => exact ⟨0, _, _, rfl, rfl, HST.out.1, HST.out.2.1, HST.out.2.2.2, Upd.refl _ _⟩
  case round =>
    obtain ⟨i, X, O, hi, rfl, hst, hxr, hor, hu⟩ := hrel
    obtain ⟨wl, rfl⟩ : ∃ wl : World, wl = wr := ⟨_, rfl⟩
    have i0 : (0 : Int) ≤ (i : Int) := Int.natCast_nonneg _
    by_cases hlt : i < 128
    · have i1 : (i : Int) < 128 := by omega
      obtain ⟨x, hx⟩ : ∃ x, X[i]? = some x := ⟨_, List.getElem?_eq_getElem (by rw [hst.lx]; exact hlt)⟩
      obtain ⟨y, hy⟩ : ∃ y, Y[i]? = some y := ⟨_, List.getElem?_eq_getElem (by rw [HY.out.1]; exact hlt)⟩
      obtain ⟨o, ho⟩ : ∃ y, O[i]? = some y := ⟨_, List.getElem?_eq_getElem (by rw [hst.lo]; exact hlt)⟩
      have hyr : KN.row wl 0 (.slice (some ⟨g2, 0, none⟩) 128 128) Y := own_upd HST.out.2.2.1 hu (by have := HL.out; simp [blk]; omega)
      obtain ⟨q1, e1, -, x0, -⟩ := kn_row hxr hx
      cases e1
      obtain ⟨q1, e1, -, y0, -⟩ := kn_row hyr hy
      cases e1
      obtain ⟨q1, e1, -, o0, of⟩ := kn_row hor ho
      cases e1
      have hx1 := hst.bx.at hx
      have hy1 := HY.out.2.1.at hy
      have bx0 : (0 : Int) ≤ (x : Int) := Int.natCast_nonneg _
      have bx1 : (x : Int) ≤ 1 := by omega
      have by0 : (0 : Int) ≤ (y : Int) := Int.natCast_nonneg _
      have by1 : (y : Int) ≤ 1 := by omega
      have HI := Lib.hid hi
      have HS := Lib.hid (And.intro hst (And.intro hxr (And.intro hor hu)))
      have HX := Lib.hid (And.intro hx (And.intro hy ho))
      clear hi hst hxr hor hu hx hy ho hyr
      go_upto_region 8 with fail
      go_quiet (fail)
      by_cases hxy : y ≤ x
      · obtain ⟨n, hn⟩ : ∃ n, x - y = n := ⟨_, rfl⟩
        have hd0 : decide ((x : Int) - (y : Int) < 0) = false := decide_eq_false (by omega)
        have hv : Value.int .i64 ((x : Int) - (y : Int)) = Value.int .i64 (n : Int) := by congr 1; omega
        have HN := Lib.hid hn
        have HXY := Lib.hid hxy
        have HV := Lib.hid hv
        clear hn hxy hv
        go_wp2_with fail
        rw [HV.out]
        go_roundg (128 - (i + 1))
        case measure => have := HI.out; omega
        case rel =>
          have h1 := HS.out.1.step (n := n) hlt HX.out.1 HX.out.2.1 (by have := HN.out; omega) HS.out.1.lx HS.out.1.bx (by have := HN.out; have := HXY.out; omega)
          refine ⟨i + 1, X, _, by have := HI.out; omega, by go_num, h1, ?_, kn_set HS.out.1.lo (own_upd HS.out.2.2.1 ((Upd.refl [] _).drewN _) (by simp)) i n, ?_⟩
          · exact own_upd (own_upd HS.out.2.1 ((Upd.refl [] _).drewN _) (by simp)) ((Upd.refl [g3] _).setCell (.inl (by simp)) _) (by have := HL.out; simp [blk]; omega)
          · exact (HS.out.2.2.2.drewN _).setCell (.inl (by simp)) _
      · have hx0 : x = 0 := by omega
        have hy0 : y = 1 := by omega
        have hv : Value.int .i64 ((x : Int) - (y : Int)) = Value.int .i64 (-1) := by congr 1; omega
        rw [hv]
        subst hx0 hy0
        clear hxy hv x0 y0 hx1 hy1 bx0 bx1 by0 by1
        have hX1 : 0 < valL (X.drop (i + 1)) := by
          have h1 := HS.out.1.le
          rw [valL_at HX.out.1, valL_at HX.out.2.1] at h1
          omega
        have hrow : KN.row (wl.drewN nq) 0 (.slice (some ⟨g1, 0, none⟩) 128 128) (lendL X i (i + 1)) := by rw [lendL_start]; exact own_upd HS.out.2.1 ((Upd.refl [] _).drewN _) (by simp)
        have HX1 := Lib.hid (And.intro hX1 hrow)
        clear hX1 hrow
        go_wp2_with fail
        go_loopg [11] (128 - (i + 1)) (fun m s11 wr => ∃ k, m + k = 128 ∧ s11 = .int .i64 (k : Int) ∧ i < k ∧ (∀ j, i < j → j < k → X[j]? = some 0) ∧ KN.row wr 0 (.slice (some ⟨g1, 0, none⟩) 128 128) (lendL X i k) ∧ Upd [g1] (wl.drewN nq) wr)
        case atStart => exact ⟨i + 1, by omega, by go_num, by omega, fun j h1 h2 => by omega, HX1.out.2, Upd.refl _ _⟩
        case round =>
          obtain ⟨k, hk, rfl, hik, hz0, hrw, hu⟩ := hrel
          have hmore := lend_more hik (by rw [HS.out.1.lx]; omega) hz0 HX1.out.1
          have hk128 : k < 128 := by have := hmore.2; rw [HS.out.1.lx] at this; exact this
          obtain ⟨x, hx⟩ : ∃ x, X[k]? = some x := ⟨_, List.getElem?_eq_getElem hmore.2⟩
          have hxk : (lendL X i k)[k]? = some x := by rw [lendL_at hik (by rw [HS.out.1.lx]; omega)]; exact hx
          obtain ⟨q1, e1, -, x0, xf⟩ := kn_row hrw hxk
          cases e1
          have hx1 := HS.out.1.bx.at hx
          have k0 : (0 : Int) ≤ (k : Int) := Int.natCast_nonneg _
          have k1 : (k : Int) < 128 := by omega
          have hkm : k ≤ X.length := by rw [HS.out.1.lx]; omega
          have HK := Lib.hid (And.intro hk (And.intro hik (And.intro hz0 (And.intro hrw (And.intro hu (And.intro hx hkm))))))
          clear hk hik hz0 hrw hu hx hxk hmore hkm
          rcases (by omega : x = 0 ∨ x = 1) with rfl | rfl
          · go_wp2_with fail
            go_roundg (128 - (k + 1))
            case measure => have := HK.out.1; omega
            case rel =>
              have h := kn_set (by rw [lendL_len HK.out.2.1 HK.out.2.2.2.2.2.2]; exact HS.out.1.lx) HK.out.2.2.2.1 k 1
              rw [lendL_step HK.out.2.1 (by rw [HS.out.1.lx]; exact hk128)] at h
              refine ⟨k + 1, by omega, by go_num, by have := HK.out.2.1; omega, fun j h1 h2 => ?_, h, HK.out.2.2.2.2.1.setCell (.inl (by simp)) _⟩
              rcases Nat.lt_or_ge j k with h3 | h3
              · exact HK.out.2.2.1 j h1 h3
              · have : j = k := by omega
                rw [this]; exact HK.out.2.2.2.2.2.1
          · have ho2 : KN.row (wr.setCell ⟨g1, k, none⟩ (.int .i64 0)) 0 (.slice (some ⟨g3, 0, none⟩) 128 128) O :=
              own_upd (own_upd (own_upd HS.out.2.2.1 ((Upd.refl [] _).drewN _) (by simp)) HK.out.2.2.2.2.1 (by have := HL.out; simp [blk]; omega)) ((Upd.refl [g1] _).setCell (.inl (by simp)) _) (by have := HL.out; simp [blk]; omega)
            obtain ⟨q1, e1, -, o1, of1⟩ := kn_row ho2 HX.out.2.2
            cases e1
            have HO2 := Lib.hid ho2
            clear ho2
            go_wp2_with fail
            go_roundg (128 - (i + 1))
            case measure => have := HI.out; omega
            case rel =>
              have hlen : (lendL X i k).length = 128 := by rw [lendL_len HK.out.2.1 HK.out.2.2.2.2.2.2]; exact HS.out.1.lx
              have hdone := lend_done HK.out.2.1 HK.out.2.2.2.2.2.1 rfl HK.out.2.2.1 HX1.out.1
              have h1 := HS.out.1.step (X' := (lendL X i k).set k 0) (n := 1) hlt HX.out.1 HX.out.2.1 (by omega) (by rw [List.length_set]; exact hlen) ((lendL_01 HS.out.1.bx i k).set k (by omega)) (by omega)
              have hr1 := kn_set hlen HK.out.2.2.2.1 k 0
              refine ⟨i + 1, _, _, by have := HI.out; omega, by go_num, h1, ?_, kn_set HS.out.1.lo HO2.out i 1, ?_⟩
              · exact own_upd hr1 ((Upd.refl [g3] _).setCell (.inl (by simp)) _) (by have := HL.out; simp [blk]; omega)
              · exact (((HS.out.2.2.2.drewN nq).trans (HK.out.2.2.2.2.1.mono (by simp))).setCell (.inl (by simp)) _).setCell (.inl (by simp)) _
    · have hi128 : i = 128 := by omega
      subst hi128
      have hdn := hst.done HY.out.1
      have hsee : See KN wl (.slice (some ⟨g3, 0, none⟩) 128 128) O := by have := See.of_row hor; exact this
      have hnum := numberC _ O wl hsee (by rw [hdn.1]; omega) hdn.2.1 (by rw [hdn.2.2]; exact HWV.out.2.1)
      rw [hdn.2.2, HWV.out.2.2] at hnum
      have hn5 : WdAt wl (p + 2) 0 0 := HU5.out.2.upd hu (by have := HL.out; simp; omega)
      have huw : Upd [] w wl := HU5.out.1.trans' hu (fun k hk => by have := HL.out; simp at hk; right; omega)
      have HNUM := Lib.hid hnum
      have HE := Lib.hid (And.intro hn5 huw)
      clear hi hst hxr hor hu hdn hsee hnum hn5 huw
      go_wp2_with fail
      (with_reducible refine HNUM.out.mono ?_)
      rintro e w7 ⟨rfl, hu7⟩
      have HE7 := Lib.hid (And.intro (HE.out.1.upd hu7 (by simp)) (HE.out.2.trans hu7))
      clear hu7
      obtain ⟨r0, r1, rf⟩ := HE7.out.1.cells
      have rf0 := rf 0
      have rf1 := rf 1
      clear rf
      go_wp2_with fail
      obtain ⟨e0, e1, -⟩ := ((HE7.out.1.set0 dh).set1 dl).cells
      have HUE := Lib.hid ((HE7.out.2.setCell (p := ⟨p + 2, 0, none⟩) (.inr (by have := HP.out; simp; omega)) (.int .u64 (dh : Int))).setCell (p := ⟨p + 2, 1, none⟩) (.inr (by have := HP.out; simp; omega)) (.int .u64 (dl : Int)))
      have ep : p + 1 + 1 = p + 2 := rfl
      rw [ep]
      generalize (w7.setCell ⟨p + 2, 0, none⟩ (.int .u64 (dh : Int))).setCell ⟨p + 2, 1, none⟩ (.int .u64 (dl : Int)) = Wf at e0 e1 HUE ⊢
      exact bodyPost_ret (v := .tuple #[wideV D, .bool true]) (by rw [HWV.out.2.2]; simp [results, Try.results67, go_sem, e0, e1]) rfl ⟨rfl, HUE.out⟩

theorem wide_small {x : Nat} (h : x < 18446744073709551616) : wideV x = .agg #[.int .u64 0, .int .u64 (x : Int)] := by
  unfold wideV
  rw [Nat.div_eq_of_lt h, Nat.mod_eq_of_lt h]; rfl

theorem up_val {a : Int} {x : Nat} (h1 : -9223372036854775808 ≤ a) (h2 : a ≤ 9223372036854775807) (h : (x : Int) = a + 9223372036854775808) :
    Value.int .u64 (IntKind.u64.wrap (IntKind.u64.wrap a + 9223372036854775808)) = Value.int .u64 (x : Int) := by
  congr 1
  rw [IntKind.wrap_u64, IntKind.wrap_u64]
  omega

set_option maxRecDepth 100000 in
set_option maxHeartbeats 8000000 in
theorem rdiffC (a b : Int) (ha : -9223372036854775808 ≤ a) (hab : a ≤ b) (hb : b ≤ 9223372036854775807) (w : World) :
    Calls Try.prog 43 #[.int .i64 a, .int .i64 b] w fun e w' => e = .returned (.int .u64 (b - a)) ∧ Upd [] w w' := by
  obtain ⟨x, hx⟩ : ∃ x : Nat, (x : Int) = a + 9223372036854775808 := ⟨(a + 9223372036854775808).toNat, by omega⟩
  obtain ⟨y, hy⟩ : ∃ y : Nat, (y : Int) = b + 9223372036854775808 := ⟨(b + 9223372036854775808).toNat, by omega⟩
  have v1 := up_val ha (by omega) hx
  have v2 := up_val (by omega) hb hy
  have hxs : x < 18446744073709551616 := by omega
  have hys : y < 18446744073709551616 := by omega
  have hsub := fun w => rsubC y x (by unfold W128; omega) (by unfold W128; omega) (by omega) w
  have e1 := wide_small hxs
  have e2 := wide_small hys
  have e3 := wide_small (x := y - x) (by omega)
  rw [e1, e2] at hsub
  have hd : ((y - x : Nat) : Int) = b - a := by omega
  obtain ⟨d, hdd⟩ : ∃ d, y - x = d := ⟨_, rfl⟩
  rw [hdd] at hd hsub e3
  have hsub' : ∀ w, Calls Try.prog 67 #[.agg #[.int .u64 0, .int .u64 (y : Int)], .agg #[.int .u64 0, .int .u64 (x : Int)]] w fun e w' => e = .returned (.tuple #[.agg #[.int .u64 0, .int .u64 (d : Int)], .bool true]) ∧ Upd [] w w' := fun w => by
    have := hsub w
    unfold SubPost at this
    rw [e3] at this
    exact this
  have HS := Lib.hid hsub'
  have HV1 := Lib.hid v1
  have HV2 := Lib.hid v2
  have HD := Lib.hid hd
  clear hsub hsub' e1 e2 e3 hd v1 v2 hdd hx hy hxs hys ha hab hb
  go_enter Try.func43, Try.ntmps43
  go_upto_region 2 with fail
  rw [HV1.out]
  go_upto_region 3 with fail
  rw [HV2.out]
  have hu : Upd [] w ((w.alloc (.cells #[.int .u64 0, .int .u64 (x : Int)] 56)).alloc (.cells #[.int .u64 0, .int .u64 (y : Int)] 56)) := ((Upd.refl _ _).alloc _).alloc _
  have c0 : ((w.alloc (.cells #[.int .u64 0, .int .u64 (x : Int)] 56)).alloc (.cells #[.int .u64 0, .int .u64 (y : Int)] 56)).cell? ⟨w.heap.size, 0, none⟩ = some (.int .u64 0) := by
    rw [World.cell?_alloc_past _ _ _ (by simp), World.cell?_alloc_at _ _ _ _ rfl]; rfl
  have c1 : ((w.alloc (.cells #[.int .u64 0, .int .u64 (x : Int)] 56)).alloc (.cells #[.int .u64 0, .int .u64 (y : Int)] 56)).cell? ⟨w.heap.size, 1, none⟩ = some (.int .u64 (x : Int)) := by
    rw [World.cell?_alloc_past _ _ _ (by simp), World.cell?_alloc_at _ _ _ _ rfl]; rfl
  have d0 : ((w.alloc (.cells #[.int .u64 0, .int .u64 (x : Int)] 56)).alloc (.cells #[.int .u64 0, .int .u64 (y : Int)] 56)).cell? ⟨w.heap.size + 1, 0, none⟩ = some (.int .u64 0) := by
    rw [World.cell?_alloc_at _ _ _ _ (by simp)]; rfl
  have d1 : ((w.alloc (.cells #[.int .u64 0, .int .u64 (x : Int)] 56)).alloc (.cells #[.int .u64 0, .int .u64 (y : Int)] 56)).cell? ⟨w.heap.size + 1, 1, none⟩ = some (.int .u64 (y : Int)) := by
    rw [World.cell?_alloc_at _ _ _ _ (by simp)]; rfl
  have HU := Lib.hid hu
  clear hu
  generalize (w.alloc (.cells #[.int .u64 0, .int .u64 (x : Int)] 56)).alloc (.cells #[.int .u64 0, .int .u64 (y : Int)] 56) = W2 at c0 c1 d0 d1 HU ⊢
  go_wp2_with fail
  (with_reducible refine (HS.out _).mono ?_)
  rintro e w3 ⟨rfl, hu3⟩
  have HU3 := Lib.hid (HU.out.trans hu3)
  clear hu3 c0 c1 d0 d1
  go_wp2_with fail
  go_ret
  exact ⟨by rw [HD.out]; rfl, HU3.out.alloc _⟩
end Go.Proofs.Ytcpompbiohaomaa
