/- cells.Rim: the walk. -/
import Derived.Test.YthkiljfjjnckaaaRimP
namespace Go.Proofs.Ythkiljfjjnckaaa
open Go.RowKit

set_option maxRecDepth 100000 in
set_option maxHeartbeats 16000000 in
theorem rimCC (v : Value) (l : List Bx) (w : World) (hs : See KBx w v l) (hl : l.length < 1000000) (hb : ∀ b ∈ l, b.in64) :
    Calls Try.prog 41 #[v] w fun e w' => e = .returned (wideV (rimN l)) ∧ Upd [] w w' := by
  obtain ⟨A, C, rfl⟩ := hs.form
  have hu0 : Upd [] w (w.alloc (.cells #[.int .u64 0, .int .u64 0] 71)) := (Upd.refl _ _).alloc _
  have hbk := blocksC (.slice A l.length C) l _ (hs.upd0 hu0) hl
  have hxr := sqz_rise (linX l)
  have hyr := sqz_rise (linY l)
  have hx64 : ∀ x ∈ sqz (linX l), -9223372036854775808 ≤ x ∧ x ≤ 9223372036854775807 := fun x hx => linX_in hb x (sqz_mem hx)
  have hy64 : ∀ x ∈ sqz (linY l), -9223372036854775808 ≤ x ∧ x ≤ 9223372036854775807 := fun x hx => linY_in hb x (sqz_mem hx)
  have hlx : (sqz (linX l)).length ≤ 2000000 := Nat.le_trans (sqz_len _) (by have := linX_len l; omega)
  have hly : (sqz (linY l)).length ≤ 2000000 := Nat.le_trans (sqz_len _) (by have := linY_len l; omega)
  have hpart := rim_W (l := l) hx64 hy64 hlx hly
  have hae : rimN l = rimK l (sqz (linX l)) (sqz (linY l)) (sqz (linX l)).length := rfl
  obtain ⟨X, hX⟩ : ∃ X, sqz (linX l) = X := ⟨_, rfl⟩
  obtain ⟨Y, hY⟩ : ∃ Y, sqz (linY l) = Y := ⟨_, rfl⟩
  rw [hX] at hbk hpart hxr hx64 hlx hae
  rw [hY] at hbk hpart hyr hy64 hly hae
  rw [hae]
  have h20 : (w.alloc (.cells #[.int .u64 0, .int .u64 0] 71)).heap[w.heap.size]? = some (.cells #[.int .u64 0, .int .u64 0] 71 (0, 0)) := heap_alloc_new _ _
  have HBK := Lib.hid hbk
  have HPART := Lib.hid hpart
  have HXR := Lib.hid (And.intro hxr hx64)
  have HYR := Lib.hid (And.intro hyr hy64)
  have HU0 := Lib.hid hu0
  have H20 := Lib.hid h20
  have HLX := Lib.hid hlx
  have HLY := Lib.hid hly
  clear hbk hpart hxr hyr hx64 hy64 hlx hly hae hX hY hs hl hb hu0 h20
  go_enter Try.func41, Try.ntmps41
  go_wp2_with fail
  (with_reducible refine HBK.out.mono ?_)
  rintro e W1 ⟨A1, C1, A2, C2, A3, C3, rfl, sx, sy, sr, hu1⟩
  have h2 := (hu1.block w.heap.size (lt_of_block H20.out) (by simp)).trans H20.out
  have hw1 := HU0.out.trans hu1
  have hs0 : SumAt ((W1.alloc (.cells #[.slice A3 (X.length - 1) C3] 64)).alloc (.cells #[.int .u64 0, .int .u64 0] 71)) (W1.heap.size + 1) 0 := by
    have : SumAt _ _ 0 := heap_alloc_new (W1.alloc (.cells #[.slice A3 (X.length - 1) C3] 64)) (.cells #[.int .u64 0, .int .u64 0] 71)
    simpa using this
  have hua : Upd [] W1 ((W1.alloc (.cells #[.slice A3 (X.length - 1) C3] 64)).alloc (.cells #[.int .u64 0, .int .u64 0] 71)) := ((Upd.refl _ _).alloc _).alloc _
  have hcc : ((W1.alloc (.cells #[.slice A3 (X.length - 1) C3] 64)).alloc (.cells #[.int .u64 0, .int .u64 0] 71)).cell? ⟨W1.heap.size, 0, none⟩ = some (.slice A3 (X.length - 1) C3) := by
    rw [World.cell?_alloc_past _ _ _ (by simp), World.cell?_alloc_at _ _ _ _ rfl]; rfl
  have hcz : W1.heap.size < ((W1.alloc (.cells #[.slice A3 (X.length - 1) C3] 64)).alloc (.cells #[.int .u64 0, .int .u64 0] 71)).heap.size := by simp; omega
  obtain ⟨Wb, hWb⟩ : ∃ Wb, ((W1.alloc (.cells #[.slice A3 (X.length - 1) C3] 64)).alloc (.cells #[.int .u64 0, .int .u64 0] 71)) = Wb := ⟨_, rfl⟩
  rw [hWb] at hs0 hua hcc hcz
  have HSX := Lib.hid (And.intro sx (And.intro sy sr))
  have HS00 := Lib.hid hs0
  have HW1 := Lib.hid (And.intro hw1 h2)
  obtain ⟨n, hn⟩ : ∃ n : Nat, X.length = n := ⟨_, rfl⟩
  obtain ⟨m, hm⟩ : ∃ m : Nat, Y.length = m := ⟨_, rfl⟩
  obtain ⟨q, hq⟩ : ∃ q, W1.heap.size = q := ⟨_, rfl⟩
  obtain ⟨p, hp⟩ : ∃ p, q + 1 = p := ⟨_, rfl⟩
  have hqp : q ∉ [p] := by simp; omega
  have HT1 := Lib.hid (show ∀ w', Upd [p] Wb w' → Upd [] W1 w' from fun w' hu => hua.trans' hu (fun x hx => .inr (by simp at hx; omega)))
  have HIS := Lib.hid (show ∀ w', Upd [p] Wb w' → ∀ i k : Int, Calls Try.prog 74 #[.int .i64 i, .int .i64 k, .pointer (some ⟨q, 0, none⟩)] w' fun e w'' => e = .returned (.bool (isR (colsB l X Y) i k)) ∧ Upd [] w' w'' from fun w' hu i k =>
    isFn (.slice A3 (X.length - 1) C3) (colsB l X Y) q i k w' ((hu.cell (p := ⟨q, 0, none⟩) (by rw [← hq]; exact hcz) hqp).trans (by rw [← hq]; exact hcc)) (sr.upd0 (HT1.out w' hu)))
  rw [hq, hp] at HS00
  have HN := Lib.hid (And.intro hn hm)
  have hnb : (X.length : Int) ≤ 2000000 := by have := HLX.out; omega
  have hmb : (Y.length : Int) ≤ 2000000 := by have := HLY.out; omega
  clear sx sy sr hu1 h2 hw1 hs0 hua hcc hcz hqp hn hm
  go_upto_block 0 with fail
  clear hq hp hWb
  go_wp2_with fail
  go_loopg [21] n (fun j s21 wr => ∃ k, j + k = n ∧ s21 = .int .i64 (k : Int) ∧ SumAt wr p (rimK l X Y k) ∧ Upd [p] Wb wr)
  case atStart => exact ⟨0, rfl, rfl, HS00.out, Upd.refl _ _⟩
  case round =>
    obtain ⟨k, hk, rfl, hsum, hu⟩ := hrel
    have b0 : (0 : Int) ≤ (k : Int) := Int.natCast_nonneg _
    by_cases hlt : k < n
    · have b1 : (k : Int) < (X.length : Int) := by have := HN.out.1; omega
      have b2 : (k : Int) < 2000000 := by omega
      obtain ⟨wo, rfl⟩ : ∃ wo : World, wo = wr := ⟨_, rfl⟩
      have HU0' := Lib.hid hu
      have HK := Lib.hid hk
      have HLT := Lib.hid hlt
      have HS1 := Lib.hid hsum
      clear hu hk hlt hsum
      go_wp2_with fail
      go_loopg [26] m (fun j s26 wr => ∃ t, j + t = m ∧ s26 = .int .i64 (t : Int) ∧ SumAt wr p (rimK l X Y k + rimC l X Y k t) ∧ Upd [p] Wb wr)
      case atStart => exact ⟨0, by omega, rfl, HS1.out, HU0'.out⟩
      case round =>
        obtain ⟨t, ht, rfl, hsum, hu⟩ := hrel
        have t0 : (0 : Int) ≤ (t : Int) := Int.natCast_nonneg _
        by_cases hlt2 : t < m
        · have t1 : (t : Int) < (Y.length : Int) := by have := HN.out.2; omega
          have t2 : (t : Int) < 2000000 := by omega
          have HT := Lib.hid ht
          have HLT2 := Lib.hid hlt2
          have hX1 := nth_get (l := X) (i := k) (by have := HN.out.1; have := HLT.out; omega)
          have hY1 := nth_get (l := Y) (i := t) (by have := HN.out.2; omega)
          have x64 := nth_in HXR.out.2 k
          have x64' := nth_in HXR.out.2 (k + 1)
          have y64 := nth_in HYR.out.2 t
          have y64' := nth_in HYR.out.2 (t + 1)
          have hbd := HPART.out k (t + 1) (by have := HN.out.1; have := HLT.out; omega) (by have := HN.out.2; omega)
          have hv1 := fun w' hu => HIS.out w' hu ((k : Int) - 1) (t : Int)
          have hv2 := fun w' hu => HIS.out w' hu (k : Int) (t : Int)
          have hh1 := fun w' hu => HIS.out w' hu (k : Int) ((t : Int) - 1)
          obtain ⟨a1, ha1⟩ : ∃ a, isR (colsB l X Y) ((k : Int) - 1) (t : Int) = a := ⟨_, rfl⟩
          obtain ⟨a2, ha2⟩ : ∃ a, isR (colsB l X Y) (k : Int) ((t : Int) - 1) = a := ⟨_, rfl⟩
          obtain ⟨b, hb⟩ : ∃ a, isR (colsB l X Y) (k : Int) (t : Int) = a := ⟨_, rfl⟩
          simp only [ha1] at hv1
          simp only [hb] at hv2
          simp only [ha2] at hh1
          have HV1 := Lib.hid hv1
          have HV2 := Lib.hid hv2
          have HH1 := Lib.hid hh1
          have HH2 := HV2
          obtain ⟨N, hNN⟩ : ∃ N, rimK l X Y k + rimC l X Y k t = N := ⟨_, rfl⟩
          rw [hNN] at hsum
          obtain ⟨V, hVd⟩ : ∃ V, (nth Y (t + 1) - nth Y t).toNat = V := ⟨_, rfl⟩
          obtain ⟨M, hHd⟩ : ∃ M, (nth X (k + 1) - nth X k).toNat = M := ⟨_, rfl⟩
          obtain ⟨x0, hx0⟩ : ∃ x, nth X k = x := ⟨_, rfl⟩
          obtain ⟨x1, hx1⟩ : ∃ x, nth X (k + 1) = x := ⟨_, rfl⟩
          obtain ⟨y0, hy0⟩ : ∃ x, nth Y t = x := ⟨_, rfl⟩
          obtain ⟨y1, hy1⟩ : ∃ x, nth Y (t + 1) = x := ⟨_, rfl⟩
          rw [hx0] at x64
          rw [hx1] at x64'
          rw [hy0] at y64
          rw [hy1] at y64'
          have HSW := Lib.hid hsum
          have HUW := Lib.hid hu
          clear hv1 hv2 hh1 hsum hu ht hlt2
          by_cases hdV : t + 1 < Y.length
          · obtain ⟨xV, hxV⟩ : ∃ x, (a1 == b) = x := ⟨_, rfl⟩
            cases xV
            · have dV : (t : Int) + 1 < (Y.length : Int) := by omega
              have eV : sideV l X Y k t = V := by unfold sideV; rw [if_pos ⟨hdV, by rw [ha1, hb, bne, hxV]; rfl⟩, hVd]
              by_cases hdH : k + 1 < X.length
              · obtain ⟨xH, hxH⟩ : ∃ x, (a2 == b) = x := ⟨_, rfl⟩
                cases xH
                · have dH : (k : Int) + 1 < (X.length : Int) := by omega
                  have eH : sideH l X Y k t = M := by unfold sideH; rw [if_pos ⟨hdH, by rw [ha2, hb, bne, hxH]; rfl⟩, hHd]
                  have htot : rimK l X Y k + rimC l X Y k (t + 1) = N + V + M := by rw [rimC_succ, eV, eH]; omega
                  have HTOT := Lib.hid htot
                  have HMV := Lib.hid (fun w hs => moreFn p N V w (by rw [← hVd]; omega) hs (hbd.mono (by rw [rimC_succ, eV, eH]; omega)))
                  have HMH := Lib.hid (fun w hs => moreFn p (N + V) M w (by rw [← hHd]; omega) hs (hbd.mono (by rw [rimC_succ, eV, eH]; omega)))
                  have hY2 := nth_get (l := Y) (i := t + 1) hdV
                  obtain ⟨gy, oy, hAy, -, -, cy0⟩ := KL.at HSX.out.2.1 hY1
                  obtain ⟨gy2, oy2, hAy2, -, -, cy1⟩ := KL.at HSX.out.2.1 hY2
                  subst hAy
                  cases hAy2
                  rw [hy0] at cy0
                  rw [hy1] at cy1
                  have HCY := Lib.hid (And.intro cy0 cy1)
                  have hdfy := fun w => diffC y0 y1 w y64 y64'
                  rw [show diffN y0 y1 = (V : Int) by have := rise_step HYR.out.1 hY1 hY2; rw [hy0, hy1] at this; unfold diffN; rw [if_neg (by omega)]; omega] at hdfy
                  have HDY := Lib.hid hdfy
                  clear cy0 cy1 hdfy hY2
                  have hX2 := nth_get (l := X) (i := k + 1) hdH
                  obtain ⟨gx, ox, hAx, -, -, cx0⟩ := KL.at HSX.out.1 hX1
                  obtain ⟨gx2, ox2, hAx2, -, -, cx1⟩ := KL.at HSX.out.1 hX2
                  subst hAx
                  cases hAx2
                  rw [hx0] at cx0
                  rw [hx1] at cx1
                  have HCX := Lib.hid (And.intro cx0 cx1)
                  have hdfx := fun w => diffC x0 x1 w x64 x64'
                  rw [show diffN x0 x1 = (M : Int) by have := rise_step HXR.out.1 hX1 hX2; rw [hx0, hx1] at this; unfold diffN; rw [if_neg (by omega)]; omega] at hdfx
                  have HDX := Lib.hid hdfx
                  clear cx0 cx1 hdfx hX2
                  clear htot eV eH hbd ha1 hb ha2 hVd hHd hNN hX1 hY1 hx0 hx1 hy0 hy1 x64 x64' y64 y64' hdV hdH
                  go_wp2_with fail
                  (with_reducible refine (HV1.out _ HUW.out).mono ?_)
                  rintro e w3a ⟨rfl, hu3a⟩
                  have HSW := Lib.hid (HSW.out.upd0 hu3a)
                  have HUW := Lib.hid (HUW.out.trans (hu3a.mono (by simp)))
                  clear hu3a
                  go_wp2_with fail
                  (with_reducible refine (HV2.out _ HUW.out).mono ?_)
                  rintro e w4a ⟨rfl, hu4a⟩
                  have HSW := Lib.hid (HSW.out.upd0 hu4a)
                  have HUW := Lib.hid (HUW.out.trans (hu4a.mono (by simp)))
                  clear hu4a
                  go_wp2_with fail
                  have kp : (0 : Int) ≤ (k : Int) + 1 := by omega
                  have tp : (0 : Int) ≤ (t : Int) + 1 := by omega
                  have kn : ((k : Int) + 1).toNat = k + 1 := by omega
                  have tn : ((t : Int) + 1).toNat = t + 1 := by omega
                  have wk : IntKind.i64.wrap ((k : Int) + 1) = (k : Int) + 1 := IntWalk.i64_in _ ⟨by omega, by omega⟩
                  have wt : IntKind.i64.wrap ((t : Int) + 1) = (t : Int) + 1 := IntWalk.i64_in _ ⟨by omega, by omega⟩
                  have HSW := Lib.hid (show SumAt w4a.drew p N from HSW.out)
                  have HUW := Lib.hid (show Upd [p] Wb w4a.drew from HUW.out.drew)
                  -- region 12: T waits for all loads; fuel 2
                  refine GoT.start [10, 11] (fun w' => w'.cell? ⟨gy, oy + t, none⟩ = some (.int .i64 y0) ∧ w'.cell? ⟨gy, oy + (t + 1), none⟩ = some (.int .i64 y1)) (by kernel_rfl) ?_ fun hS => ?_
                  · exact (show _ from keep2 HCY.out (show Upd [] W1 _ from HT1.out _ HUW.out))
                  refine' GoT.move (i := 0) (oi := ⟨some 46, _, _, _, _, _⟩) (v := _) rfl (by kernel_rfl) (by kernel_rfl) (by kernel_rfl) (fun _ _ _ h => h) (Or.inl ⟨by rfl, ?yv1n12_0⟩) ?rv1n12_0
                  case yv1n12_0 => intro w; go_simp <;> with_reducible rfl
                  simp only [Act.put, List.setIfInBounds_toArray, List.set_cons_zero, List.set_cons_succ]
                  refine' GoT.move (i := 1) (oi := ⟨some 47, _, _, _, _, _⟩) (v := _) rfl (by kernel_rfl) (by kernel_rfl) (by kernel_rfl) (fun _ _ _ h => h) (Or.inl ⟨by rfl, ?yv1n12_1⟩) ?rv1n12_1
                  case yv1n12_1 => intro w; go_simp <;> with_reducible rfl
                  simp only [Act.put, List.setIfInBounds_toArray, List.set_cons_zero, List.set_cons_succ]
                  refine' GoT.move (i := 2) (oi := ⟨some 48, _, _, _, _, _⟩) (v := _) rfl (by kernel_rfl) (by kernel_rfl) (by kernel_rfl) (fun _ _ _ h => h) (Or.inl ⟨by rfl, ?yv1n12_2⟩) ?rv1n12_2
                  case yv1n12_2 => intro w; go_simp <;> with_reducible rfl
                  simp only [Act.put, List.setIfInBounds_toArray, List.set_cons_zero, List.set_cons_succ]
                  refine' GoT.move (i := 3) (oi := ⟨some 49, _, _, _, _, _⟩) (v := _) rfl (by kernel_rfl) (by kernel_rfl) (by kernel_rfl) (fun _ _ _ h => h) (Or.inl ⟨by rfl, ?yv1n12_3⟩) ?rv1n12_3
                  case yv1n12_3 => intro w; go_simp <;> with_reducible rfl
                  simp only [Act.put, List.setIfInBounds_toArray, List.set_cons_zero, List.set_cons_succ]
                  refine' GoT.take 2 (i := 4) (oi := ⟨some 50, _, _, _, _, _⟩) (v := _) rfl (by kernel_rfl) (by kernel_rfl) (by kernel_rfl) (by kernel_rfl) (fun _ _ _ h => h) (Or.inl ⟨by rfl, ?yv1n12_4⟩) (by assumption) ?rv1n12_4
                  case yv1n12_4 => intro w hSw; go_simp <;> with_reducible rfl
                  simp only [Act.put, List.setIfInBounds_toArray, List.set_cons_zero, List.set_cons_succ]
                  refine' GoT.move (i := 5) (oi := ⟨some 51, _, _, _, _, _⟩) (v := _) rfl (by kernel_rfl) (by kernel_rfl) (by kernel_rfl) (fun _ _ _ h => h) (Or.inl ⟨by rfl, ?yv1n12_5⟩) ?rv1n12_5
                  case yv1n12_5 => intro w; go_simp <;> with_reducible rfl
                  simp only [Act.put, List.setIfInBounds_toArray, List.set_cons_zero, List.set_cons_succ]
                  refine' GoT.move (i := 6) (oi := ⟨some 52, _, _, _, _, _⟩) (v := _) rfl (by kernel_rfl) (by kernel_rfl) (by kernel_rfl) (fun _ _ _ h => h) (Or.inl ⟨by rfl, ?yv1n12_6⟩) ?rv1n12_6
                  case yv1n12_6 => intro w; go_simp <;> with_reducible rfl
                  simp only [Act.put, List.setIfInBounds_toArray, List.set_cons_zero, List.set_cons_succ]
                  refine' GoT.move (i := 7) (oi := ⟨some 53, _, _, _, _, _⟩) (v := _) rfl (by kernel_rfl) (by kernel_rfl) (by kernel_rfl) (fun _ _ _ h => h) (Or.inl ⟨by rfl, ?yv1n12_7⟩) ?rv1n12_7
                  case yv1n12_7 => intro w; go_simp <;> with_reducible rfl
                  simp only [Act.put, List.setIfInBounds_toArray, List.set_cons_zero, List.set_cons_succ]
                  refine' GoT.move (i := 8) (oi := ⟨some 54, _, _, _, _, _⟩) (v := _) rfl (by kernel_rfl) (by kernel_rfl) (by kernel_rfl) (fun _ _ _ h => h) (Or.inl ⟨by rfl, ?yv1n12_8⟩) ?rv1n12_8
                  case yv1n12_8 => intro w; go_simp <;> with_reducible rfl
                  simp only [Act.put, List.setIfInBounds_toArray, List.set_cons_zero, List.set_cons_succ]
                  refine' GoT.take 2 (i := 9) (oi := ⟨some 55, _, _, _, _, _⟩) (v := _) rfl (by kernel_rfl) (by kernel_rfl) (by kernel_rfl) (by kernel_rfl) (fun _ _ _ h => h) (Or.inl ⟨by rfl, ?yv1n12_9⟩) (by assumption) ?rv1n12_9
                  case yv1n12_9 => intro w hSw; go_simp <;> with_reducible rfl
                  simp only [Act.put, List.setIfInBounds_toArray, List.set_cons_zero, List.set_cons_succ]
                  -- 10: Go.Op.call { callee := Go.Callee.value (Go.Operand.func 49), args := #[Go.Operand.tmp 50, Go.Operand.tmp 55], argTypes := #[2, 2] }
                  refine GoT.one (i := 10) (o := ⟨some 56, _, _, _, _, _⟩) rfl (by kernel_rfl) fun K hK => ?_
                  go_simp
                  go_at_call 49
                  (with_reducible refine (HDY.out _).mono ?_)
                  rintro e w' ⟨rfl, rfl⟩
                  refine hK.out _ _ (fun h => (by cases h)) ?_
                  clear hK K
                  try simp only [Act.put, List.setIfInBounds_toArray, List.set_cons_zero, List.set_cons_succ]
                  -- 11: Go.Op.call { callee := Go.Callee.value (Go.Operand.tmp 46), args := #[Go.Operand.tmp 56], argTypes := #[40] }
                  refine GoT.one (i := 11) (o := ⟨some 57, _, _, _, _, _⟩) rfl (by kernel_rfl) fun K hK => ?_
                  go_simp
                  go_at_call 75
                  (with_reducible refine (HMV.out _ HSW.out).mono ?_)
                  rintro e w7v ⟨rfl, hs7, hu7⟩
                  refine hK.out _ _ (fun h => (by cases h)) ?_
                  clear hK K
                  try simp only [Act.put, List.setIfInBounds_toArray, List.set_cons_zero, List.set_cons_succ]
                  have HSW := Lib.hid hs7
                  have HUW := Lib.hid (HUW.out.trans hu7)
                  clear hs7 hu7
                  refine GoT.done (by kernel_rfl) ?_
                  skip

                  clear wk wt kn tn kp tp
                  go_wp2_with fail
                  (with_reducible refine (HH1.out _ HUW.out).mono ?_)
                  rintro e w5a ⟨rfl, hu5a⟩
                  have HSW := Lib.hid (HSW.out.upd0 hu5a)
                  have HUW := Lib.hid (HUW.out.trans (hu5a.mono (by simp)))
                  clear hu5a
                  go_wp2_with fail
                  (with_reducible refine (HH2.out _ HUW.out).mono ?_)
                  rintro e w6a ⟨rfl, hu6a⟩
                  have HSW := Lib.hid (HSW.out.upd0 hu6a)
                  have HUW := Lib.hid (HUW.out.trans (hu6a.mono (by simp)))
                  clear hu6a
                  go_wp2_with fail
                  have kp : (0 : Int) ≤ (k : Int) + 1 := by omega
                  have tp : (0 : Int) ≤ (t : Int) + 1 := by omega
                  have kn : ((k : Int) + 1).toNat = k + 1 := by omega
                  have tn : ((t : Int) + 1).toNat = t + 1 := by omega
                  have wk : IntKind.i64.wrap ((k : Int) + 1) = (k : Int) + 1 := IntWalk.i64_in _ ⟨by omega, by omega⟩
                  have wt : IntKind.i64.wrap ((t : Int) + 1) = (t : Int) + 1 := IntWalk.i64_in _ ⟨by omega, by omega⟩
                  have HSW := Lib.hid (show SumAt w6a.drew p (N + V) from HSW.out)
                  have HUW := Lib.hid (show Upd [p] Wb w6a.drew from HUW.out.drew)
                  -- region 14: T waits for all loads; fuel 2
                  refine GoT.start [10, 11] (fun w' => w'.cell? ⟨gx, ox + k, none⟩ = some (.int .i64 x0) ∧ w'.cell? ⟨gx, ox + (k + 1), none⟩ = some (.int .i64 x1)) (by kernel_rfl) ?_ fun hS => ?_
                  · exact (show _ from keep2 HCX.out (show Upd [] W1 _ from HT1.out _ HUW.out))
                  refine' GoT.move (i := 0) (oi := ⟨some 75, _, _, _, _, _⟩) (v := _) rfl (by kernel_rfl) (by kernel_rfl) (by kernel_rfl) (fun _ _ _ h => h) (Or.inl ⟨by rfl, ?yh1n14_0⟩) ?rh1n14_0
                  case yh1n14_0 => intro w; go_simp <;> with_reducible rfl
                  simp only [Act.put, List.setIfInBounds_toArray, List.set_cons_zero, List.set_cons_succ]
                  refine' GoT.move (i := 1) (oi := ⟨some 76, _, _, _, _, _⟩) (v := _) rfl (by kernel_rfl) (by kernel_rfl) (by kernel_rfl) (fun _ _ _ h => h) (Or.inl ⟨by rfl, ?yh1n14_1⟩) ?rh1n14_1
                  case yh1n14_1 => intro w; go_simp <;> with_reducible rfl
                  simp only [Act.put, List.setIfInBounds_toArray, List.set_cons_zero, List.set_cons_succ]
                  refine' GoT.move (i := 2) (oi := ⟨some 77, _, _, _, _, _⟩) (v := _) rfl (by kernel_rfl) (by kernel_rfl) (by kernel_rfl) (fun _ _ _ h => h) (Or.inl ⟨by rfl, ?yh1n14_2⟩) ?rh1n14_2
                  case yh1n14_2 => intro w; go_simp <;> with_reducible rfl
                  simp only [Act.put, List.setIfInBounds_toArray, List.set_cons_zero, List.set_cons_succ]
                  refine' GoT.move (i := 3) (oi := ⟨some 78, _, _, _, _, _⟩) (v := _) rfl (by kernel_rfl) (by kernel_rfl) (by kernel_rfl) (fun _ _ _ h => h) (Or.inl ⟨by rfl, ?yh1n14_3⟩) ?rh1n14_3
                  case yh1n14_3 => intro w; go_simp <;> with_reducible rfl
                  simp only [Act.put, List.setIfInBounds_toArray, List.set_cons_zero, List.set_cons_succ]
                  refine' GoT.take 2 (i := 4) (oi := ⟨some 79, _, _, _, _, _⟩) (v := _) rfl (by kernel_rfl) (by kernel_rfl) (by kernel_rfl) (by kernel_rfl) (fun _ _ _ h => h) (Or.inl ⟨by rfl, ?yh1n14_4⟩) (by assumption) ?rh1n14_4
                  case yh1n14_4 => intro w hSw; go_simp <;> with_reducible rfl
                  simp only [Act.put, List.setIfInBounds_toArray, List.set_cons_zero, List.set_cons_succ]
                  refine' GoT.move (i := 5) (oi := ⟨some 80, _, _, _, _, _⟩) (v := _) rfl (by kernel_rfl) (by kernel_rfl) (by kernel_rfl) (fun _ _ _ h => h) (Or.inl ⟨by rfl, ?yh1n14_5⟩) ?rh1n14_5
                  case yh1n14_5 => intro w; go_simp <;> with_reducible rfl
                  simp only [Act.put, List.setIfInBounds_toArray, List.set_cons_zero, List.set_cons_succ]
                  refine' GoT.move (i := 6) (oi := ⟨some 81, _, _, _, _, _⟩) (v := _) rfl (by kernel_rfl) (by kernel_rfl) (by kernel_rfl) (fun _ _ _ h => h) (Or.inl ⟨by rfl, ?yh1n14_6⟩) ?rh1n14_6
                  case yh1n14_6 => intro w; go_simp <;> with_reducible rfl
                  simp only [Act.put, List.setIfInBounds_toArray, List.set_cons_zero, List.set_cons_succ]
                  refine' GoT.move (i := 7) (oi := ⟨some 82, _, _, _, _, _⟩) (v := _) rfl (by kernel_rfl) (by kernel_rfl) (by kernel_rfl) (fun _ _ _ h => h) (Or.inl ⟨by rfl, ?yh1n14_7⟩) ?rh1n14_7
                  case yh1n14_7 => intro w; go_simp <;> with_reducible rfl
                  simp only [Act.put, List.setIfInBounds_toArray, List.set_cons_zero, List.set_cons_succ]
                  refine' GoT.move (i := 8) (oi := ⟨some 83, _, _, _, _, _⟩) (v := _) rfl (by kernel_rfl) (by kernel_rfl) (by kernel_rfl) (fun _ _ _ h => h) (Or.inl ⟨by rfl, ?yh1n14_8⟩) ?rh1n14_8
                  case yh1n14_8 => intro w; go_simp <;> with_reducible rfl
                  simp only [Act.put, List.setIfInBounds_toArray, List.set_cons_zero, List.set_cons_succ]
                  refine' GoT.take 2 (i := 9) (oi := ⟨some 84, _, _, _, _, _⟩) (v := _) rfl (by kernel_rfl) (by kernel_rfl) (by kernel_rfl) (by kernel_rfl) (fun _ _ _ h => h) (Or.inl ⟨by rfl, ?yh1n14_9⟩) (by assumption) ?rh1n14_9
                  case yh1n14_9 => intro w hSw; go_simp <;> with_reducible rfl
                  simp only [Act.put, List.setIfInBounds_toArray, List.set_cons_zero, List.set_cons_succ]
                  -- 10: Go.Op.call { callee := Go.Callee.value (Go.Operand.func 49), args := #[Go.Operand.tmp 79, Go.Operand.tmp 84], argTypes := #[2, 2] }
                  refine GoT.one (i := 10) (o := ⟨some 85, _, _, _, _, _⟩) rfl (by kernel_rfl) fun K hK => ?_
                  go_simp
                  go_at_call 49
                  (with_reducible refine (HDX.out _).mono ?_)
                  rintro e w' ⟨rfl, rfl⟩
                  refine hK.out _ _ (fun h => (by cases h)) ?_
                  clear hK K
                  try simp only [Act.put, List.setIfInBounds_toArray, List.set_cons_zero, List.set_cons_succ]
                  -- 11: Go.Op.call { callee := Go.Callee.value (Go.Operand.tmp 75), args := #[Go.Operand.tmp 85], argTypes := #[40] }
                  refine GoT.one (i := 11) (o := ⟨some 86, _, _, _, _, _⟩) rfl (by kernel_rfl) fun K hK => ?_
                  go_simp
                  go_at_call 75
                  (with_reducible refine (HMH.out _ HSW.out).mono ?_)
                  rintro e w7h ⟨rfl, hs7, hu7⟩
                  refine hK.out _ _ (fun h => (by cases h)) ?_
                  clear hK K
                  try simp only [Act.put, List.setIfInBounds_toArray, List.set_cons_zero, List.set_cons_succ]
                  have HSW := Lib.hid hs7
                  have HUW := Lib.hid (HUW.out.trans hu7)
                  clear hs7 hu7
                  refine GoT.done (by kernel_rfl) ?_
                  skip

                  clear wk wt kn tn kp tp
                  go_wp2_with fail
                  go_roundg (m - (t + 1))
                  case measure => have := HT.out; have := HLT2.out; omega
                  case rel => exact ⟨t + 1, by have := HT.out; have := HLT2.out; omega, by go_num, by rw [HTOT.out]; exact HSW.out, HUW.out⟩
                · have dH : (k : Int) + 1 < (X.length : Int) := by omega
                  have eH : sideH l X Y k t = 0 := by unfold sideH; rw [if_neg (by rw [ha2, hb, bne, hxH]; simp)]
                  have htot : rimK l X Y k + rimC l X Y k (t + 1) = N + V := by rw [rimC_succ, eV, eH]; omega
                  have HTOT := Lib.hid htot
                  have HMV := Lib.hid (fun w hs => moreFn p N V w (by rw [← hVd]; omega) hs (hbd.mono (by rw [rimC_succ, eV, eH]; omega)))
                  have hY2 := nth_get (l := Y) (i := t + 1) hdV
                  obtain ⟨gy, oy, hAy, -, -, cy0⟩ := KL.at HSX.out.2.1 hY1
                  obtain ⟨gy2, oy2, hAy2, -, -, cy1⟩ := KL.at HSX.out.2.1 hY2
                  subst hAy
                  cases hAy2
                  rw [hy0] at cy0
                  rw [hy1] at cy1
                  have HCY := Lib.hid (And.intro cy0 cy1)
                  have hdfy := fun w => diffC y0 y1 w y64 y64'
                  rw [show diffN y0 y1 = (V : Int) by have := rise_step HYR.out.1 hY1 hY2; rw [hy0, hy1] at this; unfold diffN; rw [if_neg (by omega)]; omega] at hdfy
                  have HDY := Lib.hid hdfy
                  clear cy0 cy1 hdfy hY2
                  clear htot eV eH hbd ha1 hb ha2 hVd hHd hNN hX1 hY1 hx0 hx1 hy0 hy1 x64 x64' y64 y64' hdV hdH
                  go_wp2_with fail
                  (with_reducible refine (HV1.out _ HUW.out).mono ?_)
                  rintro e w3a ⟨rfl, hu3a⟩
                  have HSW := Lib.hid (HSW.out.upd0 hu3a)
                  have HUW := Lib.hid (HUW.out.trans (hu3a.mono (by simp)))
                  clear hu3a
                  go_wp2_with fail
                  (with_reducible refine (HV2.out _ HUW.out).mono ?_)
                  rintro e w4a ⟨rfl, hu4a⟩
                  have HSW := Lib.hid (HSW.out.upd0 hu4a)
                  have HUW := Lib.hid (HUW.out.trans (hu4a.mono (by simp)))
                  clear hu4a
                  go_wp2_with fail
                  have kp : (0 : Int) ≤ (k : Int) + 1 := by omega
                  have tp : (0 : Int) ≤ (t : Int) + 1 := by omega
                  have kn : ((k : Int) + 1).toNat = k + 1 := by omega
                  have tn : ((t : Int) + 1).toNat = t + 1 := by omega
                  have wk : IntKind.i64.wrap ((k : Int) + 1) = (k : Int) + 1 := IntWalk.i64_in _ ⟨by omega, by omega⟩
                  have wt : IntKind.i64.wrap ((t : Int) + 1) = (t : Int) + 1 := IntWalk.i64_in _ ⟨by omega, by omega⟩
                  have HSW := Lib.hid (show SumAt w4a.drew p N from HSW.out)
                  have HUW := Lib.hid (show Upd [p] Wb w4a.drew from HUW.out.drew)
                  -- region 12: T waits for all loads; fuel 2
                  refine GoT.start [10, 11] (fun w' => w'.cell? ⟨gy, oy + t, none⟩ = some (.int .i64 y0) ∧ w'.cell? ⟨gy, oy + (t + 1), none⟩ = some (.int .i64 y1)) (by kernel_rfl) ?_ fun hS => ?_
                  · exact (show _ from keep2 HCY.out (show Upd [] W1 _ from HT1.out _ HUW.out))
                  refine' GoT.move (i := 0) (oi := ⟨some 46, _, _, _, _, _⟩) (v := _) rfl (by kernel_rfl) (by kernel_rfl) (by kernel_rfl) (fun _ _ _ h => h) (Or.inl ⟨by rfl, ?yv2n12_0⟩) ?rv2n12_0
                  case yv2n12_0 => intro w; go_simp <;> with_reducible rfl
                  simp only [Act.put, List.setIfInBounds_toArray, List.set_cons_zero, List.set_cons_succ]
                  refine' GoT.move (i := 1) (oi := ⟨some 47, _, _, _, _, _⟩) (v := _) rfl (by kernel_rfl) (by kernel_rfl) (by kernel_rfl) (fun _ _ _ h => h) (Or.inl ⟨by rfl, ?yv2n12_1⟩) ?rv2n12_1
                  case yv2n12_1 => intro w; go_simp <;> with_reducible rfl
                  simp only [Act.put, List.setIfInBounds_toArray, List.set_cons_zero, List.set_cons_succ]
                  refine' GoT.move (i := 2) (oi := ⟨some 48, _, _, _, _, _⟩) (v := _) rfl (by kernel_rfl) (by kernel_rfl) (by kernel_rfl) (fun _ _ _ h => h) (Or.inl ⟨by rfl, ?yv2n12_2⟩) ?rv2n12_2
                  case yv2n12_2 => intro w; go_simp <;> with_reducible rfl
                  simp only [Act.put, List.setIfInBounds_toArray, List.set_cons_zero, List.set_cons_succ]
                  refine' GoT.move (i := 3) (oi := ⟨some 49, _, _, _, _, _⟩) (v := _) rfl (by kernel_rfl) (by kernel_rfl) (by kernel_rfl) (fun _ _ _ h => h) (Or.inl ⟨by rfl, ?yv2n12_3⟩) ?rv2n12_3
                  case yv2n12_3 => intro w; go_simp <;> with_reducible rfl
                  simp only [Act.put, List.setIfInBounds_toArray, List.set_cons_zero, List.set_cons_succ]
                  refine' GoT.take 2 (i := 4) (oi := ⟨some 50, _, _, _, _, _⟩) (v := _) rfl (by kernel_rfl) (by kernel_rfl) (by kernel_rfl) (by kernel_rfl) (fun _ _ _ h => h) (Or.inl ⟨by rfl, ?yv2n12_4⟩) (by assumption) ?rv2n12_4
                  case yv2n12_4 => intro w hSw; go_simp <;> with_reducible rfl
                  simp only [Act.put, List.setIfInBounds_toArray, List.set_cons_zero, List.set_cons_succ]
                  refine' GoT.move (i := 5) (oi := ⟨some 51, _, _, _, _, _⟩) (v := _) rfl (by kernel_rfl) (by kernel_rfl) (by kernel_rfl) (fun _ _ _ h => h) (Or.inl ⟨by rfl, ?yv2n12_5⟩) ?rv2n12_5
                  case yv2n12_5 => intro w; go_simp <;> with_reducible rfl
                  simp only [Act.put, List.setIfInBounds_toArray, List.set_cons_zero, List.set_cons_succ]
                  refine' GoT.move (i := 6) (oi := ⟨some 52, _, _, _, _, _⟩) (v := _) rfl (by kernel_rfl) (by kernel_rfl) (by kernel_rfl) (fun _ _ _ h => h) (Or.inl ⟨by rfl, ?yv2n12_6⟩) ?rv2n12_6
                  case yv2n12_6 => intro w; go_simp <;> with_reducible rfl
                  simp only [Act.put, List.setIfInBounds_toArray, List.set_cons_zero, List.set_cons_succ]
                  refine' GoT.move (i := 7) (oi := ⟨some 53, _, _, _, _, _⟩) (v := _) rfl (by kernel_rfl) (by kernel_rfl) (by kernel_rfl) (fun _ _ _ h => h) (Or.inl ⟨by rfl, ?yv2n12_7⟩) ?rv2n12_7
                  case yv2n12_7 => intro w; go_simp <;> with_reducible rfl
                  simp only [Act.put, List.setIfInBounds_toArray, List.set_cons_zero, List.set_cons_succ]
                  refine' GoT.move (i := 8) (oi := ⟨some 54, _, _, _, _, _⟩) (v := _) rfl (by kernel_rfl) (by kernel_rfl) (by kernel_rfl) (fun _ _ _ h => h) (Or.inl ⟨by rfl, ?yv2n12_8⟩) ?rv2n12_8
                  case yv2n12_8 => intro w; go_simp <;> with_reducible rfl
                  simp only [Act.put, List.setIfInBounds_toArray, List.set_cons_zero, List.set_cons_succ]
                  refine' GoT.take 2 (i := 9) (oi := ⟨some 55, _, _, _, _, _⟩) (v := _) rfl (by kernel_rfl) (by kernel_rfl) (by kernel_rfl) (by kernel_rfl) (fun _ _ _ h => h) (Or.inl ⟨by rfl, ?yv2n12_9⟩) (by assumption) ?rv2n12_9
                  case yv2n12_9 => intro w hSw; go_simp <;> with_reducible rfl
                  simp only [Act.put, List.setIfInBounds_toArray, List.set_cons_zero, List.set_cons_succ]
                  -- 10: Go.Op.call { callee := Go.Callee.value (Go.Operand.func 49), args := #[Go.Operand.tmp 50, Go.Operand.tmp 55], argTypes := #[2, 2] }
                  refine GoT.one (i := 10) (o := ⟨some 56, _, _, _, _, _⟩) rfl (by kernel_rfl) fun K hK => ?_
                  go_simp
                  go_at_call 49
                  (with_reducible refine (HDY.out _).mono ?_)
                  rintro e w' ⟨rfl, rfl⟩
                  refine hK.out _ _ (fun h => (by cases h)) ?_
                  clear hK K
                  try simp only [Act.put, List.setIfInBounds_toArray, List.set_cons_zero, List.set_cons_succ]
                  -- 11: Go.Op.call { callee := Go.Callee.value (Go.Operand.tmp 46), args := #[Go.Operand.tmp 56], argTypes := #[40] }
                  refine GoT.one (i := 11) (o := ⟨some 57, _, _, _, _, _⟩) rfl (by kernel_rfl) fun K hK => ?_
                  go_simp
                  go_at_call 75
                  (with_reducible refine (HMV.out _ HSW.out).mono ?_)
                  rintro e w7v ⟨rfl, hs7, hu7⟩
                  refine hK.out _ _ (fun h => (by cases h)) ?_
                  clear hK K
                  try simp only [Act.put, List.setIfInBounds_toArray, List.set_cons_zero, List.set_cons_succ]
                  have HSW := Lib.hid hs7
                  have HUW := Lib.hid (HUW.out.trans hu7)
                  clear hs7 hu7
                  refine GoT.done (by kernel_rfl) ?_
                  skip

                  clear wk wt kn tn kp tp
                  go_wp2_with fail
                  (with_reducible refine (HH1.out _ HUW.out).mono ?_)
                  rintro e w5a ⟨rfl, hu5a⟩
                  have HSW := Lib.hid (HSW.out.upd0 hu5a)
                  have HUW := Lib.hid (HUW.out.trans (hu5a.mono (by simp)))
                  clear hu5a
                  go_wp2_with fail
                  (with_reducible refine (HH2.out _ HUW.out).mono ?_)
                  rintro e w6a ⟨rfl, hu6a⟩
                  have HSW := Lib.hid (HSW.out.upd0 hu6a)
                  have HUW := Lib.hid (HUW.out.trans (hu6a.mono (by simp)))
                  clear hu6a
                  go_wp2_with fail
                  go_roundg (m - (t + 1))
                  case measure => have := HT.out; have := HLT2.out; omega
                  case rel => exact ⟨t + 1, by have := HT.out; have := HLT2.out; omega, by go_num, by rw [HTOT.out]; exact HSW.out, HUW.out⟩
              · have dH : decide ((k : Int) + 1 < (X.length : Int)) = false := decide_eq_false (by omega)
                have eH : sideH l X Y k t = 0 := by unfold sideH; rw [if_neg (by omega)]
                have htot : rimK l X Y k + rimC l X Y k (t + 1) = N + V := by rw [rimC_succ, eV, eH]; omega
                have HTOT := Lib.hid htot
                have HMV := Lib.hid (fun w hs => moreFn p N V w (by rw [← hVd]; omega) hs (hbd.mono (by rw [rimC_succ, eV, eH]; omega)))
                have hY2 := nth_get (l := Y) (i := t + 1) hdV
                obtain ⟨gy, oy, hAy, -, -, cy0⟩ := KL.at HSX.out.2.1 hY1
                obtain ⟨gy2, oy2, hAy2, -, -, cy1⟩ := KL.at HSX.out.2.1 hY2
                subst hAy
                cases hAy2
                rw [hy0] at cy0
                rw [hy1] at cy1
                have HCY := Lib.hid (And.intro cy0 cy1)
                have hdfy := fun w => diffC y0 y1 w y64 y64'
                rw [show diffN y0 y1 = (V : Int) by have := rise_step HYR.out.1 hY1 hY2; rw [hy0, hy1] at this; unfold diffN; rw [if_neg (by omega)]; omega] at hdfy
                have HDY := Lib.hid hdfy
                clear cy0 cy1 hdfy hY2
                clear htot eV eH hbd ha1 hb ha2 hVd hHd hNN hX1 hY1 hx0 hx1 hy0 hy1 x64 x64' y64 y64' hdV hdH
                go_wp2_with fail
                (with_reducible refine (HV1.out _ HUW.out).mono ?_)
                rintro e w3a ⟨rfl, hu3a⟩
                have HSW := Lib.hid (HSW.out.upd0 hu3a)
                have HUW := Lib.hid (HUW.out.trans (hu3a.mono (by simp)))
                clear hu3a
                go_wp2_with fail
                (with_reducible refine (HV2.out _ HUW.out).mono ?_)
                rintro e w4a ⟨rfl, hu4a⟩
                have HSW := Lib.hid (HSW.out.upd0 hu4a)
                have HUW := Lib.hid (HUW.out.trans (hu4a.mono (by simp)))
                clear hu4a
                go_wp2_with fail
                have kp : (0 : Int) ≤ (k : Int) + 1 := by omega
                have tp : (0 : Int) ≤ (t : Int) + 1 := by omega
                have kn : ((k : Int) + 1).toNat = k + 1 := by omega
                have tn : ((t : Int) + 1).toNat = t + 1 := by omega
                have wk : IntKind.i64.wrap ((k : Int) + 1) = (k : Int) + 1 := IntWalk.i64_in _ ⟨by omega, by omega⟩
                have wt : IntKind.i64.wrap ((t : Int) + 1) = (t : Int) + 1 := IntWalk.i64_in _ ⟨by omega, by omega⟩
                have HSW := Lib.hid (show SumAt w4a.drew p N from HSW.out)
                have HUW := Lib.hid (show Upd [p] Wb w4a.drew from HUW.out.drew)
                -- region 12: T waits for all loads; fuel 2
                refine GoT.start [10, 11] (fun w' => w'.cell? ⟨gy, oy + t, none⟩ = some (.int .i64 y0) ∧ w'.cell? ⟨gy, oy + (t + 1), none⟩ = some (.int .i64 y1)) (by kernel_rfl) ?_ fun hS => ?_
                · exact (show _ from keep2 HCY.out (show Upd [] W1 _ from HT1.out _ HUW.out))
                refine' GoT.move (i := 0) (oi := ⟨some 46, _, _, _, _, _⟩) (v := _) rfl (by kernel_rfl) (by kernel_rfl) (by kernel_rfl) (fun _ _ _ h => h) (Or.inl ⟨by rfl, ?yv3n12_0⟩) ?rv3n12_0
                case yv3n12_0 => intro w; go_simp <;> with_reducible rfl
                simp only [Act.put, List.setIfInBounds_toArray, List.set_cons_zero, List.set_cons_succ]
                refine' GoT.move (i := 1) (oi := ⟨some 47, _, _, _, _, _⟩) (v := _) rfl (by kernel_rfl) (by kernel_rfl) (by kernel_rfl) (fun _ _ _ h => h) (Or.inl ⟨by rfl, ?yv3n12_1⟩) ?rv3n12_1
                case yv3n12_1 => intro w; go_simp <;> with_reducible rfl
                simp only [Act.put, List.setIfInBounds_toArray, List.set_cons_zero, List.set_cons_succ]
                refine' GoT.move (i := 2) (oi := ⟨some 48, _, _, _, _, _⟩) (v := _) rfl (by kernel_rfl) (by kernel_rfl) (by kernel_rfl) (fun _ _ _ h => h) (Or.inl ⟨by rfl, ?yv3n12_2⟩) ?rv3n12_2
                case yv3n12_2 => intro w; go_simp <;> with_reducible rfl
                simp only [Act.put, List.setIfInBounds_toArray, List.set_cons_zero, List.set_cons_succ]
                refine' GoT.move (i := 3) (oi := ⟨some 49, _, _, _, _, _⟩) (v := _) rfl (by kernel_rfl) (by kernel_rfl) (by kernel_rfl) (fun _ _ _ h => h) (Or.inl ⟨by rfl, ?yv3n12_3⟩) ?rv3n12_3
                case yv3n12_3 => intro w; go_simp <;> with_reducible rfl
                simp only [Act.put, List.setIfInBounds_toArray, List.set_cons_zero, List.set_cons_succ]
                refine' GoT.take 2 (i := 4) (oi := ⟨some 50, _, _, _, _, _⟩) (v := _) rfl (by kernel_rfl) (by kernel_rfl) (by kernel_rfl) (by kernel_rfl) (fun _ _ _ h => h) (Or.inl ⟨by rfl, ?yv3n12_4⟩) (by assumption) ?rv3n12_4
                case yv3n12_4 => intro w hSw; go_simp <;> with_reducible rfl
                simp only [Act.put, List.setIfInBounds_toArray, List.set_cons_zero, List.set_cons_succ]
                refine' GoT.move (i := 5) (oi := ⟨some 51, _, _, _, _, _⟩) (v := _) rfl (by kernel_rfl) (by kernel_rfl) (by kernel_rfl) (fun _ _ _ h => h) (Or.inl ⟨by rfl, ?yv3n12_5⟩) ?rv3n12_5
                case yv3n12_5 => intro w; go_simp <;> with_reducible rfl
                simp only [Act.put, List.setIfInBounds_toArray, List.set_cons_zero, List.set_cons_succ]
                refine' GoT.move (i := 6) (oi := ⟨some 52, _, _, _, _, _⟩) (v := _) rfl (by kernel_rfl) (by kernel_rfl) (by kernel_rfl) (fun _ _ _ h => h) (Or.inl ⟨by rfl, ?yv3n12_6⟩) ?rv3n12_6
                case yv3n12_6 => intro w; go_simp <;> with_reducible rfl
                simp only [Act.put, List.setIfInBounds_toArray, List.set_cons_zero, List.set_cons_succ]
                refine' GoT.move (i := 7) (oi := ⟨some 53, _, _, _, _, _⟩) (v := _) rfl (by kernel_rfl) (by kernel_rfl) (by kernel_rfl) (fun _ _ _ h => h) (Or.inl ⟨by rfl, ?yv3n12_7⟩) ?rv3n12_7
                case yv3n12_7 => intro w; go_simp <;> with_reducible rfl
                simp only [Act.put, List.setIfInBounds_toArray, List.set_cons_zero, List.set_cons_succ]
                refine' GoT.move (i := 8) (oi := ⟨some 54, _, _, _, _, _⟩) (v := _) rfl (by kernel_rfl) (by kernel_rfl) (by kernel_rfl) (fun _ _ _ h => h) (Or.inl ⟨by rfl, ?yv3n12_8⟩) ?rv3n12_8
                case yv3n12_8 => intro w; go_simp <;> with_reducible rfl
                simp only [Act.put, List.setIfInBounds_toArray, List.set_cons_zero, List.set_cons_succ]
                refine' GoT.take 2 (i := 9) (oi := ⟨some 55, _, _, _, _, _⟩) (v := _) rfl (by kernel_rfl) (by kernel_rfl) (by kernel_rfl) (by kernel_rfl) (fun _ _ _ h => h) (Or.inl ⟨by rfl, ?yv3n12_9⟩) (by assumption) ?rv3n12_9
                case yv3n12_9 => intro w hSw; go_simp <;> with_reducible rfl
                simp only [Act.put, List.setIfInBounds_toArray, List.set_cons_zero, List.set_cons_succ]
                -- 10: Go.Op.call { callee := Go.Callee.value (Go.Operand.func 49), args := #[Go.Operand.tmp 50, Go.Operand.tmp 55], argTypes := #[2, 2] }
                refine GoT.one (i := 10) (o := ⟨some 56, _, _, _, _, _⟩) rfl (by kernel_rfl) fun K hK => ?_
                go_simp
                go_at_call 49
                (with_reducible refine (HDY.out _).mono ?_)
                rintro e w' ⟨rfl, rfl⟩
                refine hK.out _ _ (fun h => (by cases h)) ?_
                clear hK K
                try simp only [Act.put, List.setIfInBounds_toArray, List.set_cons_zero, List.set_cons_succ]
                -- 11: Go.Op.call { callee := Go.Callee.value (Go.Operand.tmp 46), args := #[Go.Operand.tmp 56], argTypes := #[40] }
                refine GoT.one (i := 11) (o := ⟨some 57, _, _, _, _, _⟩) rfl (by kernel_rfl) fun K hK => ?_
                go_simp
                go_at_call 75
                (with_reducible refine (HMV.out _ HSW.out).mono ?_)
                rintro e w7v ⟨rfl, hs7, hu7⟩
                refine hK.out _ _ (fun h => (by cases h)) ?_
                clear hK K
                try simp only [Act.put, List.setIfInBounds_toArray, List.set_cons_zero, List.set_cons_succ]
                have HSW := Lib.hid hs7
                have HUW := Lib.hid (HUW.out.trans hu7)
                clear hs7 hu7
                refine GoT.done (by kernel_rfl) ?_
                skip

                clear wk wt kn tn kp tp
                go_wp2_with fail
                go_roundg (m - (t + 1))
                case measure => have := HT.out; have := HLT2.out; omega
                case rel => exact ⟨t + 1, by have := HT.out; have := HLT2.out; omega, by go_num, by rw [HTOT.out]; exact HSW.out, HUW.out⟩
            · have dV : (t : Int) + 1 < (Y.length : Int) := by omega
              have eV : sideV l X Y k t = 0 := by unfold sideV; rw [if_neg (by rw [ha1, hb, bne, hxV]; simp)]
              by_cases hdH : k + 1 < X.length
              · obtain ⟨xH, hxH⟩ : ∃ x, (a2 == b) = x := ⟨_, rfl⟩
                cases xH
                · have dH : (k : Int) + 1 < (X.length : Int) := by omega
                  have eH : sideH l X Y k t = M := by unfold sideH; rw [if_pos ⟨hdH, by rw [ha2, hb, bne, hxH]; rfl⟩, hHd]
                  have htot : rimK l X Y k + rimC l X Y k (t + 1) = N + M := by rw [rimC_succ, eV, eH]; omega
                  have HTOT := Lib.hid htot
                  have HMH0 := Lib.hid (fun w hs => moreFn p N M w (by rw [← hHd]; omega) hs (hbd.mono (by rw [rimC_succ, eV, eH]; omega)))
                  have hX2 := nth_get (l := X) (i := k + 1) hdH
                  obtain ⟨gx, ox, hAx, -, -, cx0⟩ := KL.at HSX.out.1 hX1
                  obtain ⟨gx2, ox2, hAx2, -, -, cx1⟩ := KL.at HSX.out.1 hX2
                  subst hAx
                  cases hAx2
                  rw [hx0] at cx0
                  rw [hx1] at cx1
                  have HCX := Lib.hid (And.intro cx0 cx1)
                  have hdfx := fun w => diffC x0 x1 w x64 x64'
                  rw [show diffN x0 x1 = (M : Int) by have := rise_step HXR.out.1 hX1 hX2; rw [hx0, hx1] at this; unfold diffN; rw [if_neg (by omega)]; omega] at hdfx
                  have HDX := Lib.hid hdfx
                  clear cx0 cx1 hdfx hX2
                  clear htot eV eH hbd ha1 hb ha2 hVd hHd hNN hX1 hY1 hx0 hx1 hy0 hy1 x64 x64' y64 y64' hdV hdH
                  go_wp2_with fail
                  (with_reducible refine (HV1.out _ HUW.out).mono ?_)
                  rintro e w3a ⟨rfl, hu3a⟩
                  have HSW := Lib.hid (HSW.out.upd0 hu3a)
                  have HUW := Lib.hid (HUW.out.trans (hu3a.mono (by simp)))
                  clear hu3a
                  go_wp2_with fail
                  (with_reducible refine (HV2.out _ HUW.out).mono ?_)
                  rintro e w4a ⟨rfl, hu4a⟩
                  have HSW := Lib.hid (HSW.out.upd0 hu4a)
                  have HUW := Lib.hid (HUW.out.trans (hu4a.mono (by simp)))
                  clear hu4a
                  go_wp2_with fail
                  (with_reducible refine (HH1.out _ HUW.out).mono ?_)
                  rintro e w5a ⟨rfl, hu5a⟩
                  have HSW := Lib.hid (HSW.out.upd0 hu5a)
                  have HUW := Lib.hid (HUW.out.trans (hu5a.mono (by simp)))
                  clear hu5a
                  go_wp2_with fail
                  (with_reducible refine (HH2.out _ HUW.out).mono ?_)
                  rintro e w6a ⟨rfl, hu6a⟩
                  have HSW := Lib.hid (HSW.out.upd0 hu6a)
                  have HUW := Lib.hid (HUW.out.trans (hu6a.mono (by simp)))
                  clear hu6a
                  go_wp2_with fail
                  have kp : (0 : Int) ≤ (k : Int) + 1 := by omega
                  have tp : (0 : Int) ≤ (t : Int) + 1 := by omega
                  have kn : ((k : Int) + 1).toNat = k + 1 := by omega
                  have tn : ((t : Int) + 1).toNat = t + 1 := by omega
                  have wk : IntKind.i64.wrap ((k : Int) + 1) = (k : Int) + 1 := IntWalk.i64_in _ ⟨by omega, by omega⟩
                  have wt : IntKind.i64.wrap ((t : Int) + 1) = (t : Int) + 1 := IntWalk.i64_in _ ⟨by omega, by omega⟩
                  have HSW := Lib.hid (show SumAt w6a.drew p N from HSW.out)
                  have HUW := Lib.hid (show Upd [p] Wb w6a.drew from HUW.out.drew)
                  -- region 14: T waits for all loads; fuel 2
                  refine GoT.start [10, 11] (fun w' => w'.cell? ⟨gx, ox + k, none⟩ = some (.int .i64 x0) ∧ w'.cell? ⟨gx, ox + (k + 1), none⟩ = some (.int .i64 x1)) (by kernel_rfl) ?_ fun hS => ?_
                  · exact (show _ from keep2 HCX.out (show Upd [] W1 _ from HT1.out _ HUW.out))
                  refine' GoT.move (i := 0) (oi := ⟨some 75, _, _, _, _, _⟩) (v := _) rfl (by kernel_rfl) (by kernel_rfl) (by kernel_rfl) (fun _ _ _ h => h) (Or.inl ⟨by rfl, ?yh4n14_0⟩) ?rh4n14_0
                  case yh4n14_0 => intro w; go_simp <;> with_reducible rfl
                  simp only [Act.put, List.setIfInBounds_toArray, List.set_cons_zero, List.set_cons_succ]
                  refine' GoT.move (i := 1) (oi := ⟨some 76, _, _, _, _, _⟩) (v := _) rfl (by kernel_rfl) (by kernel_rfl) (by kernel_rfl) (fun _ _ _ h => h) (Or.inl ⟨by rfl, ?yh4n14_1⟩) ?rh4n14_1
                  case yh4n14_1 => intro w; go_simp <;> with_reducible rfl
                  simp only [Act.put, List.setIfInBounds_toArray, List.set_cons_zero, List.set_cons_succ]
                  refine' GoT.move (i := 2) (oi := ⟨some 77, _, _, _, _, _⟩) (v := _) rfl (by kernel_rfl) (by kernel_rfl) (by kernel_rfl) (fun _ _ _ h => h) (Or.inl ⟨by rfl, ?yh4n14_2⟩) ?rh4n14_2
                  case yh4n14_2 => intro w; go_simp <;> with_reducible rfl
                  simp only [Act.put, List.setIfInBounds_toArray, List.set_cons_zero, List.set_cons_succ]
                  refine' GoT.move (i := 3) (oi := ⟨some 78, _, _, _, _, _⟩) (v := _) rfl (by kernel_rfl) (by kernel_rfl) (by kernel_rfl) (fun _ _ _ h => h) (Or.inl ⟨by rfl, ?yh4n14_3⟩) ?rh4n14_3
                  case yh4n14_3 => intro w; go_simp <;> with_reducible rfl
                  simp only [Act.put, List.setIfInBounds_toArray, List.set_cons_zero, List.set_cons_succ]
                  refine' GoT.take 2 (i := 4) (oi := ⟨some 79, _, _, _, _, _⟩) (v := _) rfl (by kernel_rfl) (by kernel_rfl) (by kernel_rfl) (by kernel_rfl) (fun _ _ _ h => h) (Or.inl ⟨by rfl, ?yh4n14_4⟩) (by assumption) ?rh4n14_4
                  case yh4n14_4 => intro w hSw; go_simp <;> with_reducible rfl
                  simp only [Act.put, List.setIfInBounds_toArray, List.set_cons_zero, List.set_cons_succ]
                  refine' GoT.move (i := 5) (oi := ⟨some 80, _, _, _, _, _⟩) (v := _) rfl (by kernel_rfl) (by kernel_rfl) (by kernel_rfl) (fun _ _ _ h => h) (Or.inl ⟨by rfl, ?yh4n14_5⟩) ?rh4n14_5
                  case yh4n14_5 => intro w; go_simp <;> with_reducible rfl
                  simp only [Act.put, List.setIfInBounds_toArray, List.set_cons_zero, List.set_cons_succ]
                  refine' GoT.move (i := 6) (oi := ⟨some 81, _, _, _, _, _⟩) (v := _) rfl (by kernel_rfl) (by kernel_rfl) (by kernel_rfl) (fun _ _ _ h => h) (Or.inl ⟨by rfl, ?yh4n14_6⟩) ?rh4n14_6
                  case yh4n14_6 => intro w; go_simp <;> with_reducible rfl
                  simp only [Act.put, List.setIfInBounds_toArray, List.set_cons_zero, List.set_cons_succ]
                  refine' GoT.move (i := 7) (oi := ⟨some 82, _, _, _, _, _⟩) (v := _) rfl (by kernel_rfl) (by kernel_rfl) (by kernel_rfl) (fun _ _ _ h => h) (Or.inl ⟨by rfl, ?yh4n14_7⟩) ?rh4n14_7
                  case yh4n14_7 => intro w; go_simp <;> with_reducible rfl
                  simp only [Act.put, List.setIfInBounds_toArray, List.set_cons_zero, List.set_cons_succ]
                  refine' GoT.move (i := 8) (oi := ⟨some 83, _, _, _, _, _⟩) (v := _) rfl (by kernel_rfl) (by kernel_rfl) (by kernel_rfl) (fun _ _ _ h => h) (Or.inl ⟨by rfl, ?yh4n14_8⟩) ?rh4n14_8
                  case yh4n14_8 => intro w; go_simp <;> with_reducible rfl
                  simp only [Act.put, List.setIfInBounds_toArray, List.set_cons_zero, List.set_cons_succ]
                  refine' GoT.take 2 (i := 9) (oi := ⟨some 84, _, _, _, _, _⟩) (v := _) rfl (by kernel_rfl) (by kernel_rfl) (by kernel_rfl) (by kernel_rfl) (fun _ _ _ h => h) (Or.inl ⟨by rfl, ?yh4n14_9⟩) (by assumption) ?rh4n14_9
                  case yh4n14_9 => intro w hSw; go_simp <;> with_reducible rfl
                  simp only [Act.put, List.setIfInBounds_toArray, List.set_cons_zero, List.set_cons_succ]
                  -- 10: Go.Op.call { callee := Go.Callee.value (Go.Operand.func 49), args := #[Go.Operand.tmp 79, Go.Operand.tmp 84], argTypes := #[2, 2] }
                  refine GoT.one (i := 10) (o := ⟨some 85, _, _, _, _, _⟩) rfl (by kernel_rfl) fun K hK => ?_
                  go_simp
                  go_at_call 49
                  (with_reducible refine (HDX.out _).mono ?_)
                  rintro e w' ⟨rfl, rfl⟩
                  refine hK.out _ _ (fun h => (by cases h)) ?_
                  clear hK K
                  try simp only [Act.put, List.setIfInBounds_toArray, List.set_cons_zero, List.set_cons_succ]
                  -- 11: Go.Op.call { callee := Go.Callee.value (Go.Operand.tmp 75), args := #[Go.Operand.tmp 85], argTypes := #[40] }
                  refine GoT.one (i := 11) (o := ⟨some 86, _, _, _, _, _⟩) rfl (by kernel_rfl) fun K hK => ?_
                  go_simp
                  go_at_call 75
                  (with_reducible refine (HMH0.out _ HSW.out).mono ?_)
                  rintro e w7h ⟨rfl, hs7, hu7⟩
                  refine hK.out _ _ (fun h => (by cases h)) ?_
                  clear hK K
                  try simp only [Act.put, List.setIfInBounds_toArray, List.set_cons_zero, List.set_cons_succ]
                  have HSW := Lib.hid hs7
                  have HUW := Lib.hid (HUW.out.trans hu7)
                  clear hs7 hu7
                  refine GoT.done (by kernel_rfl) ?_
                  skip

                  clear wk wt kn tn kp tp
                  go_wp2_with fail
                  go_roundg (m - (t + 1))
                  case measure => have := HT.out; have := HLT2.out; omega
                  case rel => exact ⟨t + 1, by have := HT.out; have := HLT2.out; omega, by go_num, by rw [HTOT.out]; exact HSW.out, HUW.out⟩
                · have dH : (k : Int) + 1 < (X.length : Int) := by omega
                  have eH : sideH l X Y k t = 0 := by unfold sideH; rw [if_neg (by rw [ha2, hb, bne, hxH]; simp)]
                  have htot : rimK l X Y k + rimC l X Y k (t + 1) = N := by rw [rimC_succ, eV, eH]; omega
                  have HTOT := Lib.hid htot
                  clear htot eV eH hbd ha1 hb ha2 hVd hHd hNN hX1 hY1 hx0 hx1 hy0 hy1 x64 x64' y64 y64' hdV hdH
                  go_wp2_with fail
                  (with_reducible refine (HV1.out _ HUW.out).mono ?_)
                  rintro e w3a ⟨rfl, hu3a⟩
                  have HSW := Lib.hid (HSW.out.upd0 hu3a)
                  have HUW := Lib.hid (HUW.out.trans (hu3a.mono (by simp)))
                  clear hu3a
                  go_wp2_with fail
                  (with_reducible refine (HV2.out _ HUW.out).mono ?_)
                  rintro e w4a ⟨rfl, hu4a⟩
                  have HSW := Lib.hid (HSW.out.upd0 hu4a)
                  have HUW := Lib.hid (HUW.out.trans (hu4a.mono (by simp)))
                  clear hu4a
                  go_wp2_with fail
                  (with_reducible refine (HH1.out _ HUW.out).mono ?_)
                  rintro e w5a ⟨rfl, hu5a⟩
                  have HSW := Lib.hid (HSW.out.upd0 hu5a)
                  have HUW := Lib.hid (HUW.out.trans (hu5a.mono (by simp)))
                  clear hu5a
                  go_wp2_with fail
                  (with_reducible refine (HH2.out _ HUW.out).mono ?_)
                  rintro e w6a ⟨rfl, hu6a⟩
                  have HSW := Lib.hid (HSW.out.upd0 hu6a)
                  have HUW := Lib.hid (HUW.out.trans (hu6a.mono (by simp)))
                  clear hu6a
                  go_wp2_with fail
                  go_roundg (m - (t + 1))
                  case measure => have := HT.out; have := HLT2.out; omega
                  case rel => exact ⟨t + 1, by have := HT.out; have := HLT2.out; omega, by go_num, by rw [HTOT.out]; exact HSW.out, HUW.out⟩
              · have dH : decide ((k : Int) + 1 < (X.length : Int)) = false := decide_eq_false (by omega)
                have eH : sideH l X Y k t = 0 := by unfold sideH; rw [if_neg (by omega)]
                have htot : rimK l X Y k + rimC l X Y k (t + 1) = N := by rw [rimC_succ, eV, eH]; omega
                have HTOT := Lib.hid htot
                clear htot eV eH hbd ha1 hb ha2 hVd hHd hNN hX1 hY1 hx0 hx1 hy0 hy1 x64 x64' y64 y64' hdV hdH
                go_wp2_with fail
                (with_reducible refine (HV1.out _ HUW.out).mono ?_)
                rintro e w3a ⟨rfl, hu3a⟩
                have HSW := Lib.hid (HSW.out.upd0 hu3a)
                have HUW := Lib.hid (HUW.out.trans (hu3a.mono (by simp)))
                clear hu3a
                go_wp2_with fail
                (with_reducible refine (HV2.out _ HUW.out).mono ?_)
                rintro e w4a ⟨rfl, hu4a⟩
                have HSW := Lib.hid (HSW.out.upd0 hu4a)
                have HUW := Lib.hid (HUW.out.trans (hu4a.mono (by simp)))
                clear hu4a
                go_wp2_with fail
                go_roundg (m - (t + 1))
                case measure => have := HT.out; have := HLT2.out; omega
                case rel => exact ⟨t + 1, by have := HT.out; have := HLT2.out; omega, by go_num, by rw [HTOT.out]; exact HSW.out, HUW.out⟩
          · have dV : decide ((t : Int) + 1 < (Y.length : Int)) = false := decide_eq_false (by omega)
            have eV : sideV l X Y k t = 0 := by unfold sideV; rw [if_neg (by omega)]
            by_cases hdH : k + 1 < X.length
            · obtain ⟨xH, hxH⟩ : ∃ x, (a2 == b) = x := ⟨_, rfl⟩
              cases xH
              · have dH : (k : Int) + 1 < (X.length : Int) := by omega
                have eH : sideH l X Y k t = M := by unfold sideH; rw [if_pos ⟨hdH, by rw [ha2, hb, bne, hxH]; rfl⟩, hHd]
                have htot : rimK l X Y k + rimC l X Y k (t + 1) = N + M := by rw [rimC_succ, eV, eH]; omega
                have HTOT := Lib.hid htot
                have HMH0 := Lib.hid (fun w hs => moreFn p N M w (by rw [← hHd]; omega) hs (hbd.mono (by rw [rimC_succ, eV, eH]; omega)))
                have hX2 := nth_get (l := X) (i := k + 1) hdH
                obtain ⟨gx, ox, hAx, -, -, cx0⟩ := KL.at HSX.out.1 hX1
                obtain ⟨gx2, ox2, hAx2, -, -, cx1⟩ := KL.at HSX.out.1 hX2
                subst hAx
                cases hAx2
                rw [hx0] at cx0
                rw [hx1] at cx1
                have HCX := Lib.hid (And.intro cx0 cx1)
                have hdfx := fun w => diffC x0 x1 w x64 x64'
                rw [show diffN x0 x1 = (M : Int) by have := rise_step HXR.out.1 hX1 hX2; rw [hx0, hx1] at this; unfold diffN; rw [if_neg (by omega)]; omega] at hdfx
                have HDX := Lib.hid hdfx
                clear cx0 cx1 hdfx hX2
                clear htot eV eH hbd ha1 hb ha2 hVd hHd hNN hX1 hY1 hx0 hx1 hy0 hy1 x64 x64' y64 y64' hdV hdH
                go_wp2_with fail
                (with_reducible refine (HH1.out _ HUW.out).mono ?_)
                rintro e w5a ⟨rfl, hu5a⟩
                have HSW := Lib.hid (HSW.out.upd0 hu5a)
                have HUW := Lib.hid (HUW.out.trans (hu5a.mono (by simp)))
                clear hu5a
                go_wp2_with fail
                (with_reducible refine (HH2.out _ HUW.out).mono ?_)
                rintro e w6a ⟨rfl, hu6a⟩
                have HSW := Lib.hid (HSW.out.upd0 hu6a)
                have HUW := Lib.hid (HUW.out.trans (hu6a.mono (by simp)))
                clear hu6a
                go_wp2_with fail
                have kp : (0 : Int) ≤ (k : Int) + 1 := by omega
                have tp : (0 : Int) ≤ (t : Int) + 1 := by omega
                have kn : ((k : Int) + 1).toNat = k + 1 := by omega
                have tn : ((t : Int) + 1).toNat = t + 1 := by omega
                have wk : IntKind.i64.wrap ((k : Int) + 1) = (k : Int) + 1 := IntWalk.i64_in _ ⟨by omega, by omega⟩
                have wt : IntKind.i64.wrap ((t : Int) + 1) = (t : Int) + 1 := IntWalk.i64_in _ ⟨by omega, by omega⟩
                have HSW := Lib.hid (show SumAt w6a.drew p N from HSW.out)
                have HUW := Lib.hid (show Upd [p] Wb w6a.drew from HUW.out.drew)
                -- region 14: T waits for all loads; fuel 2
                refine GoT.start [10, 11] (fun w' => w'.cell? ⟨gx, ox + k, none⟩ = some (.int .i64 x0) ∧ w'.cell? ⟨gx, ox + (k + 1), none⟩ = some (.int .i64 x1)) (by kernel_rfl) ?_ fun hS => ?_
                · exact (show _ from keep2 HCX.out (show Upd [] W1 _ from HT1.out _ HUW.out))
                refine' GoT.move (i := 0) (oi := ⟨some 75, _, _, _, _, _⟩) (v := _) rfl (by kernel_rfl) (by kernel_rfl) (by kernel_rfl) (fun _ _ _ h => h) (Or.inl ⟨by rfl, ?yh7n14_0⟩) ?rh7n14_0
                case yh7n14_0 => intro w; go_simp <;> with_reducible rfl
                simp only [Act.put, List.setIfInBounds_toArray, List.set_cons_zero, List.set_cons_succ]
                refine' GoT.move (i := 1) (oi := ⟨some 76, _, _, _, _, _⟩) (v := _) rfl (by kernel_rfl) (by kernel_rfl) (by kernel_rfl) (fun _ _ _ h => h) (Or.inl ⟨by rfl, ?yh7n14_1⟩) ?rh7n14_1
                case yh7n14_1 => intro w; go_simp <;> with_reducible rfl
                simp only [Act.put, List.setIfInBounds_toArray, List.set_cons_zero, List.set_cons_succ]
                refine' GoT.move (i := 2) (oi := ⟨some 77, _, _, _, _, _⟩) (v := _) rfl (by kernel_rfl) (by kernel_rfl) (by kernel_rfl) (fun _ _ _ h => h) (Or.inl ⟨by rfl, ?yh7n14_2⟩) ?rh7n14_2
                case yh7n14_2 => intro w; go_simp <;> with_reducible rfl
                simp only [Act.put, List.setIfInBounds_toArray, List.set_cons_zero, List.set_cons_succ]
                refine' GoT.move (i := 3) (oi := ⟨some 78, _, _, _, _, _⟩) (v := _) rfl (by kernel_rfl) (by kernel_rfl) (by kernel_rfl) (fun _ _ _ h => h) (Or.inl ⟨by rfl, ?yh7n14_3⟩) ?rh7n14_3
                case yh7n14_3 => intro w; go_simp <;> with_reducible rfl
                simp only [Act.put, List.setIfInBounds_toArray, List.set_cons_zero, List.set_cons_succ]
                refine' GoT.take 2 (i := 4) (oi := ⟨some 79, _, _, _, _, _⟩) (v := _) rfl (by kernel_rfl) (by kernel_rfl) (by kernel_rfl) (by kernel_rfl) (fun _ _ _ h => h) (Or.inl ⟨by rfl, ?yh7n14_4⟩) (by assumption) ?rh7n14_4
                case yh7n14_4 => intro w hSw; go_simp <;> with_reducible rfl
                simp only [Act.put, List.setIfInBounds_toArray, List.set_cons_zero, List.set_cons_succ]
                refine' GoT.move (i := 5) (oi := ⟨some 80, _, _, _, _, _⟩) (v := _) rfl (by kernel_rfl) (by kernel_rfl) (by kernel_rfl) (fun _ _ _ h => h) (Or.inl ⟨by rfl, ?yh7n14_5⟩) ?rh7n14_5
                case yh7n14_5 => intro w; go_simp <;> with_reducible rfl
                simp only [Act.put, List.setIfInBounds_toArray, List.set_cons_zero, List.set_cons_succ]
                refine' GoT.move (i := 6) (oi := ⟨some 81, _, _, _, _, _⟩) (v := _) rfl (by kernel_rfl) (by kernel_rfl) (by kernel_rfl) (fun _ _ _ h => h) (Or.inl ⟨by rfl, ?yh7n14_6⟩) ?rh7n14_6
                case yh7n14_6 => intro w; go_simp <;> with_reducible rfl
                simp only [Act.put, List.setIfInBounds_toArray, List.set_cons_zero, List.set_cons_succ]
                refine' GoT.move (i := 7) (oi := ⟨some 82, _, _, _, _, _⟩) (v := _) rfl (by kernel_rfl) (by kernel_rfl) (by kernel_rfl) (fun _ _ _ h => h) (Or.inl ⟨by rfl, ?yh7n14_7⟩) ?rh7n14_7
                case yh7n14_7 => intro w; go_simp <;> with_reducible rfl
                simp only [Act.put, List.setIfInBounds_toArray, List.set_cons_zero, List.set_cons_succ]
                refine' GoT.move (i := 8) (oi := ⟨some 83, _, _, _, _, _⟩) (v := _) rfl (by kernel_rfl) (by kernel_rfl) (by kernel_rfl) (fun _ _ _ h => h) (Or.inl ⟨by rfl, ?yh7n14_8⟩) ?rh7n14_8
                case yh7n14_8 => intro w; go_simp <;> with_reducible rfl
                simp only [Act.put, List.setIfInBounds_toArray, List.set_cons_zero, List.set_cons_succ]
                refine' GoT.take 2 (i := 9) (oi := ⟨some 84, _, _, _, _, _⟩) (v := _) rfl (by kernel_rfl) (by kernel_rfl) (by kernel_rfl) (by kernel_rfl) (fun _ _ _ h => h) (Or.inl ⟨by rfl, ?yh7n14_9⟩) (by assumption) ?rh7n14_9
                case yh7n14_9 => intro w hSw; go_simp <;> with_reducible rfl
                simp only [Act.put, List.setIfInBounds_toArray, List.set_cons_zero, List.set_cons_succ]
                -- 10: Go.Op.call { callee := Go.Callee.value (Go.Operand.func 49), args := #[Go.Operand.tmp 79, Go.Operand.tmp 84], argTypes := #[2, 2] }
                refine GoT.one (i := 10) (o := ⟨some 85, _, _, _, _, _⟩) rfl (by kernel_rfl) fun K hK => ?_
                go_simp
                go_at_call 49
                (with_reducible refine (HDX.out _).mono ?_)
                rintro e w' ⟨rfl, rfl⟩
                refine hK.out _ _ (fun h => (by cases h)) ?_
                clear hK K
                try simp only [Act.put, List.setIfInBounds_toArray, List.set_cons_zero, List.set_cons_succ]
                -- 11: Go.Op.call { callee := Go.Callee.value (Go.Operand.tmp 75), args := #[Go.Operand.tmp 85], argTypes := #[40] }
                refine GoT.one (i := 11) (o := ⟨some 86, _, _, _, _, _⟩) rfl (by kernel_rfl) fun K hK => ?_
                go_simp
                go_at_call 75
                (with_reducible refine (HMH0.out _ HSW.out).mono ?_)
                rintro e w7h ⟨rfl, hs7, hu7⟩
                refine hK.out _ _ (fun h => (by cases h)) ?_
                clear hK K
                try simp only [Act.put, List.setIfInBounds_toArray, List.set_cons_zero, List.set_cons_succ]
                have HSW := Lib.hid hs7
                have HUW := Lib.hid (HUW.out.trans hu7)
                clear hs7 hu7
                refine GoT.done (by kernel_rfl) ?_
                skip

                clear wk wt kn tn kp tp
                go_wp2_with fail
                go_roundg (m - (t + 1))
                case measure => have := HT.out; have := HLT2.out; omega
                case rel => exact ⟨t + 1, by have := HT.out; have := HLT2.out; omega, by go_num, by rw [HTOT.out]; exact HSW.out, HUW.out⟩
              · have dH : (k : Int) + 1 < (X.length : Int) := by omega
                have eH : sideH l X Y k t = 0 := by unfold sideH; rw [if_neg (by rw [ha2, hb, bne, hxH]; simp)]
                have htot : rimK l X Y k + rimC l X Y k (t + 1) = N := by rw [rimC_succ, eV, eH]; omega
                have HTOT := Lib.hid htot
                clear htot eV eH hbd ha1 hb ha2 hVd hHd hNN hX1 hY1 hx0 hx1 hy0 hy1 x64 x64' y64 y64' hdV hdH
                go_wp2_with fail
                (with_reducible refine (HH1.out _ HUW.out).mono ?_)
                rintro e w5a ⟨rfl, hu5a⟩
                have HSW := Lib.hid (HSW.out.upd0 hu5a)
                have HUW := Lib.hid (HUW.out.trans (hu5a.mono (by simp)))
                clear hu5a
                go_wp2_with fail
                (with_reducible refine (HH2.out _ HUW.out).mono ?_)
                rintro e w6a ⟨rfl, hu6a⟩
                have HSW := Lib.hid (HSW.out.upd0 hu6a)
                have HUW := Lib.hid (HUW.out.trans (hu6a.mono (by simp)))
                clear hu6a
                go_wp2_with fail
                go_roundg (m - (t + 1))
                case measure => have := HT.out; have := HLT2.out; omega
                case rel => exact ⟨t + 1, by have := HT.out; have := HLT2.out; omega, by go_num, by rw [HTOT.out]; exact HSW.out, HUW.out⟩
            · have dH : decide ((k : Int) + 1 < (X.length : Int)) = false := decide_eq_false (by omega)
              have eH : sideH l X Y k t = 0 := by unfold sideH; rw [if_neg (by omega)]
              have htot : rimK l X Y k + rimC l X Y k (t + 1) = N := by rw [rimC_succ, eV, eH]; omega
              have HTOT := Lib.hid htot
              clear htot eV eH hbd ha1 hb ha2 hVd hHd hNN hX1 hY1 hx0 hx1 hy0 hy1 x64 x64' y64 y64' hdV hdH
              go_wp2_with fail
              go_roundg (m - (t + 1))
              case measure => have := HT.out; have := HLT2.out; omega
              case rel => exact ⟨t + 1, by have := HT.out; have := HLT2.out; omega, by go_num, by rw [HTOT.out]; exact HSW.out, HUW.out⟩
        · have htm : t = m := by omega
          have e : rimK l X Y k + rimC l X Y k t = rimK l X Y (k + 1) := by rw [rimK_succ, htm, HN.out.2]
          rw [e] at hsum
          have HSUM := Lib.hid hsum
          have HU := Lib.hid hu
          have hnl : ¬ t < Y.length := by have := HN.out.2; omega
          clear hsum hu e htm ht
          go_wp2_with fail
          go_roundg (n - (k + 1))
          case measure => have := HK.out; have := HLT.out; omega
          case rel => exact ⟨k + 1, by have := HK.out; have := HLT.out; omega, by go_num, HSUM.out, HU.out⟩
    · have hkn : k = X.length := by have := HN.out.1; omega
      subst hkn
      obtain ⟨s0, s1, -⟩ := hsum.cells
      have hu1 := HT1.out _ hu
      have h2 := (hu1.block w.heap.size (lt_of_block HW1.out.2) (by simp)).trans HW1.out.2
      have r0 : wr.cell? ⟨w.heap.size, 0, none⟩ = some (.int .u64 0) := by simp [World.cell?, h2]
      have r1 : wr.cell? ⟨w.heap.size, 1, none⟩ = some (.int .u64 0) := by simp [World.cell?, h2]
      have f0 : wr.frozen? ⟨w.heap.size, 0, none⟩ = false := by simp [World.frozen?, h2]
      have f1 : wr.frozen? ⟨w.heap.size, 1, none⟩ = false := by simp [World.frozen?, h2]
      obtain ⟨h, hh⟩ : ∃ h, rimK l X Y X.length / 18446744073709551616 = h := ⟨_, rfl⟩
      obtain ⟨lo, hlo⟩ : ∃ lo, rimK l X Y X.length % 18446744073709551616 = lo := ⟨_, rfl⟩
      have hv : wideV (rimK l X Y X.length) = .agg #[.int .u64 (h : Int), .int .u64 (lo : Int)] := by unfold wideV; rw [hh, hlo]
      have hz : SumAt wr w.heap.size 0 := h2
      have hfin := hz.set hh.symm hlo.symm
      rw [hh] at s0
      rw [hlo] at s1
      have HFIN := Lib.hid hfin
      have HV := Lib.hid hv
      have HHL := Lib.hid (And.intro hh hlo)
      have HU := Lib.hid (show Upd [] w ((wr.setCell ⟨w.heap.size, 0, none⟩ (.int .u64 (h : Int))).setCell ⟨w.heap.size, 1, none⟩ (.int .u64 (lo : Int))) from (((HW1.out.1.trans hu1).setCell (.inr (Nat.le_refl _)) _).setCell (.inr (Nat.le_refl _)) _))
      have hnl : ¬ X.length < X.length := by omega
      clear hh hlo h2 hsum hu hu1 hk hv hz hfin hlt
      go_wp2_with fail
      obtain ⟨e0, e1, -⟩ := HFIN.out.cells
      rw [HHL.out.1] at e0
      rw [HHL.out.2] at e1
      exact bodyPost_ret (v := .agg #[.int .u64 (h : Int), .int .u64 (lo : Int)]) (by simp [results, Try.results41, go_sem, e0, e1]) rfl ⟨by rw [HV.out], HU.out⟩
end Go.Proofs.Ythkiljfjjnckaaa

