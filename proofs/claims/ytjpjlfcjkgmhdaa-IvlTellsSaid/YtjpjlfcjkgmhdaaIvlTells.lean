/- gridironlaw09.IvlTells: the walk. Printed by mkivltells.py. -/
import Derived.Test.YtjpjlfcjkgmhdaaIvlW
import Derived.Test.YtjpjlfcjkgmhdaaRefM9
import Derived.Test.YtjpjlfcjkgmhdaaRegT
namespace Go.Proofs.Ytjpjlfcjkgmhdaa
open Go.RowKit


set_option maxRecDepth 100000 in
set_option maxHeartbeats 16000000 in
theorem askedV {w : World} {b : Nat} {F : List Nat} {N : Nat} {S : List Sp} (h : IsIvl w b F S N) (v v2 : Value) (lx : List Int) (hs : See KSp w v S) (hx : See KL w v2 lx) (hl : lx.length < 1000000) :
    Calls Try.prog 16 #[.pointer (some ⟨b, 0, none⟩), v, v2] w fun e w' => e = .returned (.bool true) ∧ Upd [] w w' := by
  obtain ⟨A, C, rfl⟩ := hs.form
  obtain ⟨A2, C2, rfl⟩ := hx.form
  obtain ⟨n, hn⟩ : ∃ n, S.length = n := ⟨_, rfl⟩
  obtain ⟨M, hM⟩ : ∃ n, lx.length = n := ⟨_, rfl⟩
  have hmany := h.many
  have hfew := h.few
  have hlen := fun w' (hu : Upd [] w w') => vLen (h.upd0 hu)
  simp only [hn] at hlen
  have hx' : See KL w (.slice A2 M C2) lx := by rw [← hM]; exact hx
  have hs' : ∀ w', Upd [] w w' → See KSp w' (.slice A n C) S := fun w' hu => by have := hs.upd0 hu; rw [hn] at this; exact this
  have hn1 : n ≤ 1000 := by omega
  rw [hn, hM]
  rw [hM] at hl
  have H := Lib.hid h
  have HS := Lib.hid hs'
  have HX := Lib.hid hx'
  have HL := Lib.hid hlen
  have HN := Lib.hid (And.intro hn hM)
  have m0 : (0 : Int) ≤ (M : Int) := Int.natCast_nonneg _
  have hnn : ((n : Int) == (n : Int)) = true := by simp
  clear h hs hx hx' hs' hlen hn hM hmany hfew
  go_enter Try.func16, Try.ntmps16
  go_wp2_with fail
  go_loopg [13] M (fun m s13 wr => ∃ k : Nat, m + k = M ∧ s13 = .int .i64 (k : Int) ∧ Upd [] w wr)
  case atStart => exact ⟨0, rfl, rfl, Upd.refl _ _⟩
  case round =>
    obtain ⟨k, hk, rfl, hup⟩ := hrel
    have k0 : (0 : Int) ≤ (k : Int) := Int.natCast_nonneg _
    have hkM : k ≤ M := by omega
    have HK := Lib.hid (And.intro hk hup)
    by_cases hlt : k < M
    · obtain ⟨x, hx⟩ : ∃ x, lx[k]? = some x := ⟨_, List.getElem?_eq_getElem (by rw [HN.out.2]; exact hlt)⟩
      obtain ⟨g, o, rfl, -, -, ex⟩ := KL.at (HX.out.upd0 hup) hx
      have hst := vStab (H.out.upd0 hup) x
      have hsl := stabL_len S x
      rw [HN.out.1] at hsl
      have HIN := Lib.hid (And.intro hup hk)
      obtain ⟨L, hL⟩ : ∃ L, stabL S x = L := ⟨_, rfl⟩
      rw [hL] at hst hsl
      have HST := Lib.hid hst
      have b1 : (k : Int) < (M : Int) := by omega
      have HLL := Lib.hid (And.intro hL hsl)
      obtain ⟨x0, hx0⟩ : ∃ x, lx[0]? = some x := ⟨_, List.getElem?_eq_getElem (by rw [HN.out.2]; omega)⟩
      obtain ⟨hf, hhf⟩ : ∃ hf, k / 2 = hf := ⟨_, rfl⟩
      obtain ⟨y, hy⟩ : ∃ x, lx[hf]? = some x := ⟨_, List.getElem?_eq_getElem (by rw [HN.out.2]; omega)⟩
      obtain ⟨g2, o2, hA2, -, -, ex0⟩ := KL.at (HX.out.upd0 hup) hx0
      injection hA2 with hA2
      injection hA2 with hA2 hA3
      subst hA2 hA3
      obtain ⟨g2, o2, hA2, -, -, eyh⟩ := KL.at (HX.out.upd0 hup) hy
      injection hA2 with hA2
      injection hA2 with hA2 hA3
      subst hA2 hA3
      rw [Nat.add_zero] at ex0
      have hq : (k : Int).tdiv 2 = (hf : Int) := by rw [← hhf]; rfl
      have hq2 : (k : Int) / 2 = (hf : Int) := by omega
      have h0 : (0 : Int) ≤ (hf : Int) := Int.natCast_nonneg _
      have h1 : (hf : Int) < (M : Int) := by omega
      have hM0 : 0 < M := by omega
      have hqw : IntKind.i64.wrap (hf : Int) = (hf : Int) := by rw [IntKind.wrap_i64]; omega
      have hm1 := fun w' (hu : Upd [] wr w') => refMeet (.slice A n C) S x0 x w' (HS.out w' (hup.trans hu)) (by rw [HN.out.1]; omega)
      have hm2 := fun w' (hu : Upd [] wr w') => refMeet (.slice A n C) S x y w' (HS.out w' (hup.trans hu)) (by rw [HN.out.1]; omega)
      have hst2 := fun w' (hu : Upd [] wr w') => refStab (.slice A n C) S x w' (HS.out w' (hup.trans hu)) (by rw [HN.out.1]; omega)
      have hb1 := fun w' (hu : Upd [] wr w') (v : Value) (hv : See KU w' v (meetL S x0 x)) => meetsV (.inr ⟨b, rfl, (H.out.upd0 hup).upd0 hu⟩) x0 x v _ hv (by have := meetL_len S x0 x; rw [HN.out.1] at this; omega) (by rw [HN.out.1]; omega)
      have hb2 := fun w' (hu : Upd [] wr w') (v : Value) (hv : See KU w' v (meetL S x y)) => meetsV (.inr ⟨b, rfl, (H.out.upd0 hup).upd0 hu⟩) x y v _ hv (by have := meetL_len S x y; rw [HN.out.1] at this; omega) (by rw [HN.out.1]; omega)
      simp only [decide_true] at hb1 hb2
      rw [HLL.out.1] at hst2
      have hsm := fun va vb w' (h1 : See KU w' va L) (h2 : See KU w' vb L) => sameVC va vb L L w' h1 h2 (by have := HLL.out.2; omega) (by have := HLL.out.2; omega)
      simp only [decide_true] at hsm
      have HM1 := Lib.hid hm1
      have HM2 := Lib.hid hm2
      have HST2 := Lib.hid hst2
      have HB1 := Lib.hid hb1
      have HB2 := Lib.hid hb2
      have HSM := Lib.hid hsm
      clear hx hst hsl hL hk hup hx0 hhf hy hm1 hm2 hst2 hb1 hb2 hsm
      go_wp2_with fail
      (with_reducible refine HST.out.mono ?_)
      rintro e ws ⟨z, ⟨As, Cs, rfl, r1, r2⟩, -, -⟩
      have ex0 := (r2.cell (World.block_lt_of_cell? _ _ ex0) (by simp)).trans ex0
      have eyh := (r2.cell (World.block_lt_of_cell? _ _ eyh) (by simp)).trans eyh
      have HRA := Lib.hid (And.intro r1 r2)
      clear r1 r2 ex
      go_upto_region 5 with fail
      obtain ⟨Wd, hWd⟩ : ∃ Wd, Wd = ws.drew := ⟨_, rfl⟩
      have HD0 := Lib.hid (show Upd [] ws Wd by rw [hWd]; exact (Upd.refl _ _).drew)
      -- region 5: T waits for all loads; fuel 1
      refine GoT.start [] (fun w' => Upd [] ws w') (by kernel_rfl) ?_ fun hS => ?_
      · exact (Upd.refl [] ws).drew
      rw [← hWd] at hS ⊢
      clear hWd
      refine' GoT.move (i := 0) (oi := ⟨some 24, _, _, _, _, _⟩) (v := _) rfl (by kernel_rfl) (by kernel_rfl) (by kernel_rfl) (fun _ _ _ h => h) (Or.inl ⟨by rfl, ?y5_0⟩) ?r5_0
      case y5_0 => intro w; go_simp <;> with_reducible rfl
      simp only [Act.put, List.setIfInBounds_toArray, List.set_cons_zero, List.set_cons_succ]
      refine' GoT.move (i := 1) (oi := ⟨some 25, _, _, _, _, _⟩) (v := _) rfl (by kernel_rfl) (by kernel_rfl) (by kernel_rfl) (fun _ _ _ h => h) (Or.inl ⟨by rfl, ?y5_1⟩) ?r5_1
      case y5_1 => intro w; go_simp <;> with_reducible rfl
      simp only [Act.put, List.setIfInBounds_toArray, List.set_cons_zero, List.set_cons_succ]
      refine' GoT.move (i := 2) (oi := ⟨some 26, _, _, _, _, _⟩) (v := _) rfl (by kernel_rfl) (by kernel_rfl) (by kernel_rfl) (fun _ _ _ h => h) (Or.inl ⟨by rfl, ?y5_2⟩) ?r5_2
      case y5_2 => intro w; go_simp <;> with_reducible rfl
      simp only [Act.put, List.setIfInBounds_toArray, List.set_cons_zero, List.set_cons_succ]
      -- 3: Go.Op.call { callee := Go.Callee.value (Go.Operand.func 30), args := #[Go.Operand.tmp 25, Go.Operand.tmp 26], argTypes := #[22, 2] }
      refine GoT.one (i := 3) (o := ⟨some 27, _, _, _, _, _⟩) rfl (by kernel_rfl) fun K hK => ?_
      have HC := Lib.hid (HST2.out Wd (HRA.out.2.trans HD0.out))
      go_simp
      go_at_call 30
      (with_reducible refine HC.out.mono ?_)
      rintro e wa ⟨Aa, Ca, rfl, ra, ua⟩
      refine hK.out _ _ (fun _ h => h.trans ua) ?_
      have HWA := Lib.hid (And.intro ra (HD0.out.trans ua))
      clear ra ua
      clear hK K
      try simp only [Act.put, List.setIfInBounds_toArray, List.set_cons_zero, List.set_cons_succ]
      -- 4: Go.Op.call { callee := Go.Callee.value (Go.Operand.func 13), args := #[Go.Operand.tmp 24, Go.Operand.tmp 27], argTypes := #[29, 29] }
      refine GoT.one (i := 4) (o := ⟨some 28, _, _, _, _, _⟩) rfl (by kernel_rfl) fun K hK => ?_
      have HC := Lib.hid (HSM.out _ _ wa (See.of_row (own_upd HRA.out.1 HWA.out.2 (by simp))) (See.of_row HWA.out.1))
      go_simp
      go_at_call 13
      (with_reducible refine HC.out.mono ?_)
      rintro e wb ⟨rfl, ub⟩
      refine hK.out _ _ (fun _ h => h.trans ub) ?_
      have HWB := Lib.hid (HWA.out.2.trans ub)
      clear ub
      clear hK K
      try simp only [Act.put, List.setIfInBounds_toArray, List.set_cons_zero, List.set_cons_succ]
      refine' GoT.move (i := 5) (oi := ⟨some 29, _, _, _, _, _⟩) (v := _) rfl (by kernel_rfl) (by kernel_rfl) (by kernel_rfl) (fun _ _ _ h => h) (Or.inl ⟨by rfl, ?y5_5⟩) ?r5_5
      case y5_5 => intro w; go_simp <;> with_reducible rfl
      simp only [Act.put, List.setIfInBounds_toArray, List.set_cons_zero, List.set_cons_succ]
      refine' GoT.move (i := 6) (oi := ⟨some 30, _, _, _, _, _⟩) (v := _) rfl (by kernel_rfl) (by kernel_rfl) (by kernel_rfl) (fun _ _ _ h => h) (Or.inl ⟨by rfl, ?y5_6⟩) ?r5_6
      case y5_6 => intro w; go_simp <;> with_reducible rfl
      simp only [Act.put, List.setIfInBounds_toArray, List.set_cons_zero, List.set_cons_succ]
      refine' GoT.move (i := 7) (oi := ⟨some 31, _, _, _, _, _⟩) (v := _) rfl (by kernel_rfl) (by kernel_rfl) (by kernel_rfl) (fun _ _ _ h => h) (Or.inl ⟨by rfl, ?y5_7⟩) ?r5_7
      case y5_7 => intro w; go_simp <;> with_reducible rfl
      simp only [Act.put, List.setIfInBounds_toArray, List.set_cons_zero, List.set_cons_succ]
      refine' GoT.move (i := 8) (oi := ⟨some 32, _, _, _, _, _⟩) (v := _) rfl (by kernel_rfl) (by kernel_rfl) (by kernel_rfl) (fun _ _ _ h => h) (Or.inl ⟨by rfl, ?y5_8⟩) ?r5_8
      case y5_8 => intro w; go_simp <;> with_reducible rfl
      simp only [Act.put, List.setIfInBounds_toArray, List.set_cons_zero, List.set_cons_succ]
      refine' GoT.move (i := 9) (oi := ⟨some 33, _, _, _, _, _⟩) (v := _) rfl (by kernel_rfl) (by kernel_rfl) (by kernel_rfl) (fun _ _ _ h => h) (Or.inl ⟨by rfl, ?y5_9⟩) ?r5_9
      case y5_9 => intro w; go_simp <;> with_reducible rfl
      simp only [Act.put, List.setIfInBounds_toArray, List.set_cons_zero, List.set_cons_succ]
      refine' GoT.take 1 (i := 10) (oi := ⟨some 34, _, _, _, _, _⟩) (v := _) rfl (by kernel_rfl) (by kernel_rfl) (by kernel_rfl) (by kernel_rfl) (fun _ _ _ h => h) (Or.inl ⟨by rfl, ?y5_10⟩) (by assumption) ?r5_10
      case y5_10 => intro w hSw; have e0 := (hSw.cell (World.block_lt_of_cell? _ _ ex0) (by simp)).trans ex0; go_simp <;> with_reducible rfl
      simp only [Act.put, List.setIfInBounds_toArray, List.set_cons_zero, List.set_cons_succ]
      refine' GoT.move (i := 11) (oi := ⟨some 35, _, _, _, _, _⟩) (v := _) rfl (by kernel_rfl) (by kernel_rfl) (by kernel_rfl) (fun _ _ _ h => h) (Or.inl ⟨by rfl, ?y5_11⟩) ?r5_11
      case y5_11 => intro w; go_simp <;> with_reducible rfl
      simp only [Act.put, List.setIfInBounds_toArray, List.set_cons_zero, List.set_cons_succ]
      refine' GoT.move (i := 12) (oi := ⟨some 36, _, _, _, _, _⟩) (v := _) rfl (by kernel_rfl) (by kernel_rfl) (by kernel_rfl) (fun _ _ _ h => h) (Or.inl ⟨by rfl, ?y5_12⟩) ?r5_12
      case y5_12 => intro w; go_simp <;> with_reducible rfl
      simp only [Act.put, List.setIfInBounds_toArray, List.set_cons_zero, List.set_cons_succ]
      refine' GoT.move (i := 13) (oi := ⟨some 37, _, _, _, _, _⟩) (v := _) rfl (by kernel_rfl) (by kernel_rfl) (by kernel_rfl) (fun _ _ _ h => h) (Or.inl ⟨by rfl, ?y5_13⟩) ?r5_13
      case y5_13 => intro w; go_simp <;> with_reducible rfl
      simp only [Act.put, List.setIfInBounds_toArray, List.set_cons_zero, List.set_cons_succ]
      refine' GoT.move (i := 14) (oi := ⟨some 38, _, _, _, _, _⟩) (v := _) rfl (by kernel_rfl) (by kernel_rfl) (by kernel_rfl) (fun _ _ _ h => h) (Or.inl ⟨by rfl, ?y5_14⟩) ?r5_14
      case y5_14 => intro w; go_simp <;> with_reducible rfl
      simp only [Act.put, List.setIfInBounds_toArray, List.set_cons_zero, List.set_cons_succ]
      refine' GoT.take 1 (i := 15) (oi := ⟨some 39, _, _, _, _, _⟩) (v := _) rfl (by kernel_rfl) (by kernel_rfl) (by kernel_rfl) (by kernel_rfl) (fun _ _ _ h => h) (Or.inl ⟨by rfl, ?y5_15⟩) (by assumption) ?r5_15
      case y5_15 => intro w hSw; have e0 := (hSw.cell (World.block_lt_of_cell? _ _ ex0) (by simp)).trans ex0; go_simp <;> with_reducible rfl
      simp only [Act.put, List.setIfInBounds_toArray, List.set_cons_zero, List.set_cons_succ]
      refine' GoT.move (i := 16) (oi := ⟨some 40, _, _, _, _, _⟩) (v := _) rfl (by kernel_rfl) (by kernel_rfl) (by kernel_rfl) (fun _ _ _ h => h) (Or.inl ⟨by rfl, ?y5_16⟩) ?r5_16
      case y5_16 => intro w; go_simp <;> with_reducible rfl
      simp only [Act.put, List.setIfInBounds_toArray, List.set_cons_zero, List.set_cons_succ]
      -- 17: Go.Op.call { callee := Go.Callee.value (Go.Operand.func 31), args := #[Go.Operand.tmp 36, Go.Operand.tmp 39, Go.Operand.tmp 40], argTypes := #[22, 2, 
      refine GoT.one (i := 17) (o := ⟨some 41, _, _, _, _, _⟩) rfl (by kernel_rfl) fun K hK => ?_
      have HC := Lib.hid (HM1.out wb (HRA.out.2.trans HWB.out))
      go_simp
      go_at_call 31
      (with_reducible refine HC.out.mono ?_)
      rintro e wc ⟨Ac, Cc, rfl, rc, uc⟩
      refine hK.out _ _ (fun _ h => h.trans uc) ?_
      have HWC := Lib.hid (And.intro rc (HWB.out.trans uc))
      clear rc uc
      clear hK K
      try simp only [Act.put, List.setIfInBounds_toArray, List.set_cons_zero, List.set_cons_succ]
      -- 18: Go.Op.call { callee := Go.Callee.value (Go.Operand.func 20), args := #[Go.Operand.tmp 31, Go.Operand.tmp 34, Go.Operand.tmp 35, Go.Operand.tmp 41], ar
      refine GoT.one (i := 18) (o := ⟨some 42, _, _, _, _, _⟩) rfl (by kernel_rfl) fun K hK => ?_
      have HC := Lib.hid (HB1.out wc (HRA.out.2.trans HWC.out.2) _ (See.of_row HWC.out.1))
      go_simp
      go_at_call 20
      (with_reducible refine HC.out.mono ?_)
      rintro e wd ⟨rfl, ud⟩
      refine hK.out _ _ (fun _ h => h.trans ud) ?_
      have HWD := Lib.hid (HWC.out.2.trans ud)
      clear ud
      clear hK K
      try simp only [Act.put, List.setIfInBounds_toArray, List.set_cons_zero, List.set_cons_succ]
      refine' GoT.move (i := 19) (oi := ⟨some 43, _, _, _, _, _⟩) (v := _) rfl (by kernel_rfl) (by kernel_rfl) (by kernel_rfl) (fun _ _ _ h => h) (Or.inl ⟨by rfl, ?y5_19⟩) ?r5_19
      case y5_19 => intro w; go_simp <;> with_reducible rfl
      simp only [Act.put, List.setIfInBounds_toArray, List.set_cons_zero, List.set_cons_succ]
      refine' GoT.move (i := 20) (oi := ⟨some 44, _, _, _, _, _⟩) (v := _) rfl (by kernel_rfl) (by kernel_rfl) (by kernel_rfl) (fun _ _ _ h => h) (Or.inl ⟨by rfl, ?y5_20⟩) ?r5_20
      case y5_20 => intro w; go_simp <;> with_reducible rfl
      simp only [Act.put, List.setIfInBounds_toArray, List.set_cons_zero, List.set_cons_succ]
      refine' GoT.move (i := 21) (oi := ⟨some 45, _, _, _, _, _⟩) (v := _) rfl (by kernel_rfl) (by kernel_rfl) (by kernel_rfl) (fun _ _ _ h => h) (Or.inl ⟨by rfl, ?y5_21⟩) ?r5_21
      case y5_21 => intro w; go_simp <;> with_reducible rfl
      simp only [Act.put, List.setIfInBounds_toArray, List.set_cons_zero, List.set_cons_succ]
      refine' GoT.move (i := 22) (oi := ⟨some 46, _, _, _, _, _⟩) (v := _) rfl (by kernel_rfl) (by kernel_rfl) (by kernel_rfl) (fun _ _ _ h => h) (Or.inl ⟨by rfl, ?y5_22⟩) ?r5_22
      case y5_22 => intro w; go_simp <;> with_reducible rfl
      simp only [Act.put, List.setIfInBounds_toArray, List.set_cons_zero, List.set_cons_succ]
      refine' GoT.move (i := 23) (oi := ⟨some 47, _, _, _, _, _⟩) (v := _) rfl (by kernel_rfl) (by kernel_rfl) (by kernel_rfl) (fun _ _ _ h => h) (Or.inl ⟨by rfl, ?y5_23⟩) ?r5_23
      case y5_23 => intro w; go_simp <;> with_reducible rfl
      simp only [Act.put, List.setIfInBounds_toArray, List.set_cons_zero, List.set_cons_succ]
      refine' GoT.move (i := 24) (oi := ⟨some 48, _, _, _, _, _⟩) (v := _) rfl (by kernel_rfl) (by kernel_rfl) (by kernel_rfl) (fun _ _ _ h => h) (Or.inl ⟨by rfl, ?y5_24⟩) ?r5_24
      case y5_24 => intro w; go_simp <;> with_reducible rfl
      simp only [Act.put, List.setIfInBounds_toArray, List.set_cons_zero, List.set_cons_succ]
      refine' GoT.move (i := 25) (oi := ⟨some 49, _, _, _, _, _⟩) (v := _) rfl (by kernel_rfl) (by kernel_rfl) (by kernel_rfl) (fun _ _ _ h => h) (Or.inl ⟨by rfl, ?y5_25⟩) ?r5_25
      case y5_25 => intro w; go_simp <;> with_reducible rfl
      simp only [Act.put, List.setIfInBounds_toArray, List.set_cons_zero, List.set_cons_succ]
      refine' GoT.move (i := 26) (oi := ⟨some 50, _, _, _, _, _⟩) (v := _) rfl (by kernel_rfl) (by kernel_rfl) (by kernel_rfl) (fun _ _ _ h => h) (Or.inl ⟨by rfl, ?y5_26⟩) ?r5_26
      case y5_26 => intro w; go_simp <;> with_reducible rfl
      simp only [Act.put, List.setIfInBounds_toArray, List.set_cons_zero, List.set_cons_succ]
      refine' GoT.move (i := 27) (oi := ⟨some 51, _, _, _, _, _⟩) (v := _) rfl (by kernel_rfl) (by kernel_rfl) (by kernel_rfl) (fun _ _ _ h => h) (Or.inl ⟨by rfl, ?y5_27⟩) ?r5_27
      case y5_27 => intro w; go_simp <;> with_reducible rfl
      simp only [Act.put, List.setIfInBounds_toArray, List.set_cons_zero, List.set_cons_succ]
      refine' GoT.take 1 (i := 28) (oi := ⟨some 52, _, _, _, _, _⟩) (v := _) rfl (by kernel_rfl) (by kernel_rfl) (by kernel_rfl) (by kernel_rfl) (fun _ _ _ h => h) (Or.inl ⟨by rfl, ?y5_28⟩) (by assumption) ?r5_28
      case y5_28 => intro w hSw; have e0 := (hSw.cell (World.block_lt_of_cell? _ _ eyh) (by simp)).trans eyh; go_simp <;> with_reducible rfl
      simp only [Act.put, List.setIfInBounds_toArray, List.set_cons_zero, List.set_cons_succ]
      refine' GoT.move (i := 29) (oi := ⟨some 53, _, _, _, _, _⟩) (v := _) rfl (by kernel_rfl) (by kernel_rfl) (by kernel_rfl) (fun _ _ _ h => h) (Or.inl ⟨by rfl, ?y5_29⟩) ?r5_29
      case y5_29 => intro w; go_simp <;> with_reducible rfl
      simp only [Act.put, List.setIfInBounds_toArray, List.set_cons_zero, List.set_cons_succ]
      refine' GoT.move (i := 30) (oi := ⟨some 54, _, _, _, _, _⟩) (v := _) rfl (by kernel_rfl) (by kernel_rfl) (by kernel_rfl) (fun _ _ _ h => h) (Or.inl ⟨by rfl, ?y5_30⟩) ?r5_30
      case y5_30 => intro w; go_simp <;> with_reducible rfl
      simp only [Act.put, List.setIfInBounds_toArray, List.set_cons_zero, List.set_cons_succ]
      refine' GoT.move (i := 31) (oi := ⟨some 55, _, _, _, _, _⟩) (v := _) rfl (by kernel_rfl) (by kernel_rfl) (by kernel_rfl) (fun _ _ _ h => h) (Or.inl ⟨by rfl, ?y5_31⟩) ?r5_31
      case y5_31 => intro w; go_simp <;> with_reducible rfl
      simp only [Act.put, List.setIfInBounds_toArray, List.set_cons_zero, List.set_cons_succ]
      refine' GoT.move (i := 32) (oi := ⟨some 56, _, _, _, _, _⟩) (v := _) rfl (by kernel_rfl) (by kernel_rfl) (by kernel_rfl) (fun _ _ _ h => h) (Or.inl ⟨by rfl, ?y5_32⟩) ?r5_32
      case y5_32 => intro w; go_simp <;> with_reducible rfl
      simp only [Act.put, List.setIfInBounds_toArray, List.set_cons_zero, List.set_cons_succ]
      refine' GoT.move (i := 33) (oi := ⟨some 57, _, _, _, _, _⟩) (v := _) rfl (by kernel_rfl) (by kernel_rfl) (by kernel_rfl) (fun _ _ _ h => h) (Or.inl ⟨by rfl, ?y5_33⟩) ?r5_33
      case y5_33 => intro w; go_simp <;> with_reducible rfl
      simp only [Act.put, List.setIfInBounds_toArray, List.set_cons_zero, List.set_cons_succ]
      refine' GoT.move (i := 34) (oi := ⟨some 58, _, _, _, _, _⟩) (v := _) rfl (by kernel_rfl) (by kernel_rfl) (by kernel_rfl) (fun _ _ _ h => h) (Or.inl ⟨by rfl, ?y5_34⟩) ?r5_34
      case y5_34 => intro w; go_simp <;> with_reducible rfl
      simp only [Act.put, List.setIfInBounds_toArray, List.set_cons_zero, List.set_cons_succ]
      refine' GoT.take 1 (i := 35) (oi := ⟨some 59, _, _, _, _, _⟩) (v := _) rfl (by kernel_rfl) (by kernel_rfl) (by kernel_rfl) (by kernel_rfl) (fun _ _ _ h => h) (Or.inl ⟨by rfl, ?y5_35⟩) (by assumption) ?r5_35
      case y5_35 => intro w hSw; have e0 := (hSw.cell (World.block_lt_of_cell? _ _ eyh) (by simp)).trans eyh; go_simp <;> with_reducible rfl
      simp only [Act.put, List.setIfInBounds_toArray, List.set_cons_zero, List.set_cons_succ]
      -- 36: Go.Op.call { callee := Go.Callee.value (Go.Operand.func 31), args := #[Go.Operand.tmp 53, Go.Operand.tmp 54, Go.Operand.tmp 59], argTypes := #[22, 2, 
      refine GoT.one (i := 36) (o := ⟨some 60, _, _, _, _, _⟩) rfl (by kernel_rfl) fun K hK => ?_
      have HC := Lib.hid (HM2.out wd (HRA.out.2.trans HWD.out))
      go_simp
      go_at_call 31
      (with_reducible refine HC.out.mono ?_)
      rintro e we ⟨Ae, Ce, rfl, re, ue⟩
      refine hK.out _ _ (fun _ h => h.trans ue) ?_
      have HWE := Lib.hid (And.intro re (HWD.out.trans ue))
      clear re ue
      clear hK K
      try simp only [Act.put, List.setIfInBounds_toArray, List.set_cons_zero, List.set_cons_succ]
      -- 37: Go.Op.call { callee := Go.Callee.value (Go.Operand.func 20), args := #[Go.Operand.tmp 46, Go.Operand.tmp 47, Go.Operand.tmp 52, Go.Operand.tmp 60], ar
      refine GoT.one (i := 37) (o := ⟨some 61, _, _, _, _, _⟩) rfl (by kernel_rfl) fun K hK => ?_
      have HC := Lib.hid (HB2.out we (HRA.out.2.trans HWE.out.2) _ (See.of_row HWE.out.1))
      go_simp
      go_at_call 20
      (with_reducible refine HC.out.mono ?_)
      rintro e wf ⟨rfl, uf⟩
      refine hK.out _ _ (fun _ h => h.trans uf) ?_
      have HWF := Lib.hid (HWE.out.2.trans uf)
      clear uf
      clear hK K
      try simp only [Act.put, List.setIfInBounds_toArray, List.set_cons_zero, List.set_cons_succ]
      refine' GoT.move (i := 38) (oi := ⟨some 62, _, _, _, _, _⟩) (v := _) rfl (by kernel_rfl) (by kernel_rfl) (by kernel_rfl) (fun _ _ _ h => h) (Or.inl ⟨by rfl, ?y5_38⟩) ?r5_38
      case y5_38 => intro w; go_simp <;> with_reducible rfl
      simp only [Act.put, List.setIfInBounds_toArray, List.set_cons_zero, List.set_cons_succ]
      refine' GoT.move (i := 39) (oi := ⟨some 63, _, _, _, _, _⟩) (v := _) rfl (by kernel_rfl) (by kernel_rfl) (by kernel_rfl) (fun _ _ _ h => h) (Or.inl ⟨by rfl, ?y5_39⟩) ?r5_39
      case y5_39 => intro w; go_simp <;> with_reducible rfl
      simp only [Act.put, List.setIfInBounds_toArray, List.set_cons_zero, List.set_cons_succ]
      refine GoT.done (by kernel_rfl) ?_
      go_wp2_with fail
      go_roundg (M - (k + 1))
      case measure => have := HK.out.1; omega
      case rel => exact ⟨k + 1, by have := HK.out.1; omega, by go_num, HIN.out.1.trans (HRA.out.2.trans HWF.out)⟩
    · have HLE := Lib.hid (HL.out wr hup)
      clear hk hup
      go_wp2_with fail
      (with_reducible refine HLE.out.mono ?_)
      rintro e w1 ⟨rfl, rfl⟩
      go_wp2_with fail
      go_ret
      exact ⟨rfl, HK.out.2⟩

set_option maxRecDepth 100000 in
set_option maxHeartbeats 8000000 in
theorem ivlTells_walk (v v2 v3 : Value) (l : List Sp) (lx : List Int) (ld : List Sp) (w : World) (h : IsSps w v l) (hid : ∀ s ∈ l, s.in64) (hl : l.length ≤ maxLen) (h2 : See KL w v2 lx) (hl2 : lx.length ≤ maxLen) (h3 : IsSps w v3 ld) (hl3 : ld.length ≤ maxLen) :
    Calls Try.prog 5 #[v, v2, v3] w fun e w' => e = .returned (.bool true) ∧ Upd [] w w' := by
  obtain ⟨A, C, rfl⟩ := h.form
  obtain ⟨A2, C2, rfl⟩ := h2.form
  obtain ⟨Ad, Cd, rfl⟩ := h3.form
  obtain ⟨i1, hi1, hy0, hy1, hy2⟩ := info_parts infoSpanD
  obtain ⟨i0, hi0, hz0, hz1, hz2⟩ := info_parts info_int64
  obtain ⟨N, hN⟩ : ∃ N, l.length = N := ⟨_, rfl⟩
  obtain ⟨M, hM⟩ : ∃ N, lx.length = N := ⟨_, rfl⟩
  obtain ⟨D, hD⟩ : ∃ N, ld.length = N := ⟨_, rfl⟩
  rw [hN] at h hl ⊢
  rw [hM] at h2 hl2 ⊢
  rw [hD] at h3 hl3 ⊢
  unfold maxLen at hl hl2 hl3
  have n0 : (0 : Int) ≤ (N : Int) := Int.natCast_nonneg _
  have m0 : (0 : Int) ≤ (M : Int) := Int.natCast_nonneg _
  have d0 : (0 : Int) ≤ (D : Int) := Int.natCast_nonneg _
  have hid2 : ∀ s ∈ l, s.id < 4294967296 := fun s hs => (hid s hs).2.2
  by_cases hbig : 60 < N
  · have hb : decide ((60 : Int) < (N : Int)) = true := decide_eq_true (by omega)
    have HAW := Lib.hid (awake09 w)
    clear h h2 h3 hid hid2 hbig
    go_enter Try.func5, Try.ntmps5
    go_wp2_with fail
    (with_reducible refine HAW.out.mono ?_)
    rintro e w1 ⟨rfl, u1⟩
    go_wp2_with fail
    go_ret
    exact ⟨rfl, u1⟩
  · have hb : decide ((60 : Int) < (N : Int)) = false := decide_eq_false (by omega)
    have hN60 : N ≤ 60 := by omega
    obtain ⟨Q, hQ⟩ : ∃ Q : Nat, min M 14 = Q := ⟨_, rfl⟩
    have hQm : Value.int .i64 (min (M : Int) 14) = Value.int .i64 (Q : Int) := by
      have : min (M : Int) 14 = (Q : Int) := by omega
      rw [this]
    have hQb : Q ≤ M ∧ Q ≤ 14 := by omega
    obtain ⟨P, hP⟩ : ∃ P : Nat, min D 14 = P := ⟨_, rfl⟩
    have hPm : Value.int .i64 (min (D : Int) 14) = Value.int .i64 (P : Int) := by
      have : min (D : Int) 14 = (P : Int) := by omega
      rw [this]
    have hPb : P ≤ D ∧ P ≤ 14 := by omega
    obtain ⟨A4, C4, cut4, cs4, -⟩ := cut_to (P := Try.prog) (t := 37) Try.underlying37 hi0 hz1 (show Sees w 1 (.slice A2 M C2) M (KL.all lx) by have h4 := h2; unfold See at h4; rw [hM] at h4; exact h4) Q hQb.1
    obtain ⟨A5, C5, cut5, cs5, -⟩ := cut_to (P := Try.prog) (t := 22) Try.underlying22 hi1 hy1 (show Sees w 3 (.slice Ad D Cd) D (KSp.all ld) by have h4 := h3; unfold IsSps See at h4; rw [hD] at h4; exact h4) P hPb.1
    have hseeX : ∀ w', Upd [] w w' → See KL w' (.slice A4 Q C4) (lx.take Q) := fun w' hu => by
      have h4 := cs4 w' (by have h4 := h2.upd0 hu; unfold See at h4; rw [hM] at h4; exact h4)
      unfold See
      rw [KL.all_take, List.length_take, hM, Nat.min_eq_left hQb.1]
      exact h4
    have hQl : (lx.take Q).length = Q := by rw [List.length_take, hM, Nat.min_eq_left hQb.1]
    have hseeD : ∀ w', Upd [] w w' → See KSp w' (.slice A5 P C5) (ld.take P) := fun w' hu => by
      have h4 := cs5 w' (by have h4 := h3.upd0 hu; unfold See at h4; rw [hD] at h4; exact h4)
      unfold See
      rw [KSp.all_take, List.length_take, hD, Nat.min_eq_left hPb.1]
      exact h4
    have hPl : (ld.take P).length = P := by rw [List.length_take, hD, Nat.min_eq_left hPb.1]
    have hbd := fun w' (hu : Upd [] w w') => ivlBuild (.slice A N C) l w' (by have h4 := h.upd0 hu; exact h4) hid2 (by omega)
    simp only [hN] at hbd
    have hrg := fun w' (hu : Upd [] w w') => refRight (.slice A N C) l w' (by have h4 := h.upd0 hu; exact h4) (by omega)
    have HB := Lib.hid hbd
    have HRG := Lib.hid hrg
    have H := Lib.hid h
    have HSX := Lib.hid (And.intro hseeX hQl)
    have HSD := Lib.hid (And.intro hseeD hPl)
    have HN := Lib.hid hN
    have HAW := Lib.hid (fun w' => awake09 w')
    have hQ20 := hQb.2
    have hP20 := hPb.2
    clear h h2 h3 hid hid2 hbig hN hM hD hbd hrg hseeX hseeD hQl hPl cs4 cs5 hQ hP hQb hPb
    go_enter Try.func5, Try.ntmps5
    go_upto_region 3 with fail
    go_quiet (fail)
    have HB1 := Lib.hid (HB.out _ ((Upd.refl [] w).drewN nq))
    have HD0 := Lib.hid ((Upd.refl [] w).drewN nq)
    generalize w.drewN nq = w0 at HB1 HD0 ⊢
    go_wp2_with fail
    (with_reducible refine HB1.out.mono ?_)
    rintro e w1 ⟨u1, hq⟩
    have hu1 := HD0.out.trans u1
    have HRG1 := Lib.hid (HRG.out w1 hu1)
    rcases hq with ⟨hr, rfl⟩ | ⟨hr, b, F, rfl, hs, hF⟩
    · rw [hr] at HRG1
      have HU1 := Lib.hid hu1
      clear hr u1 hu1
      go_wp2_with fail
      (with_reducible refine HRG1.out.mono ?_)
      rintro e w2 ⟨rfl, u2⟩
      have HL2 := Lib.hid (ivlLenNil w2)
      have HAW2 := Lib.hid (HAW.out w2)
      have HU2 := Lib.hid (HU1.out.trans u2)
      clear u2
      go_wp2_with fail
      (with_reducible refine HL2.out.mono ?_)
      rintro e w3 ⟨rfl, rfl⟩
      go_wp2_with fail
      (with_reducible refine HAW2.out.mono ?_)
      rintro e w4 ⟨rfl, u4⟩
      have HU4 := Lib.hid (HU2.out.trans u4)
      clear u4
      go_wp2_with fail
      go_ret
      exact ⟨rfl, HU4.out⟩
    · rw [hr] at HRG1
      have HU1 := Lib.hid hu1
      have hFw : ∀ y ∈ F, w.heap.size ≤ y := fun y hy => by have h1 := hF y hy; have h2 := HD0.out.size; omega
      have HS := Lib.hid (And.intro hs hFw)
      clear hr u1 hu1 hs hF hFw
      go_wp2_with fail
      (with_reducible refine HRG1.out.mono ?_)
      rintro e w2 ⟨rfl, u2⟩
      have hu2 := HU1.out.trans u2
      have HAS := Lib.hid (askedV (HS.out.1.upd0 u2) (.slice A N C) (.slice A4 Q C4) _ (by have h4 := H.out.upd0 hu2; exact h4) (HSX.out.1 w2 hu2) (by rw [HSX.out.2]; omega))
      have HU2 := Lib.hid (And.intro u2 hu2)
      clear u2 hu2
      go_wp2_with fail
      (with_reducible refine HAS.out.mono ?_)
      rintro e w3 ⟨rfl, u3⟩
      have hu3 := HU2.out.2.trans u3
      have HS3 := Lib.hid ((HS.out.1.upd0 HU2.out.1).upd0 u3)
      have HL3 := Lib.hid (show Sees (w3.alloc (.cells #[] 42)) 3 (.slice A N C) N (KSp.all l) by have h4 := H.out.upd0 (hu3.alloc (.cells #[] 42)); unfold IsSps See at h4; rw [HN.out] at h4; exact h4)
      have HU3 := Lib.hid hu3
      clear u3 hu3
      go_wp2_with (at_builtin; refine wpList_app _ rfl _ _ 22 rfl w3.heap.size 42 i1 (.agg #[.int .i64 0, .int .i64 0, .int .u32 0]) 3 24 Try.underlying22 hi1 hy0 hy1 hy2 rfl (by decide) _ 0 [] rfl (World.ownsRow_made w3 #[] 0 (Nat.le_refl _) (by decide) rfl) _ N (KSp.all l) rfl HL3.out (KSp.all_one _) (by unfold maxLen; omega) (by omega) (by simp) ?_)
      intro A6 C6 W6 HP6
      have hr6 : KSp.row W6 w3.heap.size (.slice A6 N C6) l := by
        have := HP6.own
        rw [Nat.zero_add, List.nil_append] at this
        unfold Kind.row
        rw [HN.out]
        exact this
      have hu6 : Upd [] w3 W6 := ((Upd.refl [] w3).alloc _).trans' HP6.upd (fun y hy => .inr (by simp [blk] at hy; omega))
      have H6 := Lib.hid (And.intro hr6 hu6)
      clear HP6 hr6 hu6
      try rw [Nat.zero_add]
      have HFl := Lib.hid (show ∀ y ∈ F, y < w3.heap.size from HS3.out.flt)
      go_wp2_with fail
      go_loopg [9, 60] P (fun m s9 s63 wr => ∃ (k : Nat) (S : List Sp) (A7 : Option Addr) (C7 : Nat), m + k = P ∧ s9 = .slice A7 S.length C7 ∧ s63 = .int .i64 (k : Int) ∧ KSp.row wr w3.heap.size (.slice A7 S.length C7) S ∧ IsIvl wr b F S N ∧ Upd [] w wr ∧ S.length ≤ N ∧ w3.heap.size ≤ wr.heap.size)
      case atStart => exact ⟨0, l, A6, C6, rfl, by rw [HN.out], rfl, by rw [HN.out]; exact H6.out.1, HS3.out.upd0 H6.out.2, HU3.out.trans H6.out.2, by rw [HN.out]; exact Nat.le_refl _, H6.out.2.size⟩
      case round =>
        obtain ⟨k, S, A7, C7, hk, rfl, rfl, hrow, hsg, hup, hSN, hwz⟩ := hrel
        have k0 : (0 : Int) ≤ (k : Int) := Int.natCast_nonneg _
        have hkP : k ≤ P := by omega
        have HK := Lib.hid (And.intro hk (And.intro hrow (And.intro hsg hup)))
        by_cases hlt : k < P
        · obtain ⟨d, hd⟩ : ∃ d, (ld.take P)[k]? = some d := ⟨_, List.getElem?_eq_getElem (by rw [HSD.out.2]; exact hlt)⟩
          obtain ⟨g, o, rfl, -, -, ey⟩ := (HSD.out.1 wr hup).at hd
          have y0 : wr.cell? ⟨g, o + k * 3, none⟩ = some (.int .i64 d.lo) := ey 0 _ rfl
          have y1 : wr.cell? ⟨g, o + k * 3 + 1, none⟩ = some (.int .i64 d.hi) := ey 1 _ rfl
          have y2 : wr.cell? ⟨g, o + k * 3 + 2, none⟩ = some (.int .u32 (d.id : Int)) := ey 2 _ rfl
          have b1 : (k : Int) < (P : Int) := by omega
          obtain ⟨n, hn⟩ : ∃ n, S.length = n := ⟨_, rfl⟩
          have HNS := Lib.hid hn
          rw [hn] at hSN ⊢
          clear hd ey hk hrow hsg hup hn
          obtain ⟨wl, hwl⟩ : ∃ wl : World, wl = wr := ⟨_, rfl⟩
          subst hwl
          go_upto_region 13 with fail
          have hu2 : Upd [] wl (wl.alloc (.cells #[.int .i64 d.lo, .int .i64 d.hi, .int .u32 (d.id : Int)] 42)) := (Upd.refl _ _).alloc _
          have d0' : (wl.alloc (.cells #[.int .i64 d.lo, .int .i64 d.hi, .int .u32 (d.id : Int)] 42)).cell? ⟨wl.heap.size, 0, none⟩ = some (.int .i64 d.lo) := by rw [World.cell?_alloc_at _ _ _ _ rfl]; rfl
          have d1' : (wl.alloc (.cells #[.int .i64 d.lo, .int .i64 d.hi, .int .u32 (d.id : Int)] 42)).cell? ⟨wl.heap.size, 1, none⟩ = some (.int .i64 d.hi) := by rw [World.cell?_alloc_at _ _ _ _ rfl]; rfl
          have d2' : (wl.alloc (.cells #[.int .i64 d.lo, .int .i64 d.hi, .int .u32 (d.id : Int)] 42)).cell? ⟨wl.heap.size, 2, none⟩ = some (.int .u32 (d.id : Int)) := by rw [World.cell?_alloc_at _ _ _ _ rfl]; rfl
          have hz2 : wl.heap.size < (wl.alloc (.cells #[.int .i64 d.lo, .int .i64 d.hi, .int .u32 (d.id : Int)] 42)).heap.size := by simp
          generalize (wl.alloc (.cells #[.int .i64 d.lo, .int .i64 d.hi, .int .u32 (d.id : Int)] 42)) = W2 at hu2 d0' d1' d2' hz2 ⊢
          have hdr := refDrop (.slice A7 n C7) S d W2 ((by have h4 := (See.of_row HK.out.2.1).upd0 hu2; rw [HNS.out] at h4; exact h4)) (by rw [HNS.out]; omega)
          unfold spV at hdr
          have HDR := Lib.hid hdr
          have HU2 := Lib.hid hu2
          clear hu2 hdr y0 y1 y2
          go_wp2_with fail
          (with_reducible refine HDR.out.mono ?_)
          rintro e w4 ⟨A8, C8, rfl, r1, r2⟩
          have e0 := (r2.cell (p := ⟨wl.heap.size, 0, none⟩) hz2 (by simp)).trans d0'
          have e1 := (r2.cell (p := ⟨wl.heap.size, 1, none⟩) hz2 (by simp)).trans d1'
          have e2 := (r2.cell (p := ⟨wl.heap.size, 2, none⟩) hz2 (by simp)).trans d2'
          have hid := vDrop ((HK.out.2.2.1.upd0 HU2.out).upd0 r2) d
          unfold VDrop spV at hid
          obtain ⟨c, hc⟩ : ∃ c, decide (d ∈ S) = c := ⟨_, rfl⟩
          rw [hc] at hid ⊢
          have hcc : (c != c) = false := by simp
          have hwl2 : (without S d).length ≤ n := by rw [← HNS.out]; exact List.length_filter_le _ _
          have HID := Lib.hid hid
          have HR := Lib.hid (And.intro r1 r2)
          obtain ⟨S2, hS2⟩ : ∃ S2, without S d = S2 := ⟨_, rfl⟩
          rw [hS2] at HID HR hwl2 ⊢
          clear hid r1 r2 d0' d1' d2' hc
          go_wp2_with fail
          (with_reducible refine HID.out.mono ?_)
          rintro e w5 ⟨rfl, t5, u5⟩
          have hrow5 : KSp.row w5 W2.heap.size (.slice A8 S2.length C8) S2 := own_upd HR.out.1 u5 (fun y hy hc => by have h1 := own_ge HR.out.1 y hy; have h2 := HFl.out y hc; omega)
          have hup5 : Upd [] w w5 := ((HK.out.2.2.2.trans HU2.out).trans HR.out.2).trans' u5 (fun y hy => .inr (HS.out.2 y hy))
          have HAS5 := Lib.hid (askedV t5 (.slice A8 S2.length C8) (.slice A4 Q C4) _ (See.of_row hrow5) (HSX.out.1 w5 hup5) (by rw [HSX.out.2]; omega))
          have H5 := Lib.hid (And.intro t5 (And.intro hrow5 (And.intro hup5 (Nat.le_trans hwz (Nat.le_trans HU2.out.size (Nat.le_trans HR.out.2.size u5.size))))))
          clear t5 u5 hrow5 hup5 e0 e1 e2
          go_wp2_with fail
          (with_reducible refine HAS5.out.mono ?_)
          rintro e w6 ⟨rfl, u6⟩
          have HU6 := Lib.hid u6
          clear u6
          go_wp2_with fail
          go_roundg (P - (k + 1))
          case measure => have := HK.out.1; omega
          case rel => exact ⟨k + 1, S2, A8, C8, by have := HK.out.1; omega, rfl, by go_num, own_base (own_upd H5.out.2.1 HU6.out (by simp)) (Nat.le_trans hwz HU2.out.size), H5.out.1.upd0 HU6.out, H5.out.2.2.1.trans HU6.out, by omega, Nat.le_trans H5.out.2.2.2 HU6.out.size⟩
        · have HAW2 := Lib.hid (HAW.out wr)
          clear hk hrow hsg hup
          go_wp2_with fail
          (with_reducible refine HAW2.out.mono ?_)
          rintro e w5 ⟨rfl, u5⟩
          have HU5 := Lib.hid (HK.out.2.2.2.trans u5)
          clear u5
          go_wp2_with fail
          go_ret
          exact ⟨rfl, HU5.out⟩
end Go.Proofs.Ytjpjlfcjkgmhdaa
