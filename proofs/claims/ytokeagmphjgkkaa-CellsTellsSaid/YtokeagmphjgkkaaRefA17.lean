/- The document's area; boxes alike. -/
import Derived.Test.YtokeagmphjgkkaaRefXY
import Derived.Test.YtokeagmphjgkkaaCopyB
import Derived.Test.YtokeagmphjgkkaaInclP
namespace Go.Proofs.Ytokeagmphjgkkaa
open Go.RowKit

theorem bwide_same (a b : Int) (w : World) : (binOp .eql 56 (.agg #[.int .u64 a, .int .u64 b]) (.agg #[.int .u64 a, .int .u64 b])).run Try.prog w = .ok (.bool true) w := by
  rw [run_eql_struct, run_equalIn_agg _ _ _ _ _ (by kernel_rfl) (by kernel_rfl)]
  go_simp
theorem box_nsame (a b c d e : Int) (w : World) : (binOp .neq 109 (.agg #[.int .i64 a, .int .i64 b, .int .i64 c, .int .i64 d, .int .u32 e]) (.agg #[.int .i64 a, .int .i64 b, .int .i64 c, .int .i64 d, .int .u32 e])).run Try.prog w = .ok (.bool false) w := by
  rw [run_neq_struct, run_equalIn_agg _ _ _ _ _ (by kernel_rfl) (by kernel_rfl)]
  go_simp

set_option maxRecDepth 100000 in
set_option maxHeartbeats 2000000 in
theorem rallC (w : World) : Calls Try.prog 107 #[] w fun e w' => e = .returned (bxV allB) ∧ Upd [] w w' := by
  unfold bxV allB
  dsimp only
  have hb0 : BxAt (w.alloc (.cells #[.int .i64 0, .int .i64 0, .int .i64 0, .int .i64 0, .int .u32 0] 109)) w.heap.size ⟨0, 0, 0, 0, 0⟩ := heap_alloc_new w _
  have HU := Lib.hid (show Upd [] w (w.alloc (.cells #[.int .i64 0, .int .i64 0, .int .i64 0, .int .i64 0, .int .u32 0] 109)) from (Upd.refl _ _).alloc _)
  have HQ := Lib.hid (Nat.le_refl w.heap.size)
  have HB := Lib.hid hb0
  clear hb0
  go_enter Try.func107, Try.ntmps107
  go_upto_region 1 with fail
  generalize (w.alloc (.cells #[.int .i64 0, .int .i64 0, .int .i64 0, .int .i64 0, .int .u32 0] 109)) = W at HB HU ⊢
  have HQ2 : w.heap.size ≤ w.heap.size := Nat.le_refl _
  generalize hq : w.heap.size = q at HB HQ2 ⊢
  obtain ⟨z0, z1, z2, z3, z4, zf⟩ := HB.out.cells
  dsimp only at z0 z1 z2 z3 z4
  have zf0 := zf 0
  have zf1 := zf 1
  have zf2 := zf 2
  have zf3 := zf 3
  have zf4 := zf 4
  have hp := HB.out.put (-9223372036854775808) 9223372036854775807 (-9223372036854775808) 9223372036854775807 0
  have hup : Upd [] w (((((W.setCell ⟨q, 0, none⟩ (.int .i64 (-9223372036854775808))).setCell ⟨q, 1, none⟩ (.int .i64 9223372036854775807)).setCell ⟨q, 2, none⟩ (.int .i64 (-9223372036854775808))).setCell ⟨q, 3, none⟩ (.int .i64 9223372036854775807)).setCell ⟨q, 4, none⟩ (.int .u32 0)) :=
    ((((HU.out.setCell (.inr (by rw [hq]; exact HQ2)) _).setCell (.inr (by rw [hq]; exact HQ2)) _).setCell (.inr (by rw [hq]; exact HQ2)) _).setCell (.inr (by rw [hq]; exact HQ2)) _).setCell (.inr (by rw [hq]; exact HQ2)) _
  have HP := Lib.hid (And.intro hp hup)
  clear zf hp hup
  go_wp2_with fail
  obtain ⟨y0, y1, y2, y3, y4, -⟩ := HP.out.1.cells
  dsimp only at y0 y1 y2 y3 y4
  have y4' := y4
  rw [show (((0 : Nat) : Int)) = 0 from rfl] at y0 y1 y2 y3 y4
  exact bodyPost_ret (v := .agg #[.int .i64 (-9223372036854775808), .int .i64 9223372036854775807, .int .i64 (-9223372036854775808), .int .i64 9223372036854775807, .int .u32 0]) (by simp [results, Try.results107, go_sem, y0, y1, y2, y3, y4]) rfl ⟨rfl, HP.out.2⟩

set_option maxRecDepth 100000 in
set_option maxHeartbeats 4000000 in
theorem rareaC (v : Value) (l : List Bx) (w : World) (hs : See KBx w v l) (hl : l.length < 400) (hin : ∀ b ∈ l, b.in64) :
    Calls Try.prog 73 #[v] w fun e w' => e = .returned (.tuple #[wideZ (cellsI 0 0 l allB), .int .i64 (entE l : Nat)]) ∧ Upd [] w w' := by
  have hce : ∀ W, See KBx W v l → Calls Try.prog 106 #[v, .int .i64 0, bxV allB, .int .i64 0, .int .i64 0] W fun e w' => e = .returned (wideZ (cellsI 0 0 l allB)) ∧ Upd [] W w' := fun W h => by
    have := rcellsZ v l 0 0 (by omega) (by omega) hin l.length 0 allB W (by omega) (Nat.zero_le _) (by unfold Bx.in64 allB; decide) (by decide) (by decide) h
    rw [List.drop_zero] at this
    exact this
  have hen := fun W (h : See KBx W v l) => renteredE v l W h hl
  obtain ⟨E, hE⟩ : ∃ E, entE l = E := ⟨_, rfl⟩
  rw [hE] at hen ⊢
  obtain ⟨Z, hZ⟩ : ∃ Z, cellsI 0 0 l allB = Z := ⟨_, rfl⟩
  rw [hZ] at hce ⊢
  unfold wideZ at hce ⊢
  obtain ⟨a, ha⟩ : ∃ a, zh Z = a := ⟨_, rfl⟩
  obtain ⟨b, hb⟩ : ∃ a, zl Z = a := ⟨_, rfl⟩
  rw [ha, hb] at hce ⊢
  have hal := rallC
  unfold bxV allB at hce hal
  dsimp only at hce hal
  have HCE := Lib.hid (show ∀ W, See KBx W v l → Calls Try.prog 106 #[v, .int .i64 0, .agg #[.int .i64 (-9223372036854775808), .int .i64 9223372036854775807, .int .i64 (-9223372036854775808), .int .i64 9223372036854775807, .int .u32 0], .int .i64 0, .int .i64 0] W fun e w' => e = .returned (.agg #[.int .u64 a, .int .u64 b]) ∧ Upd [] W w' from hce)
  have HEN := Lib.hid hen
  have HAL := Lib.hid hal
  have HS := Lib.hid hs
  have HZ := Lib.hid (ZAt.new w 0 0)
  have HU := Lib.hid (show Upd [] w (w.alloc (.cells #[.int .u64 0, .int .u64 0] 56)) from (Upd.refl _ _).alloc _)
  clear hs hl hin hce hen hE hZ ha hb hal
  go_enter Try.func73, Try.ntmps73
  go_upto_region 1 with fail
  generalize (w.alloc (.cells #[.int .u64 0, .int .u64 0] 56)) = W at HZ HU ⊢
  obtain ⟨q, hq⟩ : ∃ q, w.heap.size = q := ⟨_, rfl⟩
  rw [hq] at HZ ⊢
  have HQ := Lib.hid hq
  clear hq
  go_wp2_with fail
  (with_reducible refine (HAL.out _).mono ?_)
  rintro e w1 ⟨rfl, hu1⟩
  have HU1 := Lib.hid hu1
  clear hu1
  go_wp2_with fail
  (with_reducible refine (HCE.out _ (HS.out.upd0 (HU.out.trans HU1.out))).mono ?_)
  rintro e w2 ⟨rfl, hu2⟩
  have HU2 := Lib.hid (HU1.out.trans hu2)
  clear hu2
  go_wp2_with fail
  (with_reducible refine (HEN.out _ (HS.out.upd0 (HU.out.trans HU2.out))).mono ?_)
  rintro e w3 ⟨rfl, hu3⟩
  have HU3 := Lib.hid (HU2.out.trans hu3)
  have hz := HZ.out.upd HU3.out (by simp)
  obtain ⟨t0, t1, tf⟩ := hz.cells
  have tf0 := tf 0
  have tf1 := tf 1
  have hz2 := (hz.set0 a).set1 b
  have HF := Lib.hid (And.intro hz2 (show Upd [] w ((w3.setCell ⟨q, 0, none⟩ (.int .u64 a)).setCell ⟨q, 1, none⟩ (.int .u64 b)) from ((HU.out.trans HU3.out).setCell (.inr (by rw [HQ.out]; exact Nat.le_refl _)) _).setCell (.inr (by rw [HQ.out]; exact Nat.le_refl _)) _))
  clear hu3 hz tf hz2
  go_wp2_with fail
  obtain ⟨y0, y1, -⟩ := HF.out.1.cells
  exact bodyPost_ret (v := .tuple #[.agg #[.int .u64 a, .int .u64 b], .int .i64 (E : Int)]) (by simp [results, Try.results73, go_sem, y0, y1]) rfl ⟨rfl, HF.out.2⟩

set_option maxRecDepth 100000 in
set_option maxHeartbeats 4000000 in
theorem boxesSame (v u : Value) (l : List Bx) (w : World) (hv : See KBx w v l) (hu : See KBx w u l) (hl : l.length < 100000) :
    Calls Try.prog 37 #[v, u] w fun e w' => e = .returned (.bool true) ∧ Upd [] w w' := by
  obtain ⟨A, C, rfl⟩ := hv.form
  obtain ⟨A', C', rfl⟩ := hu.form
  obtain ⟨n, hn⟩ : ∃ n, l.length = n := ⟨_, rfl⟩
  rw [hn] at hv hu hl ⊢
  have HV := Lib.hid (And.intro hv hu)
  have HN := Lib.hid hn
  have n1 : (n : Int) < 100000 := by omega
  have n0 : (0 : Int) ≤ (n : Int) := Int.natCast_nonneg _
  have dn : ((n : Int) == (n : Int)) = true := by rw [beq_iff_eq]
  clear hv hu hn hl
  go_enter Try.func37, Try.ntmps37
  go_wp2_with fail
  go_loopg [5] n (fun m s5 wr => ∃ i, m + i = n ∧ s5 = .int .i64 (i : Int) ∧ Upd [] w wr)
  case atStart => exact ⟨0, rfl, rfl, Upd.refl _ _⟩
  case round =>
    obtain ⟨i, hi, rfl, hu⟩ := hrel
    have HI := Lib.hid hi
    have HU := Lib.hid hu
    have i0 : (0 : Int) ≤ (i : Int) := Int.natCast_nonneg _
    have i3 : (i : Int) < 200000 := by omega
    by_cases hlt : i < n
    · have i1 : (i : Int) < (n : Int) := by omega
      obtain ⟨b, hb⟩ : ∃ b, l[i]? = some b := ⟨_, List.getElem?_eq_getElem (by rw [HN.out]; exact hlt)⟩
      obtain ⟨g, o, hA, -, -, c0, c1, c2, c3, c4⟩ := KBx.at (HV.out.1.upd0 hu) hb
      obtain ⟨g', o', hA', -, -, d0, d1, d2, d3, d4⟩ := KBx.at (HV.out.2.upd0 hu) hb
      subst hA hA'
      have HNS := fun w => box_nsame b.x1 b.x2 b.y1 b.y2 (b.id : Int) w
      have HLT := Lib.hid hlt
      clear hb hlt hi hu
      go_upto_region 4 with fail
      go_quiet (fail)
      clear c0 c1 c2 c3 c4 d0 d1 d2 d3 d4
      go_wp2_with fail
      go_roundg (n - (i + 1))
      case measure => have := HI.out; have := HLT.out; omega
      case rel => exact ⟨i + 1, by have := HI.out; have := HLT.out; omega, by go_num, HU.out.drewN _⟩
    · have hin : i = n := by omega
      subst hin
      clear hlt hi hu
      go_wp2_with fail
      go_ret
      exact ⟨rfl, HU.out⟩
end Go.Proofs.Ytokeagmphjgkkaa
