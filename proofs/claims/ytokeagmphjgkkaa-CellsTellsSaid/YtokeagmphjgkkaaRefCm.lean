/- The document's cells: Block, Area, Rim of chapter 19. -/
import Derived.Test.YtokeagmphjgkkaaRefCl
import Derived.Test.YtokeagmphjgkkaaQuietU
import Derived.Test.YtokeagmphjgkkaaAreaC
namespace Go.Proofs.Ytokeagmphjgkkaa
open Go.RowKit

set_option maxRecDepth 100000 in
set_option maxHeartbeats 4000000 in
theorem rblockC (v : Value) (l : List Bx) (i k : Nat) (w : World) (hs : See KBx w v l) (hl : l.length < 1000) (hi : i + 1 < (sqz (linX l)).length) (hk : k + 1 < (sqz (linY l)).length) :
    Calls Try.prog 30 #[v, .int .i64 (i : Int), .int .i64 (k : Int)] w fun e w' => e = .returned (.bool (covB l (nth (sqz (linX l)) i) (nth (sqz (linY l)) k))) ∧ Upd [] w w' := by
  have hlx : (sqz (linX l)).length ≤ 2000 := Nat.le_trans (sqz_len _) (by have := linX_len l; omega)
  have hly : (sqz (linY l)).length ≤ 2000 := Nat.le_trans (sqz_len _) (by have := linY_len l; omega)
  have h1 := fun (W : World) (hu : Upd [] w W) => rlinesC false v l W (hs.upd0 hu) hl
  have h2 := fun (W : World) (hu : Upd [] w W) => rlinesC true v l W (hs.upd0 hu) hl
  unfold RSqPost at h1 h2
  have hh := fun (W : World) (hu : Upd [] w W) => rheldC v l (nth (sqz (linX l)) i) (nth (sqz (linY l)) k) W (hs.upd0 hu) (by omega)
  have gx := nth_get (l := sqz (linX l)) (i := i) (by omega)
  have gy := nth_get (l := sqz (linY l)) (i := k) (by omega)
  obtain ⟨A, C, rfl⟩ := hs.form
  obtain ⟨X, hX⟩ : ∃ X, sqz (linX l) = X := ⟨_, rfl⟩
  obtain ⟨Y, hY⟩ : ∃ Y, sqz (linY l) = Y := ⟨_, rfl⟩
  simp only [linU, hX, hY] at h1 h2 hh gx gy hi hk hlx hly
  rw [hX, hY]
  obtain ⟨r, hr⟩ : ∃ r, covB l (nth X i) (nth Y k) = r := ⟨_, rfl⟩
  obtain ⟨x, hx⟩ : ∃ x, nth X i = x := ⟨_, rfl⟩
  obtain ⟨y, hy⟩ : ∃ y, nth Y k = y := ⟨_, rfl⟩
  rw [hr]
  simp only [hr] at hh
  rw [hx] at gx hh
  rw [hy] at gy hh
  obtain ⟨nX, hnX⟩ : ∃ n, X.length = n := ⟨_, rfl⟩
  obtain ⟨nY, hnY⟩ : ∃ n, Y.length = n := ⟨_, rfl⟩
  obtain ⟨nl, hnl⟩ : ∃ n, l.length = n := ⟨_, rfl⟩
  rw [hnX] at hi hlx
  rw [hnY] at hk hly
  rw [hnl] at hh h1 h2 hs ⊢
  simp only [hnX] at h1
  simp only [hnY] at h2
  have i0 : (0 : Int) ≤ (i : Int) := Int.natCast_nonneg _
  have k0 : (0 : Int) ≤ (k : Int) := Int.natCast_nonneg _
  have i1 : (i : Int) + 1 < (nX : Int) := by omega
  have k1 : (k : Int) + 1 < (nY : Int) := by omega
  have i2 : (i : Int) < (nX : Int) := by omega
  have k2 : (k : Int) < (nY : Int) := by omega
  have i3 : (i : Int) < 3000 := by omega
  have k3 : (k : Int) < 3000 := by omega
  have H1 := Lib.hid h1
  have H2 := Lib.hid h2
  have HH := Lib.hid hh
  have HG := Lib.hid (And.intro gx gy)
  clear h1 h2 hh gx gy hi hk hlx hly hX hY hr hx hy hnX hnY hnl hs
  go_enter Try.func30, Try.ntmps30
  go_wp2_with fail
  (with_reducible refine (H1.out _ (Upd.refl _ _)).mono ?_)
  rintro e w1 ⟨A1, C1, rfl, hr1, hu1⟩
  have HS1 := Lib.hid (See.of_row hr1)
  have HU1 := Lib.hid hu1
  clear hr1 hu1
  go_wp2_with fail
  (with_reducible refine (H2.out _ HU1.out).mono ?_)
  rintro e w2 ⟨A2, C2, rfl, hr2, hu2⟩
  have hs2 := See.of_row hr2
  have hs1 := HS1.out.upd0 hu2
  have HU2 := Lib.hid (HU1.out.trans hu2)
  obtain ⟨b1, o1, hA1, -, -, c1⟩ := KL.at hs1 HG.out.1
  obtain ⟨b2, o2, hA2, -, -, c2⟩ := KL.at hs2 HG.out.2
  subst hA1 hA2
  have hb1 := World.block_lt_of_cell? w2 _ c1
  have hb2 := World.block_lt_of_cell? w2 _ c2
  have HCC := Lib.hid (And.intro (And.intro c1 hb1) (And.intro c2 hb2))
  clear hr2 hu2 hs1 hs2 c1 c2 hb1 hb2
  go_upto_region 2 with fail
  have q1 : ∀ z : QW w2, z.w.cell? ⟨b1, o1 + i, none⟩ = some (.int .i64 x) := fun z => (z.up.cell (p := ⟨b1, o1 + i, none⟩) HCC.out.1.2 (by simp)).trans HCC.out.1.1
  have q2 : ∀ z : QW w2, z.w.cell? ⟨b2, o2 + k, none⟩ = some (.int .i64 y) := fun z => (z.up.cell (p := ⟨b2, o2 + k, none⟩) HCC.out.2.2 (by simp)).trans HCC.out.2.1
  have H5 := Lib.hid (fun z : QW w2 => HH.out z.w (HU2.out.trans z.up))
  refine wp_region_quietU (by kernel_rfl) (by kernel_rfl) ?_
  repeat (go_big_quiet_step (first | (with_reducible exact Calls.quietU (H5.out _))))
  refine wpQuiet_nil ?_
  intro wq hw'
  obtain ⟨⟨wy, hwq⟩, hw''⟩ := hw'
  dsimp only at hw''
  subst hw''
  go_wp2_with fail
  go_ret
  exact ⟨rfl, HU2.out.trans hwq⟩

set_option maxRecDepth 100000 in
set_option maxHeartbeats 4000000 in
theorem rarea19 (v : Value) (w : World) (a b E : Int) (hc : ∀ W, Upd [] w W → Calls Try.prog 73 #[v] W fun e w' => e = .returned (.tuple #[.agg #[.int .u64 a, .int .u64 b], .int .i64 E]) ∧ Upd [] W w') :
    Calls Try.prog 34 #[v] w fun e w' => e = .returned (.agg #[.int .u64 a, .int .u64 b]) ∧ Upd [] w w' := by
  have HC := Lib.hid hc
  have HZ := Lib.hid (ZAt.new w 0 0)
  have HU := Lib.hid (show Upd [] w (w.alloc (.cells #[.int .u64 0, .int .u64 0] 56)) from (Upd.refl _ _).alloc _)
  clear hc
  go_enter Try.func34, Try.ntmps34
  go_upto_region 1 with fail
  generalize (w.alloc (.cells #[.int .u64 0, .int .u64 0] 56)) = W at HZ HU ⊢
  obtain ⟨q, hq⟩ : ∃ q, w.heap.size = q := ⟨_, rfl⟩
  rw [hq] at HZ ⊢
  have HQ := Lib.hid hq
  clear hq
  go_wp2_with fail
  (with_reducible refine (HC.out _ HU.out).mono ?_)
  rintro e w1 ⟨rfl, hu1⟩
  have HN1 := Lib.hid (ZAt.new w1 a b)
  have HU1 := Lib.hid (show Upd [] W (w1.alloc (.cells #[.int .u64 a, .int .u64 b] 56)) from hu1.alloc _)
  clear hu1
  go_upto_region 2 with fail
  generalize w1.alloc (.cells #[.int .u64 a, .int .u64 b] 56) = Wb at HN1 HU1 ⊢
  generalize w1.heap.size = qb at HN1 ⊢
  have hz := HZ.out.upd HU1.out (by simp)
  obtain ⟨b0, b1, -⟩ := HN1.out.cells
  obtain ⟨t0, t1, tf⟩ := hz.cells
  have tf0 := tf 0
  have tf1 := tf 1
  have hz2 := (hz.set0 a).set1 b
  have HF := Lib.hid (And.intro hz2 (show Upd [] w ((Wb.setCell ⟨q, 0, none⟩ (.int .u64 a)).setCell ⟨q, 1, none⟩ (.int .u64 b)) from ((HU.out.trans HU1.out).setCell (.inr (by rw [HQ.out]; exact Nat.le_refl _)) _).setCell (.inr (by rw [HQ.out]; exact Nat.le_refl _)) _))
  clear hz tf hz2
  go_wp2_with fail
  obtain ⟨y0, y1, -⟩ := HF.out.1.cells
  exact bodyPost_ret (v := .agg #[.int .u64 a, .int .u64 b]) (by simp [results, Try.results34, go_sem, y0, y1]) rfl ⟨rfl, HF.out.2⟩

set_option maxRecDepth 100000 in
set_option maxHeartbeats 4000000 in
theorem rrim19 (v : Value) (w : World) (a b E : Int) (hc : ∀ W, Upd [] w W → Calls Try.prog 76 #[v] W fun e w' => e = .returned (.tuple #[.agg #[.int .u64 a, .int .u64 b], .int .i64 E]) ∧ Upd [] W w') :
    Calls Try.prog 36 #[v] w fun e w' => e = .returned (.agg #[.int .u64 a, .int .u64 b]) ∧ Upd [] w w' := by
  have HC := Lib.hid hc
  have HZ := Lib.hid (ZAt.new w 0 0)
  have HU := Lib.hid (show Upd [] w (w.alloc (.cells #[.int .u64 0, .int .u64 0] 56)) from (Upd.refl _ _).alloc _)
  clear hc
  go_enter Try.func36, Try.ntmps36
  go_upto_region 1 with fail
  generalize (w.alloc (.cells #[.int .u64 0, .int .u64 0] 56)) = W at HZ HU ⊢
  obtain ⟨q, hq⟩ : ∃ q, w.heap.size = q := ⟨_, rfl⟩
  rw [hq] at HZ ⊢
  have HQ := Lib.hid hq
  clear hq
  go_wp2_with fail
  (with_reducible refine (HC.out _ HU.out).mono ?_)
  rintro e w1 ⟨rfl, hu1⟩
  have HN1 := Lib.hid (ZAt.new w1 a b)
  have HU1 := Lib.hid (show Upd [] W (w1.alloc (.cells #[.int .u64 a, .int .u64 b] 56)) from hu1.alloc _)
  clear hu1
  go_upto_region 2 with fail
  generalize w1.alloc (.cells #[.int .u64 a, .int .u64 b] 56) = Wb at HN1 HU1 ⊢
  generalize w1.heap.size = qb at HN1 ⊢
  have hz := HZ.out.upd HU1.out (by simp)
  obtain ⟨b0, b1, -⟩ := HN1.out.cells
  obtain ⟨t0, t1, tf⟩ := hz.cells
  have tf0 := tf 0
  have tf1 := tf 1
  have hz2 := (hz.set0 a).set1 b
  have HF := Lib.hid (And.intro hz2 (show Upd [] w ((Wb.setCell ⟨q, 0, none⟩ (.int .u64 a)).setCell ⟨q, 1, none⟩ (.int .u64 b)) from ((HU.out.trans HU1.out).setCell (.inr (by rw [HQ.out]; exact Nat.le_refl _)) _).setCell (.inr (by rw [HQ.out]; exact Nat.le_refl _)) _))
  clear hz tf hz2
  go_wp2_with fail
  obtain ⟨y0, y1, -⟩ := HF.out.1.cells
  exact bodyPost_ret (v := .agg #[.int .u64 a, .int .u64 b]) (by simp [results, Try.results36, go_sem, y0, y1]) rfl ⟨rfl, HF.out.2⟩
end Go.Proofs.Ytokeagmphjgkkaa
