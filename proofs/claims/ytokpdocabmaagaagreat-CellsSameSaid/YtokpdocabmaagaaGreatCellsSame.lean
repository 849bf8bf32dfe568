/- Block by block the rim is what the sweeps tell. No program. CellsSame: the walk. -/
import Derived.Test.YtokpdocabmaagaaGreatRimC
import Derived.Test.YtokpdocabmaagaaGreatRimSt
import Derived.Test.YtokpdocabmaagaaGreatAw19
import Derived.Test.YtokpdocabmaagaaGreatRimW
import Derived.Test.YtokpdocabmaagaaGreatLaw17
import Derived.Test.YtokpdocabmaagaaGreatQuietU
namespace Go.Proofs.YtokpdocabmaagaaGreat

theorem sumK_zero (m : Nat) : sumK (fun _ => 0) m = 0 := by
  induction m with
  | zero => rfl
  | succ m ih => rw [sumK, ih]

theorem sumK_add (f g : Nat → Nat) : ∀ n, sumK (fun i => f i + g i) n = sumK f n + sumK g n
  | 0 => rfl
  | n + 1 => by rw [sumK, sumK, sumK, sumK_add f g n]; omega

theorem sumK_swap (f : Nat → Nat → Nat) (m : Nat) : ∀ n, sumK (fun i => sumK (fun k => f i k) m) n = sumK (fun k => sumK (fun i => f i k) n) m
  | 0 => (sumK_zero m).symm
  | n + 1 => by
    rw [sumK, sumK_swap f m n, ← sumK_add]
    exact sumK_congr m fun i _ => rfl

theorem sumK_mulL (c : Nat) (f : Nat → Nat) : ∀ n, sumK (fun i => c * f i) n = c * sumK f n
  | 0 => rfl
  | n + 1 => by rw [sumK, sumK, sumK_mulL c f n, Nat.mul_add]

/-- How often a row of truths changes, place by place. -/
def nxG (G : List Bool) (k : Nat) : Bool := (G[k]?).getD false
def prG (p : Bool) (G : List Bool) : Nat → Bool
  | 0 => p
  | k + 1 => nxG G k

theorem chg_sumK : ∀ (G : List Bool) (p : Bool), (sumK (fun k => if (prG p G k != nxG G k) = true then 1 else 0) (G.length + 1) : Int) = chg p G
  | [], p => by
    cases p <;> simp [sumK, prG, nxG, chg, ind]
  | g :: G, p => by
    rw [List.length_cons, sumK_cons, Int.natCast_add, chg, ← chg_sumK G g]
    have e1 : nxG (g :: G) 0 = g := rfl
    have e2 : sumK (fun i => if (prG p (g :: G) (i + 1) != nxG (g :: G) (i + 1)) = true then 1 else 0) (G.length + 1) = sumK (fun k => if (prG g G k != nxG G k) = true then 1 else 0) (G.length + 1) := by
      refine sumK_congr _ fun i _ => ?_
      have h1 : prG p (g :: G) (i + 1) = prG g G i := by
        cases i with
        | zero => rfl
        | succ i => rfl
      have h2 : nxG (g :: G) (i + 1) = nxG G i := rfl
      rw [h1, h2]
    rw [e2, e1]
    congr 1
    unfold prG
    cases p <;> cases g <;> simp [ind]

/-- Which blocks of a column are covered. -/
def colG (l : List Bx) (Y : List Int) (x : Int) : List Bool := (List.range (Y.length - 1)).map fun j => covB l x (mf Y j)

theorem nth_mf (l : List Int) (i : Nat) : nth l i = mf l i := rfl

theorem sideH_eq {l : List Bx} {X Y : List Int} {i k : Nat} (hi : i + 1 < X.length) : sideH l X Y i k = (mf X (i + 1) - mf X i).toNat * (if (prG false (colG l Y (mf X i)) k != nxG (colG l Y (mf X i)) k) = true then 1 else 0) := by
  have hn : ∀ k : Nat, isR (colsB l X Y) i k = nxG (colG l Y (mf X i)) k := fun k => by
    rw [isR_cols]
    unfold nxG colG
    by_cases hk : k < Y.length - 1
    · rw [if_pos ⟨by omega, by omega, by omega, by omega⟩, List.getElem?_map, List.getElem?_range hk]
      rfl
    · rw [if_neg (by omega), List.getElem?_eq_none (by rw [List.length_map, List.length_range]; omega)]
      rfl
  have hp : isR (colsB l X Y) i ((k : Int) - 1) = prG false (colG l Y (mf X i)) k := by
    cases k with
    | zero => rw [isR_cols, if_neg (by omega)]; rfl
    | succ k => rw [show ((k + 1 : Nat) : Int) - 1 = (k : Int) by omega, hn]; rfl
  unfold sideH
  rw [hn, hp]
  split
  · rename_i h
    rw [if_pos h.2, Nat.mul_one]; rfl
  · rename_i h
    rw [if_neg fun h' => h ⟨hi, h'⟩, Nat.mul_zero]

theorem sideH_last {l : List Bx} {X Y : List Int} {i k : Nat} (hi : ¬ i + 1 < X.length) : sideH l X Y i k = 0 := by
  unfold sideH
  rw [if_neg fun h => hi h.1]

theorem rowH {l : List Bx} (hb : ∀ b ∈ l, b.in64) {i : Nat} (hi : i + 1 < (sqz (linX l)).length) :
    (sumK (fun k => sideH l (sqz (linX l)) (sqz (linY l)) i k) (sqz (linY l)).length : Int) = turnsR (covB l (mf (sqz (linX l)) i)) (-9223372036854775808) 9223372036854775808 * (mf (sqz (linX l)) (i + 1) - mf (sqz (linX l)) i) := by
  have hX := sqz_rise (linX l)
  have hd : mf (sqz (linX l)) i < mf (sqz (linX l)) (i + 1) := by
    have h1 := mf_get (M := sqz (linX l)) (i := i) (by omega)
    have h2 := mf_get (M := sqz (linX l)) (i := i + 1) hi
    exact rise_stepC hX h1 h2
  rw [sumK_congr _ fun k _ => sideH_eq (l := l) (Y := sqz (linY l)) (k := k) hi, sumK_mulL, Int.natCast_mul, col_turns hb]
  have e : (sumK (fun k => if (prG false (colG l (sqz (linY l)) (mf (sqz (linX l)) i)) k != nxG (colG l (sqz (linY l)) (mf (sqz (linX l)) i)) k) = true then 1 else 0) (sqz (linY l)).length : Int) = chg false (colG l (sqz (linY l)) (mf (sqz (linX l)) i)) := by
    rcases Nat.eq_zero_or_pos (sqz (linY l)).length with h | h
    · have hG : colG l (sqz (linY l)) (mf (sqz (linX l)) i) = [] := by unfold colG; rw [h]; rfl
      rw [h, hG]; rfl
    · rw [← chg_sumK]
      have : (sqz (linY l)).length = (colG l (sqz (linY l)) (mf (sqz (linX l)) i)).length + 1 := by unfold colG; rw [List.length_map, List.length_range]; omega
      rw [this]
  rw [e, chg_runs]
  unfold colG
  rw [Int.toNat_of_nonneg (by omega), Int.mul_comm]
  simp [ind]

theorem sumH {l : List Bx} (hb : ∀ b ∈ l, b.in64) : (sumK (fun i => sumK (fun k => sideH l (sqz (linX l)) (sqz (linY l)) i k) (sqz (linY l)).length) (sqz (linX l)).length : Int) = horR l := by
  obtain ⟨X, hXe⟩ : ∃ X, sqz (linX l) = X := ⟨_, rfl⟩
  have hX : X.Pairwise (· < ·) := by rw [← hXe]; exact sqz_rise _
  have hX' : X.Pairwise (· ≤ ·) := hX.imp fun h => Int.le_of_lt h
  have hm : ∀ v ∈ linX l, v ∈ X := fun v hv => by rw [← hXe]; exact mem_sqz hv
  have hin : ∀ v ∈ X, (-9223372036854775808 : Int) ≤ v ∧ v ≤ 9223372036854775808 := by
    intro v hv
    rw [← hXe] at hv
    have hx := sqz_mem hv
    unfold linX at hx
    obtain ⟨b, h1, h2⟩ := List.mem_flatMap.1 hx
    have h3 := hb b (List.mem_filter.1 h1).1
    unfold Bx.in64 at h3
    simp at h2
    rcases h2 with rfl | rfl
    · have := h3.1; omega
    · have := h3.2.1; omega
  unfold horR horG
  rw [sumR_stepsL (f := fun x => turnsR (covB l x) (-9223372036854775808) 9223372036854775808) hX' hin (fun i p q z h1 h2 h3 h4 => turnsR_congr _ _ fun y => cov_xL hX' hm h1 h2 h3 h4)
    (fun p q z h1 h2 h3 => turnsR_none fun y => cov_outL hX' hm h1 h2 h3) (fun h z => turnsR_none fun y => cov_none (by
      rw [List.eq_nil_iff_forall_not_mem]
      intro v hv
      have := hm v hv
      rw [h] at this
      simp at this) z y)]
  rw [hXe]
  rcases Nat.eq_zero_or_pos X.length with h0 | h0
  · rw [List.eq_nil_of_length_eq_zero h0]; rfl
  · have e : sumK (fun i => sumK (fun k => sideH l X (sqz (linY l)) i k) (sqz (linY l)).length) X.length = sumK (fun i => sumK (fun k => sideH l X (sqz (linY l)) i k) (sqz (linY l)).length) (X.length - 1) := by
      obtain ⟨n, hn⟩ : ∃ n, X.length = n + 1 := ⟨X.length - 1, by omega⟩
      rw [hn, sumK]
      have : sumK (fun k => sideH l X (sqz (linY l)) n k) (sqz (linY l)).length = 0 := by
        rw [sumK_congr _ fun k _ => sideH_last (l := l) (Y := sqz (linY l)) (k := k) (by omega)]
        exact sumK_zero _
      rw [this]; rfl
    rw [e]
    refine steps_sumK _ _ _ fun i hi => ?_
    have := rowH hb (i := i) (by rw [hXe]; omega)
    rw [hXe] at this
    exact this

theorem lin_tu (l : List Bx) : linX (l.map tuB) = linY l ∧ linY (l.map tuB) = linX l := by
  unfold linX linY
  rw [tu_filter, List.flatMap_map, List.flatMap_map]
  exact ⟨rfl, rfl⟩

theorem sideV_tu (l : List Bx) (X Y : List Int) (i k : Nat) : sideV l X Y i k = sideH (l.map tuB) Y X k i := by
  have h : ∀ i k : Int, isR (colsB l X Y) i k = isR (colsB (l.map tuB) Y X) k i := fun i k => by
    rw [isR_cols, isR_cols]
    by_cases hh : 0 ≤ i ∧ 0 ≤ k ∧ i.toNat < X.length - 1 ∧ k.toNat < Y.length - 1
    · rw [if_pos hh, if_pos ⟨hh.2.1, hh.1, hh.2.2.2, hh.2.2.1⟩, tuB_cov]
    · rw [if_neg hh, if_neg fun h' => hh ⟨h'.2.1, h'.1, h'.2.2.2, h'.2.2.1⟩]
  unfold sideV sideH
  rw [h, h]

theorem rimN_A {l : List Bx} (hb : ∀ b ∈ l, b.in64) : rimN l = (rimA l).toNat := by
  have h1 := sumH hb
  have h2 := sumH (tuB_in hb)
  rw [(lin_tu l).1, (lin_tu l).2, sumK_swap] at h2
  have h3 : rimN l = sumK (fun i => sumK (fun k => sideH (l.map tuB) (sqz (linY l)) (sqz (linX l)) k i) (sqz (linY l)).length) (sqz (linX l)).length + sumK (fun i => sumK (fun k => sideH l (sqz (linX l)) (sqz (linY l)) i k) (sqz (linY l)).length) (sqz (linX l)).length := by
    unfold rimN rimK rimC
    rw [← sumK_add]
    refine sumK_congr _ fun i _ => ?_
    rw [← sumK_add]
    exact sumK_congr _ fun k _ => by rw [sideV_tu]
  unfold rimA
  omega

theorem areaN_A {l : List Bx} (hb : ∀ b ∈ l, b.in64) : areaN l = (areaA l).toNat := by
  have := areaN_R hb
  unfold areaA
  omega
end Go.Proofs.YtokpdocabmaagaaGreat

namespace Go.Proofs.YtokpdocabmaagaaGreat
open Go.RowKit

theorem wide_same19 (a b : Int) (w : World) : (binOp .eql 27 (.agg #[.int .u64 a, .int .u64 b]) (.agg #[.int .u64 a, .int .u64 b])).run Tryz.prog w = .ok (.bool true) w := by
  rw [run_eql_struct, run_equalIn_agg _ _ _ _ _ (by kernel_rfl) (by kernel_rfl)]
  go_simp

set_option maxRecDepth 100000 in
set_option maxHeartbeats 8000000 in
theorem cellsSame_walk (v : Value) (l : List Bx) (w : World) (hs : See KBx w v l) (hb : ∀ b ∈ l, b.in64) :
    Calls Tryz.prog 14 #[v] w fun e w' => e = .returned (.bool true) ∧ Below w.heap.size w w' := by
  obtain ⟨A, C, rfl⟩ := hs.form
  by_cases hout : 25 < l.length
  · have d1 : decide ((25 : Int) < (l.length : Int)) = true := decide_eq_true (by omega)
    clear hs hb hout
    go_enter Tryz.func14, Tryz.ntmps14
    go_wp2_with fail
    (with_reducible refine (awake19 _).mono ?_)
    rintro e w6 ⟨rfl, hu6⟩
    have HU6 := Lib.hid hu6
    clear hu6
    go_wp2_with fail
    go_ret
    exact ⟨rfl, HU6.out.below⟩
  · have d1 : decide ((25 : Int) < (l.length : Int)) = false := decide_eq_false (by omega)
    obtain ⟨n, hn⟩ : ∃ n, l.length = n := ⟨_, rfl⟩
    have hs' : See KBx w (.slice A n C) l := by rw [← hn]; exact hs
    rw [hn] at d1 ⊢
    obtain ⟨ah, al, av, -, -⟩ := wideV_open (areaA l).toNat
    obtain ⟨rh, rl, rv, -, -⟩ := wideV_open (rimA l).toNat
    obtain ⟨E, hE⟩ : ∃ E : Nat, areaE l = E := ⟨_, rfl⟩
    obtain ⟨R, hR⟩ : ∃ R : Nat, rimE l = R := ⟨_, rfl⟩
    have ha : Calls Tryz.prog 17 #[.slice A n C] w fun e w' => e = .returned (.tuple #[.agg #[.int .u64 (ah : Int), .int .u64 (al : Int)], .int .i64 (E : Int)]) ∧ Upd [] w w' := by
      have := areaAll (.slice A n C) l w hs' (by omega) hb
      unfold AreaPost at this
      rw [hE, av] at this
      exact this
    have hr : ∀ W, Upd [] w W → Calls Tryz.prog 30 #[.slice A n C] W fun e w' => e = .returned (.tuple #[.agg #[.int .u64 (rh : Int), .int .u64 (rl : Int)], .int .i64 (R : Int)]) ∧ Upd [] W w' := fun W hW => by
      have := rimAll (.slice A n C) l W (hs'.upd0 hW) (by omega) hb
      unfold RimPost at this
      rw [hR, rv] at this
      exact this
    have hca : ∀ W, Upd [] w W → Calls Tryz.prog 40 #[.slice A n C] W fun e w' => e = .returned (.agg #[.int .u64 (ah : Int), .int .u64 (al : Int)]) ∧ Upd [] W w' := fun W hW => by
      have := areaC (.slice A n C) l W (hs'.upd0 hW) (by omega) hb
      rw [areaN_A hb, av] at this
      exact this
    have hcr : ∀ W, Upd [] w W → Calls Tryz.prog 41 #[.slice A n C] W fun e w' => e = .returned (.agg #[.int .u64 (rh : Int), .int .u64 (rl : Int)]) ∧ Upd [] W w' := fun W hW => by
      have := rimCC (.slice A n C) l W (hs'.upd0 hW) (by omega) hb
      rw [rimN_A hb, rv] at this
      exact this
    have HA := Lib.hid ha
    have HR := Lib.hid hr
    have HCA := Lib.hid hca
    have HCR := Lib.hid hcr
    clear hs hb hout hn hs' av rv hE hR ha hr hca hcr
    go_enter Tryz.func14, Tryz.ntmps14
    go_wp2_with fail
    clear d1
    (with_reducible refine HA.out.mono ?_)
    rintro e w1 ⟨rfl, hu1⟩
    have HN1 := Lib.hid (heap_alloc_new w1 (.cells #[.int .u64 (ah : Int), .int .u64 (al : Int)] 27))
    have HV1 := Lib.hid (show Upd [] w (w1.alloc (.cells #[.int .u64 (ah : Int), .int .u64 (al : Int)] 27)) from hu1.alloc _)
    clear hu1
    go_wp2_with fail
    (with_reducible refine (HR.out _ HV1.out).mono ?_)
    rintro e w2 ⟨rfl, hu2⟩
    have HN2 := Lib.hid (heap_alloc_new w2 (.cells #[.int .u64 (rh : Int), .int .u64 (rl : Int)] 27))
    have HV2 := Lib.hid (show Upd [] (w1.alloc (.cells #[.int .u64 (ah : Int), .int .u64 (al : Int)] 27)) (w2.alloc (.cells #[.int .u64 (rh : Int), .int .u64 (rl : Int)] 27)) from hu2.alloc _)
    clear hu2
    go_upto_region 5 with fail
    generalize w2.alloc (.cells #[.int .u64 (rh : Int), .int .u64 (rl : Int)] 27) = Wf at HN2 HV2 ⊢
    have b1 := (HV2.out.block _ (lt_of_block HN1.out) (by simp)).trans HN1.out
    have b2 := HN2.out
    have c10 : ∀ x : QW Wf, x.w.cell? ⟨w1.heap.size, 0, none⟩ = some (.int .u64 (ah : Int)) := fun x => by have := (x.up.block _ (lt_of_block b1) (by simp)).trans b1; simp [World.cell?, this]
    have c11 : ∀ x : QW Wf, x.w.cell? ⟨w1.heap.size, 1, none⟩ = some (.int .u64 (al : Int)) := fun x => by have := (x.up.block _ (lt_of_block b1) (by simp)).trans b1; simp [World.cell?, this]
    have c20 : ∀ x : QW Wf, x.w.cell? ⟨w2.heap.size, 0, none⟩ = some (.int .u64 (rh : Int)) := fun x => by have := (x.up.block _ (lt_of_block b2) (by simp)).trans b2; simp [World.cell?, this]
    have c21 : ∀ x : QW Wf, x.w.cell? ⟨w2.heap.size, 1, none⟩ = some (.int .u64 (rl : Int)) := fun x => by have := (x.up.block _ (lt_of_block b2) (by simp)).trans b2; simp [World.cell?, this]
    have HGW := Lib.hid (HV1.out.trans HV2.out)
    have H6 := Lib.hid (show ∀ x : QW Wf, Calls Tryz.prog 40 #[.slice A n C] x.w fun e w' => e = .returned (.agg #[.int .u64 (ah : Int), .int .u64 (al : Int)]) ∧ Upd [] x.w w' from fun x => HCA.out x.w (HGW.out.trans x.up))
    have H7 := Lib.hid (show ∀ x : QW Wf, Calls Tryz.prog 41 #[.slice A n C] x.w fun e w' => e = .returned (.agg #[.int .u64 (rh : Int), .int .u64 (rl : Int)]) ∧ Upd [] x.w w' from fun x => HCR.out x.w (HGW.out.trans x.up))
    have HWS := fun w => wide_same19 (ah : Int) (al : Int) w
    have HWR := fun w => wide_same19 (rh : Int) (rl : Int) w
    clear b1 b2
    refine wp_region_quietU (by kernel_rfl) (by kernel_rfl) ?_
    repeat (go_big_quiet_step (first | (with_reducible exact Calls.quietU (H6.out _)) | (with_reducible exact Calls.quietU (H7.out _)) | (with_reducible exact Calls.quietU (awake19 _))))
    refine wpQuiet_nil ?_
    intro wq hw'
    obtain ⟨⟨wy, hwq⟩, hw''⟩ := hw'
    dsimp only at hw''
    subst hw''
    go_wp2_with fail
    go_ret
    exact ⟨rfl, (HGW.out.trans hwq).below⟩
end Go.Proofs.YtokpdocabmaagaaGreat
