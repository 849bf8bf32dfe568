/- AreaOne: the walk. -/
import Derived.Test.YtokpdocabmaagaaGreatLaw17
import Derived.Test.YtokpdocabmaagaaGreatWideD
import Derived.Test.YtokpdocabmaagaaGreatOneP
import Derived.Test.YtokpdocabmaagaaGreatVarB
namespace Go.Proofs.YtokpdocabmaagaaGreat
open Go.RowKit

theorem wide_same (a b : Int) (w : World) : (binOp .eql 27 (.agg #[.int .u64 a, .int .u64 b]) (.agg #[.int .u64 a, .int .u64 b])).run Tryz.prog w = .ok (.bool true) w := by
  rw [run_eql_struct, run_equalIn_agg _ _ _ _ _ (by kernel_rfl) (by kernel_rfl)]
  go_simp
theorem wide_nsame (a b : Int) (w : World) : (binOp .neq 27 (.agg #[.int .u64 a, .int .u64 b]) (.agg #[.int .u64 a, .int .u64 b])).run Tryz.prog w = .ok (.bool false) w := by
  rw [run_neq_struct, run_equalIn_agg _ _ _ _ _ (by kernel_rfl) (by kernel_rfl)]
  go_simp

/-- cells, of a list of one box that was just made. -/
theorem cells_one (b : Bx) (hb : b.in64) (W : World) : Calls Tryz.prog 21 #[.slice (some ⟨W.heap.size, 0, none⟩) 1 1] (W.alloc (.cells #[.int .i64 b.x1, .int .i64 b.x2, .int .i64 b.y1, .int .i64 b.y2, .int .u32 (b.id : Int)] 34)) fun e w' => e = .returned (wideV (areaA [b]).toNat) ∧ Upd [] W w' := by
  refine (cells17 _ [b] _ (see_one W b) (by simp) (fun s hs => by rw [List.mem_singleton.1 hs]; exact hb)).mono ?_
  rintro e w' ⟨rfl, hu⟩
  exact ⟨rfl, ((Upd.refl _ _).alloc _).trans hu⟩

set_option maxRecDepth 100000 in
set_option maxHeartbeats 8000000 in
theorem areaOne_walk (v : Value) (l : List Bx) (w : World) (hs : See KBx w v l) (hb : ∀ b ∈ l, b.in64) :
    Calls Tryz.prog 6 #[v] w fun e w' => e = .returned (.bool true) ∧ Below w.heap.size w w' := by
  obtain ⟨A, C, rfl⟩ := hs.form
  by_cases hout : 20 < l.length
  · have d1 : decide ((20 : Int) < (l.length : Int)) = true := decide_eq_true (by omega)
    clear hs hb hout
    go_enter Tryz.func6, Tryz.ntmps6
    go_wp2_with fail
    (with_reducible refine (awake17 _).mono ?_)
    rintro e w6 ⟨rfl, hu6⟩
    have HU6 := Lib.hid hu6
    clear hu6
    go_wp2_with fail
    go_ret
    exact ⟨rfl, HU6.out.below⟩
  · have d1 : decide ((20 : Int) < (l.length : Int)) = false := decide_eq_false (by omega)
    obtain ⟨n, hn⟩ : ∃ n, l.length = n := ⟨_, rfl⟩
    have hnb : (n : Int) ≤ 20 := by omega
    have hs' : See KBx w (.slice A n C) l := by rw [← hn]; exact hs
    obtain ⟨hh, hlo, hv, eh, el⟩ := wideV_open (areaA l).toNat
    have hcl := cells17 (.slice A n C) l w hs' (by omega) hb
    rw [hv] at hcl
    rw [hn] at d1 ⊢
    have HN := Lib.hid hn
    have HS := Lib.hid hs'
    have HB := Lib.hid hb
    have HCL := Lib.hid hcl
    have HV := Lib.hid (And.intro hv (And.intro eh el))
    have HO0 := Lib.hid (show ∀ w, Calls Tryz.prog 23 #[.int .u64 0] w fun e w' => e = .returned (.agg #[.int .u64 0, .int .u64 0]) ∧ Upd [] w w' from fun w => wOfC 0 (by decide) w)
    clear hs hb hout hn hs' hcl hv eh el
    go_enter Tryz.func6, Tryz.ntmps6
    go_wp2_with fail
    clear d1
    (with_reducible refine HCL.out.mono ?_)
    rintro e w1 ⟨rfl, hu1⟩
    obtain ⟨W2, hW2⟩ : ∃ W2, w1.alloc (.cells #[.int .u64 (hh : Int), .int .u64 (hlo : Int)] 27) = W2 := ⟨_, rfl⟩
    obtain ⟨W3, hW3⟩ : ∃ W3, W2.alloc (.cells #[.int .i64 0, .int .i64 0, .int .i64 0, .int .i64 0, .int .u32 0] 34) = W3 := ⟨_, rfl⟩
    obtain ⟨p, hp⟩ : ∃ p, w1.heap.size = p := ⟨_, rfl⟩
    obtain ⟨q, hq⟩ : ∃ q, p + 1 = q := ⟨_, rfl⟩
    have hq0 : W2.heap.size = q := by rw [← hW2, ← hq, ← hp]; simp
    have hwa : WAt W2 p hh hlo := by rw [← hW2, ← hp]; exact WAt.new _ _ _
    have hu23 : Upd [] W2 W3 := by rw [← hW3]; exact (Upd.refl _ _).alloc _
    have hba : BAt W3 q ⟨0, 0, 0, 0, 0⟩ := by rw [← hW3, ← hq0]; exact BAt.new _ ⟨0, 0, 0, 0, 0⟩
    have huW : Upd [] w W3 := by
      have : Upd [] w1 W2 := by rw [← hW2]; exact (Upd.refl _ _).alloc _
      exact hu1.trans (this.trans hu23)
    have hwp : w.heap.size ≤ p := by rw [← hp]; exact hu1.size
    have HI := Lib.hid (And.intro (hwa.upd0 hu23) (And.intro hba (And.intro huW hwp)))
    have HE := Lib.hid (And.intro hW2 (And.intro hW3 (And.intro hp hq)))
    clear hu1 hW2 hW3 hp hq hq0 hwa hu23 hba huW hwp
    go_wp2_with fail
    rw [HE.out.1, HE.out.2.1, HE.out.2.2.1, HE.out.2.2.2]
    go_loopg [5, 17] n (fun m s5 s17 wr => ∃ k f a, m + k = n ∧ s5 = .bool f ∧ s17 = .int .i64 (k : Int) ∧ a.id = 0 ∧ a.in64 ∧ (f = true → ∀ c ∈ l.take k, c.counts = false) ∧ (∀ c ∈ l.take k, c.counts = true → a.within c) ∧ BAt wr q a ∧ WAt wr p hh hlo ∧ Upd [] w wr)
    case atStart =>
      exact ⟨0, true, ⟨0, 0, 0, 0, 0⟩, rfl, rfl, rfl, rfl, by unfold Bx.in64; dsimp only; omega, by simp, by simp, HI.out.2.1, HI.out.1, HI.out.2.2.1⟩
    case round =>
      obtain ⟨k, f, a, hk, rfl, rfl, ha0, ha, hf, hall, hba, hwa, hu⟩ := hrel
      have b0 : (0 : Int) ≤ (k : Int) := Int.natCast_nonneg _
      have HPQ := Lib.hid (show w.heap.size ≤ p ∧ p < q ∧ q < wr.heap.size from ⟨HI.out.2.2.2, by rw [← HE.out.2.2.2]; omega, hba.lt⟩)
      by_cases hlt : k < n
      · obtain ⟨b, hbi⟩ : ∃ b, l[k]? = some b := ⟨_, List.getElem?_eq_getElem (by have := HN.out; omega)⟩
        have hb64 := HB.out b (List.mem_of_getElem? hbi)
        obtain ⟨bl, ol, hA, -, -, l0, l1, l2, l3, l4⟩ := KBx.at (HS.out.upd0 hu) hbi
        subst hA
        have b1 : (k : Int) < (n : Int) := by omega
        have htk : l.take (k + 1) = l.take k ++ [b] := by rw [List.take_add_one, hbi]; rfl
        obtain ⟨gh, gl, gv, egh, egl⟩ := wideV_open (areaA [b]).toNat
        have hone := fun W => cells_one b hb64 W
        rw [gv] at hone
        have HF := Lib.hid (And.intro ha0 (And.intro ha (And.intro hf hall)))
        have HST := Lib.hid (And.intro hba (And.intro hwa hu))
        have HK := Lib.hid (And.intro hk hlt)
        have HMEM := Lib.hid (And.intro htk (And.intro hb64 (List.mem_of_getElem? hbi)))
        have HONE := Lib.hid hone
        have HG := Lib.hid (And.intro gv (And.intro egh egl))
        have HBN := Lib.hid (BAt.new wr b)
        have HBU := Lib.hid (show Upd [] wr (wr.alloc (.cells #[.int .i64 b.x1, .int .i64 b.x2, .int .i64 b.y1, .int .i64 b.y2, .int .u32 (b.id : Int)] 34)) from (Upd.refl _ _).alloc _)
        clear ha0 ha hf hall hba hwa hu hk hlt htk hb64 hbi hone gv egh egl
        go_upto_region 9 with fail
        generalize (wr.alloc (.cells #[.int .i64 b.x1, .int .i64 b.x2, .int .i64 b.y1, .int .i64 b.y2, .int .u32 (b.id : Int)] 34)) = Wb at HBN HBU ⊢
        have HQ2 := Lib.hid (show q < wr.heap.size from HPQ.out.2.2)
        generalize wr.heap.size = r at HBN HQ2 HPQ ⊢
        obtain ⟨c0, c1, c2, c3, c4⟩ := HBN.out.cells
        go_wp2_with fail
        clear c0 c1 c2 c3 c4
        (with_reducible refine (HONE.out _).mono ?_)
        rintro e w4 ⟨rfl, hu4⟩
        have HBN4 := Lib.hid (HBN.out.upd0 (hu4.alloc (.cells #[.int .u64 (gh : Int), .int .u64 (gl : Int)] 27)))
        have HWN := Lib.hid (WAt.new w4 gh gl)
        have HU4 := Lib.hid (HBU.out.trans (hu4.alloc (.cells #[.int .u64 (gh : Int), .int .u64 (gl : Int)] 27)))
        clear hu4
        go_upto_region 10 with fail
        generalize (w4.alloc (.cells #[.int .u64 (gh : Int), .int .u64 (gl : Int)] 27)) = Wc at HBN4 HWN HU4 ⊢
        generalize w4.heap.size = s at HWN ⊢
        obtain ⟨c0, c1, c2, c3, c4⟩ := HBN4.out.cells
        obtain ⟨z0, z1⟩ := HWN.out.cells
        have HST4 := Lib.hid (And.intro (HST.out.1.upd0 HU4.out) (And.intro (HST.out.2.1.upd0 HU4.out) (HST.out.2.2.trans HU4.out)))
        by_cases hcn : b.counts = true
        · have hcc := hcn
          unfold Bx.counts at hcc
          simp only [decide_eq_true_eq] at hcc
          have g1 : decide (b.x2 ≤ b.x1) = false := decide_eq_false (by omega)
          have g2 : decide (b.y2 ≤ b.y1) = false := decide_eq_false (by omega)
          have hin := HMEM.out.2.1
          unfold Bx.in64 at hin
          have h12 := areaA_oneN HMEM.out.2.1 hcn
          obtain ⟨D1, hD1⟩ := Int.eq_ofNat_of_zero_le (show 0 ≤ b.x2 - b.x1 by omega)
          obtain ⟨D2, hD2⟩ := Int.eq_ofNat_of_zero_le (show 0 ≤ b.y2 - b.y1 by omega)
          rw [hD1, hD2] at h12
          simp only [Int.toNat_natCast] at h12
          have hd1 : ∀ w, Calls Tryz.prog 25 #[.int .i64 b.x1, .int .i64 b.x2] w fun e w' => e = .returned (.int .u64 (D1 : Int)) ∧ Upd [] w w' := fun w => by
            refine (diffC b.x1 b.x2 w hin.1 hin.2.1).mono ?_
            rintro e w' ⟨rfl, rfl⟩
            exact ⟨by unfold diffN; rw [if_neg (by omega), hD1], Upd.refl _ _⟩
          have hd2 : ∀ w, Calls Tryz.prog 25 #[.int .i64 b.y1, .int .i64 b.y2] w fun e w' => e = .returned (.int .u64 (D2 : Int)) ∧ Upd [] w w' := fun w => by
            refine (diffC b.y1 b.y2 w hin.2.2.1 hin.2.2.2).mono ?_
            rintro e w' ⟨rfl, rfl⟩
            exact ⟨by unfold diffN; rw [if_neg (by omega), hD2], Upd.refl _ _⟩
          have hmu : ∀ w, Calls Tryz.prog 24 #[.int .u64 (D1 : Int), .int .u64 (D2 : Int)] w fun e w' => e = .returned (.agg #[.int .u64 (gh : Int), .int .u64 (gl : Int)]) ∧ Upd [] w w' := fun w => by
            have := wMulC D1 D2 (by omega) (by omega) w
            rw [← h12, HG.out.1] at this
            exact this
          have hle := areaA_mem HMEM.out.2.2
          obtain ⟨cc, hcc', hc0⟩ : ∃ cc, cmp3 ((areaA [b]).toNat : Int) ((areaA l).toNat : Int) = cc ∧ cc ≤ 0 := ⟨_, rfl, cmp3_le (toN_le hle)⟩
          have hcm : ∀ w, Calls Tryz.prog 26 #[.agg #[.int .u64 (gh : Int), .int .u64 (gl : Int)], .agg #[.int .u64 (hh : Int), .int .u64 (hlo : Int)]] w fun e w' => e = .returned (.int .i64 cc) ∧ Upd [] w w' := fun w => by
            have := wCmpC (areaA [b]).toNat (areaA l).toNat w
            rw [hcc', HG.out.1, HV.out.1] at this
            exact this
          have g3 : decide (0 < cc) = false := decide_eq_false (by omega)
          have HD1 := Lib.hid hd1
          have HD2 := Lib.hid hd2
          have HMU := Lib.hid hmu
          have HCM := Lib.hid hcm
          clear hcc hin h12 hD1 hD2 hd1 hd2 hmu hle hcc' hc0 hcm
          go_upto_region 13 with fail
          have x0 : ∀ x : QW Wc, x.w.cell? ⟨r, 0, none⟩ = some (.int .i64 b.x1) := fun x => (HBN4.out.upd0 x.up).cells.1
          have x1 : ∀ x : QW Wc, x.w.cell? ⟨r, 1, none⟩ = some (.int .i64 b.x2) := fun x => (HBN4.out.upd0 x.up).cells.2.1
          have x2 : ∀ x : QW Wc, x.w.cell? ⟨r, 2, none⟩ = some (.int .i64 b.y1) := fun x => (HBN4.out.upd0 x.up).cells.2.2.1
          have x3 : ∀ x : QW Wc, x.w.cell? ⟨r, 3, none⟩ = some (.int .i64 b.y2) := fun x => (HBN4.out.upd0 x.up).cells.2.2.2.1
          have x5 : ∀ x : QW Wc, x.w.cell? ⟨s, 0, none⟩ = some (.int .u64 (gh : Int)) := fun x => (HWN.out.upd0 x.up).cells.1
          have x6 : ∀ x : QW Wc, x.w.cell? ⟨s, 1, none⟩ = some (.int .u64 (gl : Int)) := fun x => (HWN.out.upd0 x.up).cells.2
          have x7 : ∀ x : QW Wc, x.w.cell? ⟨p, 0, none⟩ = some (.int .u64 (hh : Int)) := fun x => (HST4.out.2.1.upd0 x.up).cells.1
          have x8 : ∀ x : QW Wc, x.w.cell? ⟨p, 1, none⟩ = some (.int .u64 (hlo : Int)) := fun x => (HST4.out.2.1.upd0 x.up).cells.2
          have HNS := fun w => wide_nsame (gh : Int) (gl : Int) w
          clear c0 c1 c2 c3 c4 z0 z1
          refine wp_region_quietU (by kernel_rfl) (by kernel_rfl) ?_
          repeat (go_big_quiet_step (first | (with_reducible exact Calls.quietU (HD1.out _)) | (with_reducible exact Calls.quietU (HD2.out _)) | (with_reducible exact Calls.quietU (HMU.out _)) | (with_reducible exact Calls.quietU (HCM.out _))))
          refine wpQuiet_nil ?_
          intro wq hw'
          obtain ⟨⟨wy, hwq⟩, hw''⟩ := hw'
          dsimp only at hw''
          subst hw''
          clear x0 x1 x2 x3 x5 x6 x7 x8 HNS g1 g2 g3
          have HSTq := Lib.hid (And.intro (HST4.out.1.upd0 hwq) (And.intro (HST4.out.2.1.upd0 hwq) (HST4.out.2.2.trans hwq)))
          have HBq := Lib.hid (HBN4.out.upd0 hwq)
          clear hwq
          cases f
          · -- not the first
            obtain ⟨c0, c1, c2, c3, c4⟩ := HBq.out.cells
            obtain ⟨a0, a1, a2, a3, a4⟩ := HSTq.out.1.cells
            go_wp2_with fail
            obtain ⟨X1, e1⟩ : ∃ X, min a.x1 b.x1 = X := ⟨_, rfl⟩
            obtain ⟨Y1, e2⟩ : ∃ X, min a.y1 b.y1 = X := ⟨_, rfl⟩
            obtain ⟨X2, e3⟩ : ∃ X, max a.x2 b.x2 = X := ⟨_, rfl⟩
            obtain ⟨Y2, e4⟩ : ∃ X, max a.y2 b.y2 = X := ⟨_, rfl⟩
            have hJ : a.join b = ⟨X1, X2, Y1, Y2, 0⟩ := by unfold Bx.join; rw [e1, e2, e3, e4]
            rw [e1, e2, e3, e4]
            have HJ := Lib.hid hJ
            clear e1 e2 e3 e4 hJ
            clear c0 c1 c2 c3 c4 a0 a1 a2 a3 a4
            (with_reducible refine (boxC17 _ _ _ _ _).mono ?_)
            rintro e w6 ⟨rfl, hu6⟩
            have hb6 := HSTq.out.1.upd0 hu6
            have u6 := upd_puts q [.int .i64 X1, .int .i64 X2, .int .i64 Y1, .int .i64 Y2, .int .u32 0] 0 w6
            have HN6 := Lib.hid (And.intro (show BAt (w6.setCells q 0 [.int .i64 X1, .int .i64 X2, .int .i64 Y1, .int .i64 Y2, .int .u32 0]) q ⟨X1, X2, Y1, Y2, 0⟩ from hb6.puts ⟨X1, X2, Y1, Y2, 0⟩)
              (And.intro ((HSTq.out.2.1.upd0 hu6).upd u6 (by have := HPQ.out.2.1; simp; omega)) ((HSTq.out.2.2.trans hu6).trans' u6 (fun j hj => .inr (by have := HPQ.out; simp at hj; omega)))))
            have HTH := Lib.hid hb6.there
            clear hb6 u6 hu6
            dsimp only
            go_step
            refine wpList_store_mid (P := Tryz.prog) (x := .tmp 4) (y := .tmp 80) rfl 34 rfl q 0 #[.int .i64 X1, .int .i64 X2, .int .i64 Y1, .int .i64 Y2, .int .u32 0] (by simp [Act.eval]) (by simp [Act.eval]) HTH.out (by kernel_rfl) (all_oneCell_toArray (by simp [Value.oneCell'])) ?_
            simp only [Act.put]
            go_wp2_with fail
            go_roundg (n - (k + 1))
            case measure => have := HK.out; omega
            case rel =>
              refine ⟨k + 1, false, ⟨X1, X2, Y1, Y2, 0⟩, by have := HK.out; omega, rfl, by go_num, rfl, ?_, by simp, fun c hc h => ?_, HN6.out⟩
              · rw [← HJ.out]; exact join_in HF.out.2.1 HMEM.out.2.1
              · rw [← HJ.out]
                rw [HMEM.out.1] at hc
                rcases List.mem_append.1 hc with hc | hc
                · exact join_l (HF.out.2.2.2 c hc h)
                · rw [List.mem_singleton.1 hc]; exact join_r _ _
          · -- the first
            obtain ⟨c0, c1, c2, c3, c4⟩ := HBq.out.cells
            have u5 := upd_puts q [.int .i64 b.x1, .int .i64 b.x2, .int .i64 b.y1, .int .i64 b.y2, .int .u32 (b.id : Int)] 0 wq
            have HS5 := Lib.hid (And.intro (HSTq.out.1.puts b) (And.intro (HSTq.out.2.1.upd u5 (by have := HPQ.out.2.1; simp; omega)) (HSTq.out.2.2.trans' u5 (fun j hj => .inr (by have := HPQ.out; simp at hj; omega)))))
            have HB5 := Lib.hid (HBq.out.upd u5 (by have := HQ2.out; simp; omega))
            have HTH := Lib.hid HSTq.out.1.there
            clear u5
            go_upto_region 16 with fail
            go_step
            go_step
            go_step
            go_step
            refine wpList_store_mid (P := Tryz.prog) (x := .tmp 4) (y := .tmp 59) rfl 34 rfl q 0 #[.int .i64 b.x1, .int .i64 b.x2, .int .i64 b.y1, .int .i64 b.y2, .int .u32 (b.id : Int)] (by simp [Act.eval]) (by simp [Act.eval]) HTH.out (by kernel_rfl) (all_oneCell_toArray (by simp [Value.oneCell'])) ?_
            simp only [Act.put]
            go_upto_region 17 with fail
            clear HTH
            generalize wq.setCells q 0 [.int .i64 b.x1, .int .i64 b.x2, .int .i64 b.y1, .int .i64 b.y2, .int .u32 (b.id : Int)] = W5 at HS5 HB5 ⊢
            clear c0 c1 c2 c3 c4
            obtain ⟨c0, c1, c2, c3, c4⟩ := HB5.out.cells
            obtain ⟨a0, a1, a2, a3, a4⟩ := HS5.out.1.cells
            go_wp2_with fail
            have hJ : b.join b = ⟨b.x1, b.x2, b.y1, b.y2, 0⟩ := by unfold Bx.join; simp
            have HJ := Lib.hid hJ
            clear hJ
            clear c0 c1 c2 c3 c4 a0 a1 a2 a3 a4
            (with_reducible refine (boxC17 _ _ _ _ _).mono ?_)
            rintro e w6 ⟨rfl, hu6⟩
            have hb6 := HS5.out.1.upd0 hu6
            have u6 := upd_puts q [.int .i64 b.x1, .int .i64 b.x2, .int .i64 b.y1, .int .i64 b.y2, .int .u32 0] 0 w6
            have HN6 := Lib.hid (And.intro (show BAt (w6.setCells q 0 [.int .i64 b.x1, .int .i64 b.x2, .int .i64 b.y1, .int .i64 b.y2, .int .u32 0]) q ⟨b.x1, b.x2, b.y1, b.y2, 0⟩ from hb6.puts ⟨b.x1, b.x2, b.y1, b.y2, 0⟩)
              (And.intro ((HS5.out.2.1.upd0 hu6).upd u6 (by have := HPQ.out.2.1; simp; omega)) ((HS5.out.2.2.trans hu6).trans' u6 (fun j hj => .inr (by have := HPQ.out; simp at hj; omega)))))
            have HTH := Lib.hid hb6.there
            clear hb6 u6 hu6
            dsimp only
            go_step
            refine wpList_store_mid (P := Tryz.prog) (x := .tmp 4) (y := .tmp 80) rfl 34 rfl q 0 #[.int .i64 b.x1, .int .i64 b.x2, .int .i64 b.y1, .int .i64 b.y2, .int .u32 0] (by simp [Act.eval]) (by simp [Act.eval]) HTH.out (by kernel_rfl) (all_oneCell_toArray (by simp [Value.oneCell'])) ?_
            simp only [Act.put]
            go_wp2_with fail
            go_roundg (n - (k + 1))
            case measure => have := HK.out; omega
            case rel =>
              refine ⟨k + 1, false, ⟨b.x1, b.x2, b.y1, b.y2, 0⟩, by have := HK.out; omega, rfl, by go_num, rfl, ?_, by simp, fun c hc h => ?_, HN6.out⟩
              · rw [← HJ.out]; exact join_in HMEM.out.2.1 HMEM.out.2.1
              · rw [← HJ.out]
                rw [HMEM.out.1] at hc
                rcases List.mem_append.1 hc with hc | hc
                · rw [HF.out.2.2.1 (by simp) c hc] at h; exact absurd h (by simp)
                · rw [List.mem_singleton.1 hc]; exact join_r _ _
        · have hcf : b.counts = false := by
            cases h : b.counts
            · rfl
            · exact absurd h hcn
          have hz : gh = 0 ∧ gl = 0 := by
            have h1 := HG.out.2
            rw [areaA_flat hcf] at h1
            exact h1
          obtain ⟨rfl, rfl⟩ := hz
          have hcc := hcf
          unfold Bx.counts at hcc
          simp only [decide_eq_false_iff_not] at hcc
          rcases (by omega : b.x2 ≤ b.x1 ∨ (¬ b.x2 ≤ b.x1 ∧ b.y2 ≤ b.y1)) with h1 | ⟨h1, h2⟩
          · have g1 : decide (b.x2 ≤ b.x1) = true := decide_eq_true h1
            clear h1 hcc
            go_upto_region 11 with fail
            have x5 : ∀ x : QW Wc, x.w.cell? ⟨s, 0, none⟩ = some (.int .u64 0) := fun x => (HWN.out.upd0 x.up).cells.1
            have x6 : ∀ x : QW Wc, x.w.cell? ⟨s, 1, none⟩ = some (.int .u64 0) := fun x => (HWN.out.upd0 x.up).cells.2
            have HNS := fun w => wide_nsame 0 0 w
            clear c0 c1 c2 c3 c4 z0 z1
            refine wp_region_quietU (by kernel_rfl) (by kernel_rfl) ?_
            repeat (go_big_quiet_step (first | (with_reducible exact Calls.quietU (HO0.out _))))
            refine wpQuiet_nil ?_
            intro wq hw'
            obtain ⟨⟨wy, hwq⟩, hw''⟩ := hw'
            dsimp only at hw''
            subst hw''
            clear x5 x6 HNS
            have HSTq := Lib.hid (And.intro (HST4.out.1.upd0 hwq) (And.intro (HST4.out.2.1.upd0 hwq) (HST4.out.2.2.trans hwq)))
            clear hwq
            go_wp2_with fail
            go_roundg (n - (k + 1))
            case measure => have := HK.out; omega
            case rel =>
              refine ⟨k + 1, f, a, by have := HK.out; omega, rfl, by go_num, HF.out.1, HF.out.2.1, fun hf c hc => ?_, fun c hc h => ?_, HSTq.out⟩
              · rw [HMEM.out.1] at hc
                rcases List.mem_append.1 hc with hc | hc
                · exact HF.out.2.2.1 hf c hc
                · rw [List.mem_singleton.1 hc]; exact hcf
              · rw [HMEM.out.1] at hc
                rcases List.mem_append.1 hc with hc | hc
                · exact HF.out.2.2.2 c hc h
                · rw [List.mem_singleton.1 hc, hcf] at h; exact absurd h (by simp)
          · have g1 : decide (b.x2 ≤ b.x1) = false := decide_eq_false h1
            have g2 : decide (b.y2 ≤ b.y1) = true := decide_eq_true h2
            clear h1 h2 hcc
            go_upto_region 11 with fail
            have x5 : ∀ x : QW Wc, x.w.cell? ⟨s, 0, none⟩ = some (.int .u64 0) := fun x => (HWN.out.upd0 x.up).cells.1
            have x6 : ∀ x : QW Wc, x.w.cell? ⟨s, 1, none⟩ = some (.int .u64 0) := fun x => (HWN.out.upd0 x.up).cells.2
            have HNS := fun w => wide_nsame 0 0 w
            clear c0 c1 c2 c3 c4 z0 z1
            refine wp_region_quietU (by kernel_rfl) (by kernel_rfl) ?_
            repeat (go_big_quiet_step (first | (with_reducible exact Calls.quietU (HO0.out _))))
            refine wpQuiet_nil ?_
            intro wq hw'
            obtain ⟨⟨wy, hwq⟩, hw''⟩ := hw'
            dsimp only at hw''
            subst hw''
            clear x5 x6 HNS
            have HSTq := Lib.hid (And.intro (HST4.out.1.upd0 hwq) (And.intro (HST4.out.2.1.upd0 hwq) (HST4.out.2.2.trans hwq)))
            clear hwq
            go_wp2_with fail
            go_roundg (n - (k + 1))
            case measure => have := HK.out; omega
            case rel =>
              refine ⟨k + 1, f, a, by have := HK.out; omega, rfl, by go_num, HF.out.1, HF.out.2.1, fun hf c hc => ?_, fun c hc h => ?_, HSTq.out⟩
              · rw [HMEM.out.1] at hc
                rcases List.mem_append.1 hc with hc | hc
                · exact HF.out.2.2.1 hf c hc
                · rw [List.mem_singleton.1 hc]; exact hcf
              · rw [HMEM.out.1] at hc
                rcases List.mem_append.1 hc with hc | hc
                · exact HF.out.2.2.2 c hc h
                · rw [List.mem_singleton.1 hc, hcf] at h; exact absurd h (by simp)
      · have htk : l.take k = l := List.take_of_length_le (by have := HN.out; omega)
        rw [htk] at hall
        have hle := areaA_hull hall
        obtain ⟨gh, gl, gv, -, -⟩ := wideV_open (areaA [a]).toNat
        have hone : Calls Tryz.prog 21 #[.slice (some ⟨wr.heap.size, 0, none⟩) 1 1] (wr.alloc (.cells #[.int .i64 a.x1, .int .i64 a.x2, .int .i64 a.y1, .int .i64 a.y2, .int .u32 (a.id : Int)] 34)).drew fun e w' => e = .returned (wideV (areaA [a]).toNat) ∧ Upd [] (wr.alloc (.cells #[.int .i64 a.x1, .int .i64 a.x2, .int .i64 a.y1, .int .i64 a.y2, .int .u32 (a.id : Int)] 34)).drew w' :=
          cells17 _ [a] _ (show See KBx (wr.alloc (.cells #[.int .i64 a.x1, .int .i64 a.x2, .int .i64 a.y1, .int .i64 a.y2, .int .u32 (a.id : Int)] 34)).drew _ [a] from see_one wr a) (by simp) (fun s hs => by rw [List.mem_singleton.1 hs]; exact ha)
        rw [gv] at hone
        obtain ⟨cc, hcc', hc0⟩ : ∃ cc, cmp3 ((areaA l).toNat : Int) ((areaA [a]).toNat : Int) = cc ∧ cc ≤ 0 := ⟨_, rfl, cmp3_le (toN_le hle)⟩
        have hcm : ∀ w, Calls Tryz.prog 26 #[.agg #[.int .u64 (hh : Int), .int .u64 (hlo : Int)], .agg #[.int .u64 (gh : Int), .int .u64 (gl : Int)]] w fun e w' => e = .returned (.int .i64 cc) ∧ Upd [] w w' := fun w => by
          have := wCmpC (areaA l).toNat (areaA [a]).toNat w
          rw [hcc', gv, HV.out.1] at this
          exact this
        have g3 : decide (cc ≤ 0) = true := decide_eq_true hc0
        have HONE := Lib.hid hone
        have HCM := Lib.hid hcm
        have HU := Lib.hid hu
        have HCE := Lib.hid (And.intro hwa.cells.1 (And.intro hwa.cells.2 hba.cells))
        clear hk hf hall hba hwa hu htk hle gv hone hcc' hc0 hcm ha0 ha
        have b1 : ¬ (k : Int) < (n : Int) := by omega
        clear hlt
        go_upto_region 19 with fail
        -- region 19: T waits for all loads; fuel 5
        refine GoT.start [4, 5, 6, 7, 8, 9] (fun w' => w'.cell? ⟨p, 0, none⟩ = some (.int .u64 (hh : Int)) ∧ w'.cell? ⟨p, 1, none⟩ = some (.int .u64 (hlo : Int)) ∧ w'.cell? ⟨q, 0, none⟩ = some (.int .i64 a.x1) ∧ w'.cell? ⟨q, 1, none⟩ = some (.int .i64 a.x2) ∧ w'.cell? ⟨q, 2, none⟩ = some (.int .i64 a.y1) ∧ w'.cell? ⟨q, 3, none⟩ = some (.int .i64 a.y2) ∧ w'.cell? ⟨q, 4, none⟩ = some (.int .u32 (a.id : Int))) (by kernel_rfl) ?_ fun hS => ?_
        · exact keep7 HCE.out ((Upd.refl _ _).drew)
        refine' GoT.take 5 (i := 0) (oi := ⟨some 82, _, _, _, _, _⟩) (v := _) rfl (by kernel_rfl) (by kernel_rfl) (by kernel_rfl) (by kernel_rfl) (fun _ _ _ h => h) (Or.inl ⟨by rfl, ?y19_0⟩) (by assumption) ?r19_0
        case y19_0 => intro w hSw; go_simp <;> with_reducible rfl
        simp only [Act.put, List.setIfInBounds_toArray, List.set_cons_zero, List.set_cons_succ]
        refine' GoT.take 5 (i := 1) (oi := ⟨some 83, _, _, _, _, _⟩) (v := _) rfl (by kernel_rfl) (by kernel_rfl) (by kernel_rfl) (by kernel_rfl) (fun _ _ _ h => h) (Or.inl ⟨by rfl, ?y19_1⟩) (by assumption) ?r19_1
        case y19_1 => intro w hSw; go_simp <;> with_reducible rfl
        simp only [Act.put, List.setIfInBounds_toArray, List.set_cons_zero, List.set_cons_succ]
        -- 2: Go.Op.buildSlice 22 1 #[(0, Go.Operand.tmp 83)]
        refine GoT.one (i := 2) (o := ⟨some 84, _, _, _, _, _⟩) rfl (by kernel_rfl) fun K hK => ?_
        go_simp
        refine hK.out _ _ (fun _ h => ?_) ?_
        · exact keep7 h ((Upd.refl _ _).alloc _)
        clear hK K
        try simp only [Act.put, List.setIfInBounds_toArray, List.set_cons_zero, List.set_cons_succ]
        -- 3: Go.Op.call { callee := Go.Callee.value (Go.Operand.func 21), args := #[Go.Operand.tmp 84], argTypes := #[22] }
        refine GoT.one (i := 3) (o := ⟨some 85, _, _, _, _, _⟩) rfl (by kernel_rfl) fun K hK => ?_
        go_simp
        go_at_call 21
        (with_reducible refine HONE.out.mono ?_)
        rintro e w4 ⟨rfl, hu4⟩
        refine hK.out _ _ (fun _ h => ?_) ?_
        · exact keep7 h hu4
        clear hK K
        try simp only [Act.put, List.setIfInBounds_toArray, List.set_cons_zero, List.set_cons_succ]
        have HU4 := Lib.hid hu4
        clear hu4
        -- 4: Go.Op.call { callee := Go.Callee.value (Go.Operand.func 26), args := #[Go.Operand.tmp 82, Go.Operand.tmp 85], argTypes := #[27, 27] }
        refine GoT.one (i := 4) (o := ⟨some 86, _, _, _, _, _⟩) rfl (by kernel_rfl) fun K hK => ?_
        go_simp
        go_at_call 26
        (with_reducible refine (HCM.out _).mono ?_)
        rintro e w5 ⟨rfl, hu5⟩
        refine hK.out _ _ (fun h => (by cases h)) ?_
        clear hK K
        try simp only [Act.put, List.setIfInBounds_toArray, List.set_cons_zero, List.set_cons_succ]
        have HU5 := Lib.hid hu5
        clear hu5
        refine' GoT.move (i := 5) (oi := ⟨some 87, _, _, _, _, _⟩) (v := _) rfl (by kernel_rfl) (by kernel_rfl) (by kernel_rfl) (fun _ _ _ h => h) (Or.inl ⟨by rfl, ?y19_5⟩) ?r19_5
        case y19_5 => intro w; go_simp <;> with_reducible rfl
        simp only [Act.put, List.setIfInBounds_toArray, List.set_cons_zero, List.set_cons_succ]
        refine' GoT.move (i := 6) (oi := ⟨some 88, _, _, _, _, _⟩) (v := _) rfl (by kernel_rfl) (by kernel_rfl) (by kernel_rfl) (fun _ _ _ h => h) (Or.inl ⟨by rfl, ?y19_6⟩) ?r19_6
        case y19_6 => intro w; go_simp <;> with_reducible rfl
        simp only [Act.put, List.setIfInBounds_toArray, List.set_cons_zero, List.set_cons_succ]
        -- 7: Go.Op.call { callee := Go.Callee.value (Go.Operand.func 15), args := #[], argTypes := #[] }
        refine GoT.one (i := 7) (o := ⟨some 89, _, _, _, _, _⟩) rfl (by kernel_rfl) fun K hK => ?_
        go_simp
        go_at_call 15
        (with_reducible refine (awake17 _).mono ?_)
        rintro e w6 ⟨rfl, hu6⟩
        refine hK.out _ _ (fun h => (by cases h)) ?_
        clear hK K
        try simp only [Act.put, List.setIfInBounds_toArray, List.set_cons_zero, List.set_cons_succ]
        have HU6 := Lib.hid hu6
        clear hu6
        refine' GoT.move (i := 8) (oi := ⟨some 90, _, _, _, _, _⟩) (v := _) rfl (by kernel_rfl) (by kernel_rfl) (by kernel_rfl) (fun _ _ _ h => h) (Or.inl ⟨by rfl, ?y19_8⟩) ?r19_8
        case y19_8 => intro w; go_simp <;> with_reducible rfl
        simp only [Act.put, List.setIfInBounds_toArray, List.set_cons_zero, List.set_cons_succ]
        refine' GoT.move (i := 9) (oi := ⟨some 2, _, _, _, _, _⟩) (v := _) rfl (by kernel_rfl) (by kernel_rfl) (by kernel_rfl) (fun _ _ _ h => h) (Or.inl ⟨by rfl, ?y19_9⟩) ?r19_9
        case y19_9 => intro w; go_simp <;> with_reducible rfl
        simp only [Act.put, List.setIfInBounds_toArray, List.set_cons_zero, List.set_cons_succ]
        refine GoT.done (by kernel_rfl) ?_
        go_wp2_with fail
        go_ret
        exact ⟨rfl, (HU.out.trans ((show Upd [] wr ((wr.alloc (.cells #[.int .i64 a.x1, .int .i64 a.x2, .int .i64 a.y1, .int .i64 a.y2, .int .u32 (a.id : Int)] 34)).drew) from ((Upd.refl _ _).alloc _).drew).trans (HU4.out.trans (HU5.out.trans HU6.out)))).below⟩
end Go.Proofs.YtokpdocabmaagaaGreat
