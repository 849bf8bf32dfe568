/- AreaBoth: the walk. -/
import Derived.Test.YtokpdocabmaagaaGreatLaw17
import Derived.Test.YtokpdocabmaagaaGreatWideD
import Derived.Test.YtokpdocabmaagaaGreatOneP
import Derived.Test.YtokpdocabmaagaaGreatVarB
namespace Go.Proofs.YtokpdocabmaagaaGreat
open Go.RowKit

theorem wide_sameB (a b : Int) (w : World) : (binOp .eql 27 (.agg #[.int .u64 a, .int .u64 b]) (.agg #[.int .u64 a, .int .u64 b])).run Tryz.prog w = .ok (.bool true) w := by
  rw [run_eql_struct, run_equalIn_agg _ _ _ _ _ (by kernel_rfl) (by kernel_rfl)]
  go_simp

theorem right_cell {b : Bx} (h : rightB b = false) (x y : Int) : b.cell x y = false := by
  unfold rightB at h
  unfold Bx.cell
  rw [Bool.and_eq_false_iff, decide_eq_false_iff_not, decide_eq_false_iff_not] at h
  rw [decide_eq_false_iff_not]
  omega

set_option maxRecDepth 100000 in
set_option maxHeartbeats 8000000 in
theorem areaBoth_walk (v v2 : Value) (l M : List Bx) (w : World) (hs : See KBx w v l) (hb : ∀ b ∈ l, b.in64) (hs2 : See KBx w v2 M) (hb2 : ∀ b ∈ M, b.in64) :
    Calls Tryz.prog 11 #[v, v2] w fun e w' => e = .returned (.bool true) ∧ Below w.heap.size w w' := by
  obtain ⟨A, C, rfl⟩ := hs.form
  obtain ⟨A', C', rfl⟩ := hs2.form
  by_cases hout : 8 < l.length ∨ 8 < M.length
  · clear hs hb hs2 hb2
    rcases (by omega : 8 < l.length ∨ (¬ 8 < l.length ∧ 8 < M.length)) with h | ⟨h, h'⟩
    · have d1 : decide ((8 : Int) < (l.length : Int)) = true := decide_eq_true (by omega)
      clear h hout
      go_enter Tryz.func11, Tryz.ntmps11
      go_wp2_with fail
      (with_reducible refine (awake17 _).mono ?_)
      rintro e w6 ⟨rfl, hu6⟩
      have HU6 := Lib.hid hu6
      clear hu6
      go_wp2_with fail
      go_ret
      exact ⟨rfl, HU6.out.below⟩
    · have d1 : decide ((8 : Int) < (l.length : Int)) = false := decide_eq_false (by omega)
      have d2 : decide ((8 : Int) < (M.length : Int)) = true := decide_eq_true (by omega)
      clear h h' hout
      go_enter Tryz.func11, Tryz.ntmps11
      go_wp2_with fail
      (with_reducible refine (awake17 _).mono ?_)
      rintro e w6 ⟨rfl, hu6⟩
      have HU6 := Lib.hid hu6
      clear hu6
      go_wp2_with fail
      go_ret
      exact ⟨rfl, HU6.out.below⟩
  · obtain ⟨iB, hiB, hB0, hB1, hB2⟩ := info_parts info_box
    have d1 : decide ((8 : Int) < (l.length : Int)) = false := decide_eq_false (by omega)
    have d2 : decide ((8 : Int) < (M.length : Int)) = false := decide_eq_false (by omega)
    obtain ⟨n, hn⟩ : ∃ n, l.length = n := ⟨_, rfl⟩
    obtain ⟨n', hn'⟩ : ∃ n, M.length = n := ⟨_, rfl⟩
    have hnb : (n : Int) ≤ 8 := by omega
    have hnb' : (n' : Int) ≤ 8 := by omega
    have hs' : See KBx w (.slice A n C) l := by rw [← hn]; exact hs
    have hs2' : See KBx w (.slice A' n' C') M := by rw [← hn']; exact hs2
    rw [hn] at d1 ⊢
    rw [hn'] at d2 ⊢
    obtain ⟨B, hBz⟩ : ∃ B, w.heap.size = B := ⟨_, rfl⟩
    have HN := Lib.hid (And.intro hn hn')
    have HS := Lib.hid (And.intro hs' hs2')
    have HB := Lib.hid (And.intro hb hb2)
    have HBZ := Lib.hid hBz
    have HNB := Lib.hid (show n ≤ 8 ∧ n' ≤ 8 by omega)
    clear hs hb hout hn hs' hs2 hs2' hb2 hn' hBz
    go_enter Tryz.func11, Tryz.ntmps11
    go_wp2_with fail
    clear d1 d2
    go_loopg [5, 25] n (fun m s5 s25 wr => ∃ i A5 C5 R, m + i = n ∧ s5 = .slice A5 R.length C5 ∧ s25 = .int .i64 (i : Int) ∧ R.length ≤ 8 * i ∧ (∀ b ∈ R, b.in64) ∧ (∀ x y, covB R x y = (covB (l.take i) x y && covB M x y)) ∧ KBx.row wr B (.slice A5 R.length C5) R ∧ Upd [] w wr)
    case atStart => exact ⟨0, none, 0, [], rfl, rfl, rfl, by simp, by simp, fun x y => by simp [covB], World.ownsRow_nil _ _ _ _, Upd.refl _ _⟩
    case round =>
      obtain ⟨i, A5, C5, R, hi, rfl, rfl, hRl, hRin, hRc, hrow, hu⟩ := hrel
      obtain ⟨wx, rfl⟩ : ∃ wx : World, wx = wr := ⟨_, rfl⟩
      have b0 : (0 : Int) ≤ (i : Int) := Int.natCast_nonneg _
      by_cases hlt : i < n
      · have b1 : (i : Int) < (n : Int) := by omega
        obtain ⟨a, hai⟩ : ∃ a, l[i]? = some a := ⟨_, List.getElem?_eq_getElem (by have := HN.out.1; omega)⟩
        have ha64 := HB.out.1 a (List.mem_of_getElem? hai)
        obtain ⟨bl, ol, hA, -, -, l0, l1, l2, l3, l4⟩ := KBx.at (HS.out.1.upd0 hu) hai
        subst hA
        have htk := take_covB hai
        have hpa : wx.heap.size ∉ blk (.slice A5 R.length C5) := fun h => by have := own_lt hrow _ h; omega
        have hua : Upd [] wx (wx.alloc (.cells #[.int .i64 a.x1, .int .i64 a.x2, .int .i64 a.y1, .int .i64 a.y2, .int .u32 (a.id : Int)] 34)) := (Upd.refl _ _).alloc _
        have HX := Lib.hid (And.intro hi hlt)
        have HTK := Lib.hid htk
        have HA64 := Lib.hid ha64
        have HR := Lib.hid (And.intro hRl (And.intro hRin (And.intro hRc (And.intro (own_upd hrow hua (by simp)) (And.intro (hu.trans hua) hpa)))))
        have HBA := Lib.hid (BAt.new wx a)
        have hra := fun W => rightBoxC a W
        obtain ⟨ra, hra'⟩ : ∃ r, rightB a = r := ⟨_, rfl⟩
        rw [hra'] at hra
        unfold bxV at hra
        have HRA := Lib.hid hra
        have HRA' := Lib.hid hra'
        clear hi hlt hRl hRin hRc hrow hu hai ha64 htk hpa hua hra hra'
        go_upto_region 7 with fail
        generalize (wx.alloc (.cells #[.int .i64 a.x1, .int .i64 a.x2, .int .i64 a.y1, .int .i64 a.y2, .int .u32 (a.id : Int)] 34)) = Wa at HBA HR ⊢
        generalize wx.heap.size = p at HBA HR ⊢
        go_wp2_with fail
        go_loopg [5, 31] n' (fun m s5 s31 wr => ∃ j A5 C5 R, m + j = n' ∧ s5 = .slice A5 R.length C5 ∧ s31 = .int .i64 (j : Int) ∧ R.length ≤ 8 * i + j ∧ (∀ b ∈ R, b.in64) ∧ (∀ x y, covB R x y = ((covB (l.take i) x y && covB M x y) || (a.cell x y && covB (M.take j) x y))) ∧ KBx.row wr B (.slice A5 R.length C5) R ∧ p ∉ blk (.slice A5 R.length C5) ∧ BAt wr p a ∧ Upd [] w wr)
        case atStart => exact ⟨0, A5, C5, R, rfl, rfl, rfl, HR.out.1, HR.out.2.1, fun x y => by rw [HR.out.2.2.1]; simp [covB], HR.out.2.2.2.1, HR.out.2.2.2.2.2, HBA.out, HR.out.2.2.2.2.1⟩
        case round =>
          clear A5 C5 HR HBA R
          obtain ⟨j, A5, C5, R, hj, rfl, rfl, hRl, hRin, hRc, hrow, hpa, hba, hu⟩ := hrel
          have j0 : (0 : Int) ≤ (j : Int) := Int.natCast_nonneg _
          by_cases hltj : j < n'
          · have j1 : (j : Int) < (n' : Int) := by omega
            obtain ⟨b, hbi⟩ : ∃ b, M[j]? = some b := ⟨_, List.getElem?_eq_getElem (by have := HN.out.2; omega)⟩
            have hb64 := HB.out.2 b (List.mem_of_getElem? hbi)
            obtain ⟨bl2, ol2, hA, -, -, l0, l1, l2, l3, l4⟩ := KBx.at (HS.out.2.upd0 hu) hbi
            subst hA
            have htk2 := take_covB hbi
            have hqa : wr.heap.size ∉ blk (.slice A5 R.length C5) := fun h => by have := own_lt hrow _ h; omega
            have hua : Upd [] wr (wr.alloc (.cells #[.int .i64 b.x1, .int .i64 b.x2, .int .i64 b.y1, .int .i64 b.y2, .int .u32 (b.id : Int)] 34)) := (Upd.refl _ _).alloc _
            have HX2 := Lib.hid (And.intro hj hltj)
            have HTK2 := Lib.hid htk2
            have HB64 := Lib.hid hb64
            have HR := Lib.hid (And.intro hRl (And.intro hRin hRc))
            have HW := Lib.hid (And.intro (own_upd hrow hua (by simp)) (And.intro hpa (And.intro hqa (And.intro (hba.upd0 hua) (hu.trans hua)))))
            have HBB := Lib.hid (BAt.new wr b)
            have hrb := fun W => rightBoxC b W
            obtain ⟨rb, hrb'⟩ : ∃ r, rightB b = r := ⟨_, rfl⟩
            rw [hrb'] at hrb
            unfold bxV at hrb
            have HRB := Lib.hid hrb
            have HRB' := Lib.hid hrb'
            clear hj hltj hRl hRin hRc hrow hpa hba hu hbi hb64 htk2 hqa hua hrb hrb'
            go_upto_region 10 with fail
            generalize (wr.alloc (.cells #[.int .i64 b.x1, .int .i64 b.x2, .int .i64 b.y1, .int .i64 b.y2, .int .u32 (b.id : Int)] 34)) = Wb at HBB HW ⊢
            generalize wr.heap.size = q at HBB HW ⊢
            obtain ⟨a0, a1, a2, a3, a4⟩ := HW.out.2.2.2.1.cells
            go_wp2_with fail
            clear a0 a1 a2 a3 a4
            (with_reducible refine (HRA.out _).mono ?_)
            rintro e w4 ⟨rfl, hu4⟩
            have HW4 := Lib.hid (And.intro (own_upd HW.out.1 hu4 (by simp)) (And.intro (HW.out.2.2.2.1.upd0 hu4) (And.intro (HBB.out.upd0 hu4) (HW.out.2.2.2.2.trans hu4))))
            clear hu4
            cases ra
            · go_wp2_with fail
              go_roundg (n' - (j + 1))
              case measure => have := HX2.out; omega
              case rel =>
                refine ⟨j + 1, A5, C5, R, by have := HX2.out; omega, rfl, by go_num, by have := HR.out.1; omega, HR.out.2.1, fun x y => ?_, HW4.out.1, HW.out.2.1, HW4.out.2.1, HW4.out.2.2.2⟩
                rw [HR.out.2.2, right_cell HRA'.out]; simp
            · obtain ⟨c0, c1, c2, c3, c4⟩ := HW4.out.2.2.1.cells
              go_wp2_with fail
              clear c0 c1 c2 c3 c4
              (with_reducible refine (HRB.out _).mono ?_)
              rintro e w5 ⟨rfl, hu5⟩
              have HW5 := Lib.hid (And.intro (own_upd HW4.out.1 hu5 (by simp)) (And.intro (HW4.out.2.1.upd0 hu5) (And.intro (HW4.out.2.2.1.upd0 hu5) (HW4.out.2.2.2.trans hu5))))
              clear hu5
              cases rb
              · go_wp2_with fail
                go_roundg (n' - (j + 1))
                case measure => have := HX2.out; omega
                case rel =>
                  refine ⟨j + 1, A5, C5, R, by have := HX2.out; omega, rfl, by go_num, by have := HR.out.1; omega, HR.out.2.1, fun x y => ?_, HW5.out.1, HW.out.2.1, HW5.out.2.1, HW5.out.2.2.2⟩
                  rw [HR.out.2.2, HTK2.out, right_cell HRB'.out]; simp
              · obtain ⟨a0, a1, a2, a3, a4⟩ := HW5.out.2.1.cells
                obtain ⟨c0, c1, c2, c3, c4⟩ := HW5.out.2.2.1.cells
                go_wp2_with fail
                obtain ⟨X1, e1⟩ : ∃ X, max a.x1 b.x1 = X := ⟨_, rfl⟩
                obtain ⟨Y1, e2⟩ : ∃ X, max a.y1 b.y1 = X := ⟨_, rfl⟩
                obtain ⟨X2, e3⟩ : ∃ X, min a.x2 b.x2 = X := ⟨_, rfl⟩
                obtain ⟨Y2, e4⟩ : ∃ X, min a.y2 b.y2 = X := ⟨_, rfl⟩
                have hJ : a.meet b = ⟨X1, X2, Y1, Y2, 0⟩ := by unfold Bx.meet; rw [e1, e2, e3, e4]
                rw [e1, e2, e3, e4]
                have HJ := Lib.hid hJ
                clear e1 e2 e3 e4 hJ c0 c1 c2 c3 c4 a0 a1 a2 a3 a4
                (with_reducible refine (boxC17 _ _ _ _ _).mono ?_)
                rintro e w6 ⟨rfl, hu6⟩
                have U6 := Lib.hid (show Upd [] w5 (w6.alloc (.cells #[.int .i64 X1, .int .i64 X2, .int .i64 Y1, .int .i64 Y2, .int .u32 0] 34)) from hu6.alloc _)
                have T6 := Lib.hid (own_upd HW5.out.1 U6.out (by simp))
                have HW6 := Lib.hid (show B ≤ w6.heap.size from by have := (HW5.out.2.2.2.trans hu6).size; rw [HBZ.out] at this; exact this)
                have HLE := Lib.hid (show R.length ≤ 100 by have := HR.out.1; have := HNB.out; have := HX.out; have := HX2.out; omega)
                clear hu6
                go_wp2_with (at_builtin; refine wpList_app _ rfl _ _ 22 rfl B 34 iB (.agg #[.int .i64 0, .int .i64 0, .int .i64 0, .int .i64 0, .int .u32 0]) 5 40 Tryz.underlying22 hiB hB0 hB1 hB2 rfl (by decide) _ _ _ rfl T6.out _ 1 [.int .i64 X1, .int .i64 X2, .int .i64 Y1, .int .i64 Y2, .int .u32 0] rfl (sees_lit w6 #[.int .i64 X1, .int .i64 X2, .int .i64 Y1, .int .i64 Y2, .int .u32 0] 34 5 1 rfl (by decide)) (by simp [Value.oneCell']) (by have := HLE.out; unfold maxLen; omega) (by have := HLE.out; omega) (by have := HW6.out; simp; omega) ?_)
                intro A6 C6 w7 HP
                have r6 : KBx.row w7 B (.slice A6 (R.length + 1) C6) (R ++ [⟨X1, X2, Y1, Y2, 0⟩]) := by
                  have := HP.own
                  unfold Kind.row
                  rw [Kind.all_app, List.length_append]
                  exact this
                have p6 : p ∉ blk (.slice A6 (R.length + 1) C6) := fun h => by
                  have hlt := (HW5.out.2.1.upd0 U6.out).lt
                  exact apart_of HP (u := .slice (some ⟨p, 0, none⟩) 1 1) (fun k hk => by simp [blk] at hk; subst hk; exact hlt) (fun k h1 h2 => by simp [blk] at h2; subst h2; exact HW.out.2.1 h1) p h (by simp [blk])
                have ba6 := (HW5.out.2.1.upd0 U6.out).upd HP.upd HW.out.2.1
                have HR6 := Lib.hid (And.intro r6 (And.intro p6 (And.intro ba6 (show Upd [] w w7 from (HW5.out.2.2.2.trans U6.out).trans' HP.upd (fun j hj => .inr (by rw [HBZ.out]; exact own_ge T6.out j hj))))))
                clear HP r6 p6 ba6
                go_wp2_with fail
                go_roundg (n' - (j + 1))
                case measure => have := HX2.out; omega
                case rel =>
                  refine ⟨j + 1, A6, C6, R ++ [⟨X1, X2, Y1, Y2, 0⟩], by have := HX2.out; omega, by rw [List.length_append]; rfl, by go_num, by rw [List.length_append]; have := HR.out.1; simp; omega, fun c hc => ?_, fun x y => ?_, ?_, ?_, HR6.out.2.2.1, HR6.out.2.2.2⟩
                  · rcases List.mem_append.1 hc with hc | hc
                    · exact HR.out.2.1 c hc
                    · rw [List.mem_singleton.1 hc, ← HJ.out]; exact meet_in HA64.out HB64.out
                  · rw [covB_app, HR.out.2.2, HTK2.out, ← HJ.out, covB_one, meet_cell]
                    cases covB (l.take i) x y <;> cases covB M x y <;> cases a.cell x y <;> cases b.cell x y <;> cases covB (M.take j) x y <;> rfl
                  · rw [List.length_append]; exact HR6.out.1
                  · rw [List.length_append]; exact HR6.out.2.1
          · have htk2 : M.take j = M := List.take_of_length_le (by have := HN.out.2; omega)
            rw [htk2] at hRc
            have hjn : j ≤ 8 := by have := HNB.out; omega
            have HR := Lib.hid (And.intro hRl (And.intro hRin (And.intro hRc (And.intro hrow hu))))
            have HJN := Lib.hid hjn
            have nj : ¬ (j : Int) < (n' : Int) := by omega
            clear hRl hRin hRc hrow hpa hba hu htk2 hj hltj hjn
            go_wp2_with fail
            go_roundg (n - (i + 1))
            case measure => have := HX.out; omega
            case rel =>
              refine ⟨i + 1, A5, C5, R, by have := HX.out; omega, rfl, by go_num, by have := HR.out.1; have := HJN.out; omega, HR.out.2.1, fun x y => ?_, HR.out.2.2.2⟩
              rw [HR.out.2.2.1, HTK.out]
              cases covB (l.take i) x y <;> cases covB M x y <;> cases a.cell x y <;> rfl
      · have htk : l.take i = l := List.take_of_length_le (by have := HN.out.1; omega)
        rw [htk] at hRc
        have hall := both_nat hRc
        obtain ⟨uh, ul, hvu, -, -⟩ := wideV_open (areaA (l ++ M)).toNat
        obtain ⟨lh, ll, hvl, -, -⟩ := wideV_open (areaA l).toNat
        obtain ⟨mh, ml, hvm, -, -⟩ := wideV_open (areaA M).toNat
        obtain ⟨rh, rl, hvr, -, -⟩ := wideV_open (areaA R).toNat
        obtain ⟨dh, dl, hvd, -, -⟩ := wideV_open ((areaA M).toNat - (areaA R).toNat)
        have hs1 : ∀ W, Calls Tryz.prog 36 #[.agg #[.int .u64 (uh : Int), .int .u64 (ul : Int)], .agg #[.int .u64 (lh : Int), .int .u64 (ll : Int)]] W fun e w' => e = .returned (.tuple #[.agg #[.int .u64 (dh : Int), .int .u64 (dl : Int)], .bool true]) ∧ Upd [] W w' := fun W => by
          have := wSubC _ _ hall.1 (areaA_W (l ++ M)).2 W
          rw [hall.2.2, hvu, hvl, hvd] at this
          exact this
        have hs2 : ∀ W, Calls Tryz.prog 36 #[.agg #[.int .u64 (mh : Int), .int .u64 (ml : Int)], .agg #[.int .u64 (rh : Int), .int .u64 (rl : Int)]] W fun e w' => e = .returned (.tuple #[.agg #[.int .u64 (dh : Int), .int .u64 (dl : Int)], .bool true]) ∧ Upd [] W w' := fun W => by
          have := wSubC _ _ hall.2.1 (areaA_W M).2 W
          rw [hvm, hvr, hvd] at this
          exact this
        have hcl : ∀ W, Upd [] w W → Calls Tryz.prog 21 #[.slice A n C] W fun e w' => e = .returned (.agg #[.int .u64 (lh : Int), .int .u64 (ll : Int)]) ∧ Upd [] W w' := fun W hW => by
          have := cells17 (.slice A n C) l W (HS.out.1.upd0 hW) (by have := HN.out.1; have := HNB.out; omega) HB.out.1
          rw [hvl] at this
          exact this
        have hcm : ∀ W, Upd [] w W → Calls Tryz.prog 21 #[.slice A' n' C'] W fun e w' => e = .returned (.agg #[.int .u64 (mh : Int), .int .u64 (ml : Int)]) ∧ Upd [] W w' := fun W hW => by
          have := cells17 (.slice A' n' C') M W (HS.out.2.upd0 hW) (by have := HN.out.2; have := HNB.out; omega) HB.out.2
          rw [hvm] at this
          exact this
        have hRle : R.length ≤ 64 := by have := HNB.out; omega
        have hcr : ∀ W, Upd [] wx W → Calls Tryz.prog 21 #[.slice A5 R.length C5] W fun e w' => e = .returned (.agg #[.int .u64 (rh : Int), .int .u64 (rl : Int)]) ∧ Upd [] W w' := fun W hW => by
          have := cells17 (.slice A5 R.length C5) R W (See.of_row (own_upd hrow hW (by simp))) (by omega) hRin
          rw [hvr] at this
          exact this
        have hcu : ∀ W A2 C2, See KBx W (.slice A2 (n + n') C2) (l ++ M) → Calls Tryz.prog 21 #[.slice A2 (n + n') C2] W fun e w' => e = .returned (.agg #[.int .u64 (uh : Int), .int .u64 (ul : Int)]) ∧ Upd [] W w' := fun W A2 C2 h => by
          have := cells17 (.slice A2 (n + n') C2) (l ++ M) W h (by rw [List.length_append, HN.out.1, HN.out.2]; have := HNB.out; omega) (fun b hb => by
            rcases List.mem_append.1 hb with h | h
            · exact HB.out.1 b h
            · exact HB.out.2 b h)
          rw [hvu] at this
          exact this
        have hcp : Calls Tryz.prog 16 #[.slice A n C] wx (CpPost wx l) := copyBoxes _ l wx (HS.out.1.upd0 hu) (by have := HN.out.1; have := HNB.out; omega)
        unfold CpPost at hcp
        rw [HN.out.1] at hcp
        have HS1 := Lib.hid hs1
        have HS2 := Lib.hid hs2
        have HCL := Lib.hid hcl
        have HCM := Lib.hid hcm
        have HCR := Lib.hid hcr
        have HCU := Lib.hid hcu
        have HCP := Lib.hid hcp
        have HU := Lib.hid hu
        have HWS := fun w => wide_sameB (dh : Int) (dl : Int) w
        have HMO := Lib.hid (KBx.all_one M)
        have ni : ¬ (i : Int) < (n : Int) := by omega
        clear hall hvu hvl hvm hvr hvd hs1 hs2 hcl hcm hcr hcu hcp hrow hRin hRc hRl hRle htk hi hlt hu
        go_wp2_with fail
        clear ni
        (with_reducible refine HCP.out.mono ?_)
        rintro e w1 ⟨A1, C1, rfl, hrow1, hu1⟩
        have HU1 := Lib.hid (HU.out.trans hu1)
        have hrow1' : w1.ownsRow wx.heap.size 34 5 (.slice A1 n C1) n (KBx.all l) := by have := hrow1; unfold Kind.row at this; rw [HN.out.1] at this; exact this
        have hsM : Sees w1 5 (.slice A' n' C') n' (KBx.all M) := by have := HS.out.2.upd0 (HU.out.trans hu1); unfold See at this; rw [HN.out.2] at this; exact this
        have HROW := Lib.hid (And.intro hrow1' (And.intro hsM hu1))
        clear hrow1 hrow1' hsM hu1
        go_wp2_with (at_builtin; refine wpList_app _ rfl _ _ 22 rfl wx.heap.size 34 iB (.agg #[.int .i64 0, .int .i64 0, .int .i64 0, .int .i64 0, .int .u32 0]) 5 40 Tryz.underlying22 hiB hB0 hB1 hB2 rfl (by decide) _ _ _ rfl HROW.out.1 _ n' (KBx.all M) rfl HROW.out.2.1 HMO.out (by have := HNB.out; unfold maxLen; omega) (by have := HNB.out; omega) HROW.out.2.2.size ?_)
        intro A2 C2 w2 HP
        have hsee : See KBx w2 (.slice A2 (n + n') C2) (l ++ M) := by
          unfold See
          rw [Kind.all_app, List.length_append, HN.out.1, HN.out.2]
          exact sees_of_own HP.own
        have HU2 := Lib.hid (show Upd [] wx w2 from HROW.out.2.2.trans' HP.upd (fun j hj => .inr (own_ge HROW.out.1 j hj)))
        have HCU2 := Lib.hid (HCU.out w2 A2 C2 hsee)
        clear HP hsee
        go_wp2_with fail
        (with_reducible refine HCU2.out.mono ?_)
        rintro e w3 ⟨rfl, hu3⟩
        have HU3 := Lib.hid (HU2.out.trans hu3)
        clear hu3
        go_wp2_with fail
        (with_reducible refine (HCL.out _ (HU.out.trans HU3.out)).mono ?_)
        rintro e w4 ⟨rfl, hu4⟩
        have HU4 := Lib.hid (HU3.out.trans hu4)
        clear hu4
        go_wp2_with fail
        (with_reducible refine (HS1.out _).mono ?_)
        rintro e w5 ⟨rfl, hu5⟩
        have HW5 := Lib.hid (WAt.new w5 dh dl)
        have HU5 := Lib.hid (HU4.out.trans (hu5.alloc (.cells #[.int .u64 (dh : Int), .int .u64 (dl : Int)] 27)))
        clear hu5
        go_upto_region 15 with fail
        generalize w5.alloc (.cells #[.int .u64 (dh : Int), .int .u64 (dl : Int)] 27) = W5 at HW5 HU5 ⊢
        generalize w5.heap.size = p5 at HW5 ⊢
        go_wp2_with fail
        (with_reducible refine (HCM.out _ (HU.out.trans HU5.out)).mono ?_)
        rintro e w6 ⟨rfl, hu6⟩
        have HU6 := Lib.hid (HU5.out.trans hu6)
        have HW6 := Lib.hid (HW5.out.upd0 hu6)
        clear hu6
        go_wp2_with fail
        (with_reducible refine (HCR.out _ HU6.out).mono ?_)
        rintro e w7 ⟨rfl, hu7⟩
        have HU7 := Lib.hid (HU6.out.trans hu7)
        have HW7 := Lib.hid (HW6.out.upd0 hu7)
        clear hu7
        go_wp2_with fail
        (with_reducible refine (HS2.out _).mono ?_)
        rintro e w8 ⟨rfl, hu8⟩
        have HW9 := Lib.hid (WAt.new w8 dh dl)
        have HU8 := Lib.hid (HU7.out.trans (hu8.alloc (.cells #[.int .u64 (dh : Int), .int .u64 (dl : Int)] 27)))
        have HW8 := Lib.hid (HW7.out.upd0 (hu8.alloc (.cells #[.int .u64 (dh : Int), .int .u64 (dl : Int)] 27)))
        clear hu8
        go_upto_region 16 with fail
        generalize w8.alloc (.cells #[.int .u64 (dh : Int), .int .u64 (dl : Int)] 27) = W8 at HW8 HW9 HU8 ⊢
        generalize w8.heap.size = p8 at HW9 ⊢
        obtain ⟨z0, z1⟩ := HW8.out.cells
        obtain ⟨y0, y1⟩ := HW9.out.cells
        go_wp2_with fail
        clear z0 z1 y0 y1
        (with_reducible refine (awake17 _).mono ?_)
        rintro e w9 ⟨rfl, hu9⟩
        have HU9 := Lib.hid (HU.out.trans (HU8.out.trans hu9))
        clear hu9
        go_wp2_with fail
        go_ret
        exact ⟨rfl, HU9.out.below⟩
end Go.Proofs.YtokpdocabmaagaaGreat
