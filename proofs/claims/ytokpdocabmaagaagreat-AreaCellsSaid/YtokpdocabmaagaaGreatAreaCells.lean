/- AreaCells: the walk. -/
import Derived.Test.YtokpdocabmaagaaGreatSmallC
import Derived.Test.YtokpdocabmaagaaGreatGridP
namespace Go.Proofs.YtokpdocabmaagaaGreat
open Go.RowKit

theorem smB_in {l : List Sm} : ∀ b ∈ l.map smB, (0 ≤ b.x1 ∧ b.x1 ≤ 15) ∧ (0 ≤ b.x2 ∧ b.x2 ≤ 15) ∧ (0 ≤ b.y1 ∧ b.y1 ≤ 15) ∧ (0 ≤ b.y2 ∧ b.y2 ≤ 15) := fun b hb => by
  obtain ⟨s, hs, rfl⟩ := List.mem_map.1 hb
  unfold smB
  dsimp only
  omega

theorem wide_sameC (a b : Int) (w : World) : (binOp .eql 27 (.agg #[.int .u64 a, .int .u64 b]) (.agg #[.int .u64 a, .int .u64 b])).run Tryz.prog w = .ok (.bool true) w := by
  rw [run_eql_struct, run_equalIn_agg _ _ _ _ _ (by kernel_rfl) (by kernel_rfl)]
  go_simp

theorem take_cov {L : List Bx} {j : Nat} {b : Bx} (h : L[j]? = some b) (x y : Int) : covB (L.take (j + 1)) x y = (covB (L.take j) x y || b.cell x y) := by
  unfold covB
  rw [List.take_add_one, h]
  simp [List.any_append]

set_option maxRecDepth 100000 in
set_option maxHeartbeats 8000000 in
theorem areaCells_walk (v : Value) (l : List Sm) (w : World) (hs : See KSm w v l) (hok : ∀ s ∈ l, s.ok) :
    Calls Tryz.prog 7 #[v] w fun e w' => e = .returned (.bool true) ∧ Below w.heap.size w w' := by
  obtain ⟨A, C, rfl⟩ := hs.form
  by_cases hout : 30 < l.length
  · have d1 : decide ((30 : Int) < (l.length : Int)) = true := decide_eq_true (by omega)
    clear hs hok hout
    go_enter Tryz.func7, Tryz.ntmps7
    go_wp2_with fail
    (with_reducible refine (awake17 _).mono ?_)
    rintro e w6 ⟨rfl, hu6⟩
    have HU6 := Lib.hid hu6
    clear hu6
    go_wp2_with fail
    go_ret
    exact ⟨rfl, HU6.out.below⟩
  · have d1 : decide ((30 : Int) < (l.length : Int)) = false := decide_eq_false (by omega)
    have hbx := boxesC (.slice A l.length C) l w hs hok (by omega)
    unfold BoxesPost at hbx
    obtain ⟨n, hn⟩ : ∃ n, l.length = n := ⟨_, rfl⟩
    obtain ⟨L, hL⟩ : ∃ L, l.map smB = L := ⟨_, rfl⟩
    have hin := smB_in (l := l)
    have hLn : L.length = n := by rw [← hL, List.length_map, hn]
    rw [hL] at hbx hin
    rw [hn] at d1 hbx ⊢
    have hnb : (n : Int) ≤ 30 := by omega
    have HBX := Lib.hid hbx
    have HLN := Lib.hid (And.intro hLn hin)
    clear hs hok hout hbx hn hL hin hLn
    go_enter Tryz.func7, Tryz.ntmps7
    go_wp2_with fail
    clear d1
    (with_reducible refine HBX.out.mono ?_)
    rintro e w1 ⟨A1, C1, rfl, hrow, hu1⟩
    have HR := Lib.hid (And.intro hrow hu1)
    clear hrow hu1
    go_wp2_with fail
    go_loopg [4, 5] 16 (fun m s4 s5 wr => ∃ x c : Nat, m + x = 16 ∧ s5 = .int .i64 (x : Int) ∧ s4 = .int .u64 (c : Int) ∧ (c : Int) = cntG L x 0 ∧ Upd [] w1 wr)
    case atStart => exact ⟨0, 0, rfl, rfl, rfl, (cntG_zero L).symm, Upd.refl _ _⟩
    case round =>
      obtain ⟨x, c, hx, rfl, rfl, hc, hu⟩ := hrel
      obtain ⟨wx, rfl⟩ : ∃ wx : World, wx = wr := ⟨_, rfl⟩
      have b0 : (0 : Int) ≤ (x : Int) := Int.natCast_nonneg _
      by_cases hlt : x < 16
      · have b1 : (x : Int) < 16 := by omega
        have HX := Lib.hid (And.intro hx hlt)
        have HC := Lib.hid hc
        have HU := Lib.hid hu
        clear hx hlt hc hu
        go_wp2_with fail
        go_loopg [4, 6] 16 (fun m s4 s6 wr => ∃ y c : Nat, m + y = 16 ∧ s6 = .int .i64 (y : Int) ∧ s4 = .int .u64 (c : Int) ∧ (c : Int) = cntG L x y ∧ Upd [] w1 wr)
        case atStart => exact ⟨0, c, rfl, rfl, rfl, HC.out, HU.out⟩
        case round =>
          obtain ⟨y, cy, hy, rfl, rfl, hcy, huy⟩ := hrel
          obtain ⟨wy, rfl⟩ : ∃ wy : World, wy = wr := ⟨_, rfl⟩
          have y0 : (0 : Int) ≤ (y : Int) := Int.natCast_nonneg _
          by_cases hlty : y < 16
          · have y1 : (y : Int) < 16 := by omega
            have hcb := cntG_bd L (x := x) (y := y) (by omega) (by omega)
            have cb0 : (0 : Int) ≤ (cy : Int) := by omega
            have cb1 : (cy : Int) ≤ 272 := by omega
            have HY := Lib.hid (And.intro hy hlty)
            have HCY := Lib.hid hcy
            have HUY := Lib.hid huy
            clear hy hlty hcy huy hcb
            go_wp2_with fail
            go_loopg [4, 25] n (fun m s4 s25 wr => ∃ j : Nat, m + j = n ∧ s4 = .int .u64 (cy : Int) ∧ s25 = .int .i64 (j : Int) ∧ covB (L.take j) x y = false ∧ Upd [] w1 wr)
            case atStart => exact ⟨0, rfl, rfl, rfl, rfl, HUY.out⟩
            case round =>
              obtain ⟨j, hj, rfl, rfl, hcv, huj⟩ := hrel
              have j0 : (0 : Int) ≤ (j : Int) := Int.natCast_nonneg _
              by_cases hltj : j < n
              · have j1 : (j : Int) < (n : Int) := by omega
                obtain ⟨b, hbi⟩ : ∃ b, L[j]? = some b := ⟨_, List.getElem?_eq_getElem (by have := HLN.out.1; omega)⟩
                have hsee : See KBx wr (.slice A1 n C1) L := by
                  have := See.of_row (own_upd HR.out.1 huj (by simp))
                  exact this
                obtain ⟨bl, ol, hA, -, -, l0, l1, l2, l3, l4⟩ := KBx.at hsee hbi
                subst hA
                have htk := take_cov hbi (x : Int) (y : Int)
                rw [hcv, Bool.false_or] at htk
                have hall : b.cell x y = true → covB L x y = true := fun h => by
                  unfold covB
                  rw [List.any_eq_true]
                  exact ⟨b, List.mem_of_getElem? hbi, h⟩
                have hcell := fun W => cellC b (x : Int) (y : Int) W
                obtain ⟨t, ht⟩ : ∃ t, b.cell x y = t := ⟨_, rfl⟩
                rw [ht] at hcell htk hall
                unfold bxV at hcell
                have HJ := Lib.hid (And.intro hj hltj)
                have HUJ := Lib.hid (huj.trans ((Upd.refl [] wr).alloc (.cells #[.int .i64 b.x1, .int .i64 b.x2, .int .i64 b.y1, .int .i64 b.y2, .int .u32 (b.id : Int)] 34)))
                have HBN := Lib.hid (BAt.new wr b)
                have HCELL := Lib.hid hcell
                have HTK := Lib.hid htk
                have HALL := Lib.hid hall
                clear hj hltj huj hcv hbi hsee htk hall hcell ht
                go_upto_region 14 with fail
                generalize (wr.alloc (.cells #[.int .i64 b.x1, .int .i64 b.x2, .int .i64 b.y1, .int .i64 b.y2, .int .u32 (b.id : Int)] 34)) = Wb at HBN HUJ ⊢
                generalize wr.heap.size = r at HBN ⊢
                obtain ⟨c0, c1, c2, c3, c4⟩ := HBN.out.cells
                go_wp2_with fail
                clear c0 c1 c2 c3 c4
                (with_reducible refine (HCELL.out _).mono ?_)
                rintro e w4 ⟨rfl, hu4⟩
                have HU4 := Lib.hid (HUJ.out.trans hu4)
                clear hu4
                cases t
                · go_wp2_with fail
                  go_roundg (n - (j + 1))
                  case measure => have := HJ.out; omega
                  case rel => exact ⟨j + 1, by have := HJ.out; omega, rfl, by go_num, HTK.out, HU4.out⟩
                · go_wp2_with fail
                  go_roundg (15 - y)
                  case measure => have := HY.out; omega
                  case rel =>
                    refine ⟨y + 1, cy + 1, by have := HY.out; omega, by go_num, by go_num, ?_, HU4.out⟩
                    have := cntG_y L (x : Int) y0
                    rw [HALL.out (by trivial), ← HCY.out] at this
                    push_cast
                    rw [this]; rfl
              · have htk : L.take j = L := List.take_of_length_le (by have := HLN.out.1; omega)
                rw [htk] at hcv
                have HCV := Lib.hid hcv
                have HUJ := Lib.hid huj
                have nj : ¬ (j : Int) < (n : Int) := by omega
                clear hcv huj htk hj hltj
                go_wp2_with fail
                go_roundg (15 - y)
                case measure => have := HY.out; omega
                case rel =>
                  refine ⟨y + 1, cy, by have := HY.out; omega, by go_num, rfl, ?_, HUJ.out⟩
                  have := cntG_y L (x : Int) y0
                  rw [HCV.out, ← HCY.out] at this
                  push_cast
                  rw [this]; simp [ind]
          · have hy16 : y = 16 := by omega
            subst hy16
            have HCY := Lib.hid hcy
            have HUY := Lib.hid huy
            clear hy hcy huy hlty
            go_wp2_with fail
            go_roundg (15 - x)
            case measure => have := HX.out; omega
            case rel =>
              refine ⟨x + 1, cy, by have := HX.out; omega, by go_num, rfl, ?_, HUY.out⟩
              have := cntG_x L b0
              push_cast
              rw [this]; exact HCY.out
      · have hx16 : x = 16 := by omega
        subst hx16
        have hcn := cntG_all HLN.out.2
        have hca : (areaA L).toNat = c := by rw [← hcn]; have e : cntG L ((16 : Nat) : Int) 0 = cntG L 16 0 := rfl; rw [← e, ← hc]; simp
        have hcb := cntG_bd L (x := 16) (y := 0) (by omega) (by omega)
        have hce : (c : Int) = cntG L 16 0 := hc
        have hcl := cells17 (.slice A1 n C1) L wx (by have := See.of_row (own_upd HR.out.1 hu (by simp)); exact this) (by have := HLN.out.1; omega) (fun b hb => by have := HLN.out.2 b hb; unfold Bx.in64; omega)
        rw [hca] at hcl
        have hof := fun W => wOfC c (by omega) W
        obtain ⟨hh, hlo, hv, -, -⟩ := wideV_open c
        rw [hv] at hcl hof
        have HCL := Lib.hid hcl
        have HOF := Lib.hid hof
        have HU := Lib.hid (HR.out.2.trans hu)
        have HWS := fun w => wide_sameC (hh : Int) (hlo : Int) w
        clear hcn hca hcb hce hcl hof hv hc hx hlt hu
        go_wp2_with fail
        (with_reducible refine HCL.out.mono ?_)
        rintro e w5 ⟨rfl, hu5⟩
        have HU5 := Lib.hid (HU.out.trans hu5)
        clear hu5
        go_wp2_with fail
        (with_reducible refine (HOF.out _).mono ?_)
        rintro e w6 ⟨rfl, hu6⟩
        have HU6 := Lib.hid (HU5.out.trans hu6)
        clear hu6
        go_wp2_with fail
        (with_reducible refine (awake17 _).mono ?_)
        rintro e w7 ⟨rfl, hu7⟩
        have HU7 := Lib.hid (HU6.out.trans hu7)
        clear hu7
        go_wp2_with fail
        go_ret
        exact ⟨rfl, HU7.out.below⟩
end Go.Proofs.YtokpdocabmaagaaGreat
