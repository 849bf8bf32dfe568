/- RimSides: the sides of the rim, counted one by one: plainly; the walk. -/
import Derived.Test.YtokpdocabmaagaaGreatSmall18
import Derived.Test.YtokpdocabmaagaaGreatOneP
namespace Go.Proofs.YtokpdocabmaagaaGreat
open Go.RowKit

/-- How often a cell parts from the next one to the right, and from the next one above. -/
def tS (L : List Bx) (u v : Int) : Int := ind (covB L u v != covB L (u + 1) v) + ind (covB L u v != covB L u (v + 1))
def cntT (L : List Bx) (x y : Int) : Int := sumR (fun u => sumR (fun v => tS L u v) (-1) 16) (-1) x + sumR (fun v => tS L x v) (-1) y

theorem tS_bd (L : List Bx) (u v : Int) : 0 ≤ tS L u v ∧ tS L u v ≤ 2 := by
  unfold tS
  have h1 := ind_bd (covB L u v != covB L (u + 1) v)
  have h2 := ind_bd (covB L u v != covB L u (v + 1))
  omega

theorem cntT_zero (L : List Bx) : cntT L (-1) (-1) = 0 := by
  unfold cntT
  rw [sumR_none (by omega), sumR_none (by omega)]; rfl

theorem cntT_y (L : List Bx) (x : Int) {y : Int} (h : -1 ≤ y) : cntT L x (y + 1) = cntT L x y + tS L x y := by
  unfold cntT
  rw [sumR_next h]
  omega

theorem cntT_x (L : List Bx) {x : Int} (h : -1 ≤ x) : cntT L (x + 1) (-1) = cntT L x 16 := by
  unfold cntT
  rw [sumR_next h, sumR_none (a := -1) (b := -1) (by omega)]
  omega

theorem cntT_bd (L : List Bx) {x y : Int} (h : -1 ≤ x ∧ x ≤ 16) (h' : -1 ≤ y ∧ y ≤ 16) : 0 ≤ cntT L x y ∧ cntT L x y ≤ 612 := by
  unfold cntT
  have h1 : 0 ≤ sumR (fun u => sumR (fun v => tS L u v) (-1) 16) (-1) x := sumR_nonneg fun _ _ _ => sumR_nonneg fun _ _ _ => (tS_bd L _ _).1
  have h2 : 0 ≤ sumR (fun v => tS L x v) (-1) y := sumR_nonneg fun _ _ _ => (tS_bd L _ _).1
  have h3 : sumR (fun u => sumR (fun v => tS L u v) (-1) 16) (-1) x ≤ 34 * (x - -1) := sumR_le 34 h.1 fun u _ _ => by
    have := sumR_le (f := fun v => tS L u v) (a := -1) (b := 16) 2 (by omega) fun v _ _ => (tS_bd L _ _).2
    omega
  have h4 : sumR (fun v => tS L x v) (-1) y ≤ 2 * (y - -1) := sumR_le 2 h'.1 fun v _ _ => (tS_bd L _ _).2
  omega

theorem turns_up (c : Int → Bool) : sumR (fun v => ind (c v != c (v + 1))) (-1) 16 = turnsR c 0 17 := by
  unfold turnsR
  have := sumR_shift (f := fun y => ind (c y != c (y - 1))) (a := -1) (b := 16) 1
  rw [show (-1 : Int) + 1 = 0 by omega, show (16 : Int) + 1 = 17 by omega] at this
  rw [← this]
  refine sumR_congr fun v _ _ => ?_
  rw [show v + 1 - 1 = v by omega]
  cases c v <;> cases c (v + 1) <;> rfl

theorem cntT_all {L : List Bx} (hb : ∀ b ∈ L, (0 ≤ b.x1 ∧ b.x1 ≤ 15) ∧ (0 ≤ b.x2 ∧ b.x2 ≤ 15) ∧ (0 ≤ b.y1 ∧ b.y1 ≤ 15) ∧ (0 ≤ b.y2 ∧ b.y2 ≤ 15)) : cntT L 16 (-1) = rimA L := by
  have hw : Within L 0 15 0 15 := fun s hs _ => by have := hb s hs; omega
  have hw2 : Within (L.map tuB) 0 15 0 15 := fun s hs _ => by
    obtain ⟨a, ha, rfl⟩ := List.mem_map.1 hs
    have := hb a ha
    unfold tuB
    dsimp only
    omega
  have hh : ∀ {M : List Bx}, Within M 0 15 0 15 → horR M = sumR (fun u => sumR (fun v => ind (covB M u v != covB M u (v + 1))) (-1) 16) (-1) 16 := fun {M} h => by
    unfold horR
    rw [horG_ext h (by omega) (by omega) (by omega) (by omega) (by omega) (by omega), ← horG_ext (a := -1) (b := 16) (c := 0) (d := 17) h (by omega) (by omega) (by omega) (by omega) (by omega) (by omega)]
    unfold horG
    exact sumR_congr fun u _ _ => (turns_up _).symm
  unfold rimA
  rw [hh hw, hh hw2]
  unfold cntT
  rw [sumR_none (a := -1) (b := -1) (by omega)]
  have e : sumR (fun u => sumR (fun v => ind (covB (L.map tuB) u v != covB (L.map tuB) u (v + 1))) (-1) 16) (-1) 16 = sumR (fun u => sumR (fun v => ind (covB L u v != covB L (u + 1) v)) (-1) 16) (-1) 16 := by
    rw [sumR_swap]
    refine sumR_congr fun u _ _ => sumR_congr fun v _ _ => ?_
    rw [tuB_cov L u v, tuB_cov L (u + 1) v]
  rw [e, ← sumR_add, Int.add_zero]
  refine sumR_congr fun u _ _ => ?_
  rw [← sumR_add]
  refine sumR_congr fun v _ _ => ?_
  unfold tS
  omega

theorem smB_in18 {l : List Sm} : ∀ b ∈ l.map smB, (0 ≤ b.x1 ∧ b.x1 ≤ 15) ∧ (0 ≤ b.x2 ∧ b.x2 ≤ 15) ∧ (0 ≤ b.y1 ∧ b.y1 ≤ 15) ∧ (0 ≤ b.y2 ∧ b.y2 ≤ 15) := fun b hb => by
  obtain ⟨s, hs, rfl⟩ := List.mem_map.1 hb
  unfold smB
  dsimp only
  omega

theorem wide_same18 (a b : Int) (w : World) : (binOp .eql 27 (.agg #[.int .u64 a, .int .u64 b]) (.agg #[.int .u64 a, .int .u64 b])).run Tryz.prog w = .ok (.bool true) w := by
  rw [run_eql_struct, run_equalIn_agg _ _ _ _ _ (by kernel_rfl) (by kernel_rfl)]
  go_simp

set_option maxRecDepth 100000 in
set_option maxHeartbeats 8000000 in
theorem rimSides_walk (v : Value) (l : List Sm) (w : World) (hs : See KSm w v l) (hok : ∀ s ∈ l, s.ok) :
    Calls Tryz.prog 13 #[v] w fun e w' => e = .returned (.bool true) ∧ Below w.heap.size w w' := by
  obtain ⟨A, C, rfl⟩ := hs.form
  by_cases hout : 30 < l.length
  · have d1 : decide ((30 : Int) < (l.length : Int)) = true := decide_eq_true (by omega)
    clear hs hok hout
    go_enter Tryz.func13, Tryz.ntmps13
    go_wp2_with fail
    (with_reducible refine (awake18 _).mono ?_)
    rintro e w6 ⟨rfl, hu6⟩
    have HU6 := Lib.hid hu6
    clear hu6
    go_wp2_with fail
    go_ret
    exact ⟨rfl, HU6.out.below⟩
  · have d1 : decide ((30 : Int) < (l.length : Int)) = false := decide_eq_false (by omega)
    have hbx := boxesC (.slice A l.length C) l w hs hok (by omega)
    unfold BoxesPost at hbx
    obtain ⟨n, hn⟩ : ∃ n, l.length = n := ⟨_, rfl⟩
    obtain ⟨L, hL⟩ : ∃ L, l.map smB = L := ⟨_, rfl⟩
    have hin := smB_in18 (l := l)
    have hLn : L.length = n := by rw [← hL, List.length_map, hn]
    rw [hL] at hbx hin
    rw [hn] at d1 hbx ⊢
    have hnb : (n : Int) ≤ 30 := by omega
    have HBX := Lib.hid hbx
    have HLN := Lib.hid (And.intro hLn (And.intro hin hnb))
    clear hs hok hout hbx hn hL hin hLn hnb
    go_enter Tryz.func13, Tryz.ntmps13
    go_wp2_with fail
    clear d1
    (with_reducible refine HBX.out.mono ?_)
    rintro e w1 ⟨A1, C1, rfl, hrow, hu1⟩
    have HR := Lib.hid (And.intro hrow hu1)
    have HSEE := Lib.hid (show ∀ W, Upd [] w1 W → See KBx W (.slice A1 n C1) L from fun W hW => by
      have := See.of_row (own_upd hrow hW (by simp))
      exact this)
    have HCOV := Lib.hid (show ∀ (x y : Int) W, Upd [] w1 W → Calls Tryz.prog 38 #[.slice A1 n C1, .int .i64 x, .int .i64 y] W fun e w' => e = .returned (.bool (covB L x y)) ∧ Upd [] W w' from fun x y W hW =>
      covered18 _ L x y W (HSEE.out W hW) (by have := HLN.out.1; have := HLN.out.2.2; omega))
    clear hrow hu1
    go_wp2_with fail
    go_loopg [4, 5] 17 (fun m s4 s5 wr => ∃ X c : Nat, m + X = 17 ∧ s5 = .int .i64 ((X : Int) - 1) ∧ s4 = .int .u64 (c : Int) ∧ (c : Int) = cntT L ((X : Int) - 1) (-1) ∧ Upd [] w1 wr)
    case atStart => exact ⟨0, 0, rfl, rfl, rfl, (cntT_zero L).symm, Upd.refl _ _⟩
    case round =>
      obtain ⟨X, c, hx, rfl, rfl, hc, hu⟩ := hrel
      obtain ⟨wx, rfl⟩ : ∃ wx : World, wx = wr := ⟨_, rfl⟩
      obtain ⟨x, hxe⟩ : ∃ x : Int, (X : Int) - 1 = x := ⟨_, rfl⟩
      rw [hxe] at hc ⊢
      by_cases hlt : X < 17
      · have b1 : x < 16 := by omega
        have HX := Lib.hid (And.intro hx (And.intro hlt hxe))
        have HC := Lib.hid hc
        have HU := Lib.hid hu
        clear hx hlt hc hu hxe
        go_wp2_with fail
        go_loopg [4, 6] 17 (fun m s4 s6 wr => ∃ Y c : Nat, m + Y = 17 ∧ s6 = .int .i64 ((Y : Int) - 1) ∧ s4 = .int .u64 (c : Int) ∧ (c : Int) = cntT L x ((Y : Int) - 1) ∧ Upd [] w1 wr)
        case atStart => exact ⟨0, c, rfl, rfl, rfl, HC.out, HU.out⟩
        case round =>
          obtain ⟨Y, cy, hy, rfl, rfl, hcy, huy⟩ := hrel
          obtain ⟨wy, rfl⟩ : ∃ wy : World, wy = wr := ⟨_, rfl⟩
          obtain ⟨y, hye⟩ : ∃ y : Int, (Y : Int) - 1 = y := ⟨_, rfl⟩
          rw [hye] at hcy ⊢
          by_cases hlty : Y < 17
          · have y1 : y < 16 := by omega
            have hx2 := HX.out
            have hcb := cntT_bd L (x := x) (y := y) (by omega) (by omega)
            have hstep := cntT_y L x (y := y) (by omega)
            have ww1 : wrap64 (x + 1) = x + 1 := by unfold wrap64; omega
            have ww2 : wrap64 (y + 1) = y + 1 := by unfold wrap64; omega
            have cb0 : (0 : Int) ≤ (cy : Int) := by omega
            have cb1 : (cy : Int) ≤ 612 := by omega
            obtain ⟨p, hp⟩ : ∃ p, covB L x y = p := ⟨_, rfl⟩
            obtain ⟨q, hq⟩ : ∃ q, covB L (x + 1) y = q := ⟨_, rfl⟩
            obtain ⟨r, hr⟩ : ∃ r, covB L x (y + 1) = r := ⟨_, rfl⟩
            unfold tS at hstep
            rw [hp, hq, hr, ← hcy] at hstep
            have hc1 := HCOV.out x y
            have hc2 := HCOV.out (x + 1) y
            have hc3 := HCOV.out x (y + 1)
            rw [hp] at hc1
            rw [hq] at hc2
            rw [hr] at hc3
            have HY := Lib.hid (And.intro hy (And.intro hlty hye))
            have HST := Lib.hid hstep
            have HUY := Lib.hid huy
            have HC1 := Lib.hid hc1
            have HC2 := Lib.hid hc2
            have HC3 := Lib.hid hc3
            have HWW := Lib.hid (And.intro ww1 ww2)
            clear hy hlty huy hcb hcy hx2 hstep hc1 hc2 hc3 hp hq hr hye ww1 ww2
            cases p <;> cases q <;> cases r <;>
            (go_wp2_with fail
             (with_reducible refine (HC1.out _ HUY.out).mono ?_)
             rintro e w4 ⟨rfl, hu4⟩
             have HU4 := Lib.hid (HUY.out.trans hu4)
             clear hu4
             go_wp2_with fail
             rw [HWW.out.1]
             (with_reducible refine (HC2.out _ HU4.out).mono ?_)
             rintro e w5 ⟨rfl, hu5⟩
             have HU5 := Lib.hid (HU4.out.trans hu5)
             clear hu5
             go_wp2_with fail
             rw [HWW.out.2]
             (with_reducible refine (HC3.out _ HU5.out).mono ?_)
             rintro e w6 ⟨rfl, hu6⟩
             have HU6 := Lib.hid (HU5.out.trans hu6)
             clear hu6
             go_wp2_with fail
             go_roundg (16 - Y)
             case measure => have := HY.out; omega
             case rel =>
               have h1 := HST.out
               simp [ind] at h1
               have h2 := HY.out
               have e1 : ((Y + 1 : Nat) : Int) - 1 = y + 1 := by omega
               first
                 | exact ⟨Y + 1, cy, by omega, by rw [e1, HWW.out.2], by go_num, by rw [e1]; omega, HU6.out⟩
                 | exact ⟨Y + 1, cy + 1, by omega, by rw [e1, HWW.out.2], by go_num, by rw [e1]; omega, HU6.out⟩
                 | exact ⟨Y + 1, cy + 2, by omega, by rw [e1, HWW.out.2], by go_num, by rw [e1]; omega, HU6.out⟩)
          · have hy17 : Y = 17 := by omega
            have hye' : y = 16 := by omega
            subst hye'
            have HCY := Lib.hid hcy
            have HUY := Lib.hid huy
            clear hy hcy huy hlty hye hy17
            go_wp2_with fail
            go_roundg (16 - X)
            case measure => have := HX.out; omega
            case rel =>
              have h2 := HX.out
              have e1 : ((X + 1 : Nat) : Int) - 1 = x + 1 := by omega
              have ww : wrap64 (x + 1) = x + 1 := by unfold wrap64; omega
              refine ⟨X + 1, cy, by omega, by rw [e1, ww], rfl, ?_, HUY.out⟩
              rw [e1, cntT_x L (by omega)]
              exact HCY.out
      · have hx16 : x = 16 := by omega
        subst hx16
        have hcn := cntT_all HLN.out.2.1
        have hca : (rimA L).toNat = c := by rw [← hcn, ← hc]; simp
        have hcb := cntT_bd L (x := 16) (y := -1) (by omega) (by omega)
        have hcl := sidesC (.slice A1 n C1) L wx (HSEE.out wx hu) (by have := HLN.out.1; have := HLN.out.2.2; omega) (fun b hb => by have := HLN.out.2.1 b hb; unfold Bx.in64; omega)
        rw [hca] at hcl
        have hof := fun W => wOfC c (by omega) W
        obtain ⟨hh, hlo, hv, -, -⟩ := wideV_open c
        rw [hv] at hcl hof
        have HCL := Lib.hid hcl
        have HOF := Lib.hid hof
        have HU := Lib.hid (HR.out.2.trans hu)
        have HWS := fun w => wide_same18 (hh : Int) (hlo : Int) w
        clear hcn hca hcb hcl hof hv hc hx hlt hu hxe
        go_wp2_with fail
        (with_reducible refine HCL.out.mono ?_)
        rintro e w5 ⟨rfl, hu5⟩
        have HU5 := Lib.hid (HU.out.trans hu5)
        clear hu5
        go_wp2_with fail
        (with_reducible refine (HOF.out _).mono ?_)
        rintro e w6 ⟨rfl, hu6⟩
        have HU6 := Lib.hid (HU5.out.trans hu6)
        clear hu6
        go_wp2_with fail
        (with_reducible refine (awake18 _).mono ?_)
        rintro e w7 ⟨rfl, hu7⟩
        have HU7 := Lib.hid (HU6.out.trans hu7)
        clear hu7
        go_wp2_with fail
        go_ret
        exact ⟨rfl, HU7.out.below⟩
end Go.Proofs.YtokpdocabmaagaaGreat
