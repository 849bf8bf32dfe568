/- cmp.Compare at int64 and uint32; item.first, by, ByLo, ByHi. -/
import Derived.Test.YtjpjlfcjkgmhdaaSpanK
import Derived.WalkMore
namespace Go.Proofs.Ytjpjlfcjkgmhdaa
open Go.RowKit

def cmpI (x y : Int) : Int := if x < y then -1 else if y < x then 1 else 0
def byI (a b x y : Int) : Int := if cmpI a b = 0 then cmpI x y else cmpI a b

theorem cmpI_lt {x y : Int} (h : x < y) : cmpI x y = -1 := by unfold cmpI; rw [if_pos h]
theorem cmpI_gt {x y : Int} (h : y < x) : cmpI x y = 1 := by unfold cmpI; rw [if_neg (by omega), if_pos h]
theorem cmpI_eq {x y : Int} (h : x = y) : cmpI x y = 0 := by unfold cmpI; rw [if_neg (by omega), if_neg (by omega)]

set_option maxRecDepth 100000 in
theorem nanI (x : Int) (w : World) : Calls Try.prog 66 #[.int .i64 x] w fun e w' => e = .returned (.bool false) ∧ w = w' := by
  go_enter Try.func66, Try.ntmps66
  go_wp2_with fail
  go_ret
  exact ⟨by simp, rfl⟩

set_option maxRecDepth 100000 in
theorem nanN (x : Int) (w : World) : Calls Try.prog 81 #[.int .u32 x] w fun e w' => e = .returned (.bool false) ∧ w = w' := by
  go_enter Try.func81, Try.ntmps81
  go_wp2_with fail
  go_ret
  exact ⟨by simp, rfl⟩

set_option maxRecDepth 100000 in
set_option maxHeartbeats 2000000 in
theorem cmpInt (x y : Int) (w : World) : Calls Try.prog 47 #[.int .i64 x, .int .i64 y] w fun e w' => e = .returned (.int .i64 (cmpI x y)) ∧ w = w' := by
  have H1 := Lib.hid (nanI x w)
  have H2 := Lib.hid (nanI y w)
  obtain ⟨r, hr⟩ : ∃ r, cmpI x y = r := ⟨_, rfl⟩
  rw [hr]
  rcases Int.lt_trichotomy x y with h | h | h
  · have e1 : decide (x < y) = true := decide_eq_true h
    have HR := Lib.hid ((cmpI_lt h).symm.trans hr)
    clear hr
    go_enter Try.func47, Try.ntmps47
    go_wp2_with fail
    (with_reducible refine H1.out.mono ?_)
    rintro e w' ⟨rfl, rfl⟩
    go_wp2_with fail
    (with_reducible refine H2.out.mono ?_)
    rintro e w' ⟨rfl, rfl⟩
    go_wp2_with fail
    go_ret
    exact ⟨by rw [← HR.out]; rfl, rfl⟩
  · have HR := Lib.hid ((cmpI_eq h).symm.trans hr)
    have h1 : ¬ x < y := by omega
    have h2 : ¬ y < x := by omega
    clear hr h
    go_enter Try.func47, Try.ntmps47
    go_wp2_with fail
    (with_reducible refine H1.out.mono ?_)
    rintro e w' ⟨rfl, rfl⟩
    go_wp2_with fail
    (with_reducible refine H2.out.mono ?_)
    rintro e w' ⟨rfl, rfl⟩
    go_wp2_with fail
    go_ret
    exact ⟨by rw [← HR.out]; rfl, rfl⟩
  · have HR := Lib.hid ((cmpI_gt h).symm.trans hr)
    have h1 : ¬ x < y := by omega
    clear hr
    go_enter Try.func47, Try.ntmps47
    go_wp2_with fail
    (with_reducible refine H1.out.mono ?_)
    rintro e w' ⟨rfl, rfl⟩
    go_wp2_with fail
    (with_reducible refine H2.out.mono ?_)
    rintro e w' ⟨rfl, rfl⟩
    go_wp2_with fail
    go_ret
    exact ⟨by rw [← HR.out]; rfl, rfl⟩
set_option maxRecDepth 100000 in
set_option maxHeartbeats 2000000 in
theorem cmpNum (x y : Int) (w : World) : Calls Try.prog 64 #[.int .u32 x, .int .u32 y] w fun e w' => e = .returned (.int .i64 (cmpI x y)) ∧ w = w' := by
  have H1 := Lib.hid (nanN x w)
  have H2 := Lib.hid (nanN y w)
  obtain ⟨r, hr⟩ : ∃ r, cmpI x y = r := ⟨_, rfl⟩
  rw [hr]
  rcases Int.lt_trichotomy x y with h | h | h
  · have e1 : decide (x < y) = true := decide_eq_true h
    have HR := Lib.hid ((cmpI_lt h).symm.trans hr)
    clear hr
    go_enter Try.func64, Try.ntmps64
    go_wp2_with fail
    (with_reducible refine H1.out.mono ?_)
    rintro e w' ⟨rfl, rfl⟩
    go_wp2_with fail
    (with_reducible refine H2.out.mono ?_)
    rintro e w' ⟨rfl, rfl⟩
    go_wp2_with fail
    go_ret
    exact ⟨by rw [← HR.out]; rfl, rfl⟩
  · have HR := Lib.hid ((cmpI_eq h).symm.trans hr)
    have h1 : ¬ x < y := by omega
    have h2 : ¬ y < x := by omega
    clear hr h
    go_enter Try.func64, Try.ntmps64
    go_wp2_with fail
    (with_reducible refine H1.out.mono ?_)
    rintro e w' ⟨rfl, rfl⟩
    go_wp2_with fail
    (with_reducible refine H2.out.mono ?_)
    rintro e w' ⟨rfl, rfl⟩
    go_wp2_with fail
    go_ret
    exact ⟨by rw [← HR.out]; rfl, rfl⟩
  · have HR := Lib.hid ((cmpI_gt h).symm.trans hr)
    have h1 : ¬ x < y := by omega
    clear hr
    go_enter Try.func64, Try.ntmps64
    go_wp2_with fail
    (with_reducible refine H1.out.mono ?_)
    rintro e w' ⟨rfl, rfl⟩
    go_wp2_with fail
    (with_reducible refine H2.out.mono ?_)
    rintro e w' ⟨rfl, rfl⟩
    go_wp2_with fail
    go_ret
    exact ⟨by rw [← HR.out]; rfl, rfl⟩

set_option maxRecDepth 100000 in
set_option maxHeartbeats 2000000 in
theorem firstC (w : World) (g : Nat) (a b z : Int) (C : Nat) (h0 : w.cell? ⟨g, 0, none⟩ = some (.int .i64 a)) (h1 : w.cell? ⟨g, 1, none⟩ = some (.int .i64 b)) (hz : (if a = 0 then b else a) = z) :
    Calls Try.prog 63 #[.slice (some ⟨g, 0, none⟩) 2 C] w fun e w' => e = .returned (.int .i64 z) ∧ w = w' := by
  have HZ := Lib.hid hz
  clear hz
  go_enter Try.func63, Try.ntmps63
  go_wp2_with fail
  go_loopg [7] 2 (fun m s7 wr => ∃ k : Nat, m + k = 2 ∧ s7 = .int .i64 (k : Int) ∧ (0 < k → a = 0) ∧ (1 < k → b = 0) ∧ wr = w)
  case atStart => exact ⟨0, rfl, rfl, by omega, by omega, rfl⟩
  case round =>
    obtain ⟨k, hk, rfl, ha, hb, rfl⟩ := hrel
    have hk3 : k = 0 ∨ k = 1 ∨ k = 2 := by omega
    rcases hk3 with rfl | rfl | rfl
    · clear ha hb
      by_cases hz : a = 0
      · have hq : (a != 0) = false := by simpa using hz
        have HA := Lib.hid hz
        clear hz
        go_wp2_with fail
        go_roundg 1
        case measure => omega
        case rel => exact ⟨1, by omega, by go_num, fun _ => HA.out, by omega, rfl⟩
      · have hq : (a != 0) = true := by simpa using hz
        have HA := Lib.hid hz
        clear hz
        go_wp2_with fail
        go_ret
        exact ⟨by rw [← HZ.out, if_neg HA.out]; rfl, rfl⟩
    · have HA := Lib.hid (ha (by omega))
      clear ha hb
      by_cases hz : b = 0
      · have hq : (b != 0) = false := by simpa using hz
        have HB := Lib.hid hz
        clear hz
        go_wp2_with fail
        go_roundg 0
        case measure => omega
        case rel => exact ⟨2, by omega, by go_num, fun _ => HA.out, fun _ => HB.out, rfl⟩
      · have hq : (b != 0) = true := by simpa using hz
        clear hz
        go_wp2_with fail
        go_ret
        exact ⟨by rw [← HZ.out, if_pos HA.out]; rfl, rfl⟩
    · have HA := Lib.hid (ha (by omega))
      have HB := Lib.hid (hb (by omega))
      clear ha hb
      go_wp2_with fail
      go_ret
      exact ⟨by rw [← HZ.out, if_pos HA.out, HB.out]; rfl, rfl⟩

set_option maxRecDepth 100000 in
set_option maxHeartbeats 2000000 in
theorem byC (a b x y : Int) (w : World) : Calls Try.prog 39 #[.int .i64 a, .int .i64 b, .int .u32 x, .int .u32 y] w fun e w' => e = .returned (.int .i64 (byI a b x y)) ∧ ∃ o, w' = w.alloc o := by
  have H1 := Lib.hid (cmpInt a b w)
  have H2 := Lib.hid (cmpNum x y w)
  obtain ⟨z, hz⟩ : ∃ z, byI a b x y = z := ⟨_, rfl⟩
  rw [hz]
  unfold byI at hz
  generalize cmpI a b = r at H1 hz
  generalize cmpI x y = q at H2 hz
  have H3 := Lib.hid (firstC (w.alloc (.cells #[.int .i64 r, .int .i64 q] 3)) w.heap.size r q z 2 (by rw [World.cell?_alloc_at _ _ _ _ rfl]; rfl) (by rw [World.cell?_alloc_at _ _ _ _ rfl]; rfl) hz)
  clear hz
  go_enter Try.func39, Try.ntmps39
  go_wp2_with fail
  (with_reducible refine H1.out.mono ?_)
  rintro e w' ⟨rfl, rfl⟩
  go_wp2_with fail
  (with_reducible refine H2.out.mono ?_)
  rintro e w' ⟨rfl, rfl⟩
  go_wp2_with fail
  (with_reducible refine H3.out.mono ?_)
  rintro e w' ⟨rfl, rfl⟩
  go_wp2_with fail
  go_ret
  exact ⟨rfl, _, rfl⟩

def cmpLo (s t : Sp) : Int := byI s.lo t.lo s.id t.id
def cmpHi (s t : Sp) : Int := byI s.hi t.hi s.id t.id

set_option maxRecDepth 100000 in
set_option maxHeartbeats 2000000 in
theorem byLoC (s t : Sp) (w : World) : Calls Try.prog 24 #[spV s, spV t] w fun e w' => e = .returned (.int .i64 (cmpLo s t)) ∧ ∃ a b c, w' = ((w.alloc a).alloc b).alloc c := by
  obtain ⟨a, b, x⟩ := s
  obtain ⟨c, d, y⟩ := t
  have H := fun w => byC a c (x : Int) (y : Int) w
  have H1 := Lib.hid H
  unfold spV cmpLo
  dsimp only
  clear H
  go_enter Try.func24, Try.ntmps24
  go_wp2_with fail
  (with_reducible refine (H1.out _).mono ?_)
  rintro e w' ⟨rfl, o, rfl⟩
  go_wp2_with fail
  go_ret
  exact ⟨rfl, _, _, _, rfl⟩

set_option maxRecDepth 100000 in
set_option maxHeartbeats 2000000 in
theorem byHiC (s t : Sp) (w : World) : Calls Try.prog 41 #[spV s, spV t] w fun e w' => e = .returned (.int .i64 (cmpHi s t)) ∧ ∃ a b c, w' = ((w.alloc a).alloc b).alloc c := by
  obtain ⟨a, b, x⟩ := s
  obtain ⟨c, d, y⟩ := t
  have H := fun w => byC b d (x : Int) (y : Int) w
  have H1 := Lib.hid H
  unfold spV cmpHi
  dsimp only
  clear H
  go_enter Try.func41, Try.ntmps41
  go_wp2_with fail
  (with_reducible refine (H1.out _).mono ?_)
  rintro e w' ⟨rfl, o, rfl⟩
  go_wp2_with fail
  go_ret
  exact ⟨rfl, _, _, _, rfl⟩

set_option maxRecDepth 100000 in
set_option maxHeartbeats 2000000 in
theorem fallHiC (s t : Sp) (w : World) : Calls Try.prog 40 #[spV s, spV t] w fun e w' => e = .returned (.int .i64 (cmpHi t s)) ∧ ∃ a b c d e, w' = ((((w.alloc a).alloc b).alloc c).alloc d).alloc e := by
  have H1 := Lib.hid (fun w => byHiC t s w)
  obtain ⟨z, hz⟩ : ∃ z, cmpHi t s = z := ⟨_, rfl⟩
  rw [hz] at H1 ⊢
  clear hz
  obtain ⟨a, b, x⟩ := s
  obtain ⟨c, d, y⟩ := t
  unfold spV at H1 ⊢
  dsimp only at H1 ⊢
  go_enter Try.func40, Try.ntmps40
  go_wp2_with fail
  (with_reducible refine (H1.out _).mono ?_)
  rintro e w' ⟨rfl, o, o1, o2, rfl⟩
  go_wp2_with fail
  go_ret
  exact ⟨rfl, _, _, _, _, _, rfl⟩
end Go.Proofs.Ytjpjlfcjkgmhdaa
