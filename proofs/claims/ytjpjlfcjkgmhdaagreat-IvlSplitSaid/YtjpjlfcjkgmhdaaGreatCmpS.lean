/- slices.Clone, Index and IndexFunc at spans. cmp.Compare at int64 and uint32; item.first, by, ByLo, ByHi. -/
import Derived.Test.YtjpjlfcjkgmhdaaGreatDelK
import Derived.BigQuiet
import Derived.WalkMore
import Derived.Test.YtjpjlfcjkgmhdaaGreatSpanK
namespace Go.Proofs.YtjpjlfcjkgmhdaaGreat
open Go.RowKit

def CloneSPost (w : World) (l : List Sp) (e : Ending) (w' : World) : Prop :=
  Upd [] w w' ∧ ∃ A C, e = .returned (.slice A l.length C) ∧ KSp.row w' w.heap.size (.slice A l.length C) l

set_option maxRecDepth 100000 in
set_option maxHeartbeats 1000000 in
theorem cloneSp (v : Value) (l : List Sp) (w : World) (hs : See KSp w v l) (hb : l.length < 1000000) :
    Calls Tryz.prog 13 #[v] w (CloneSPost w l) := by
  obtain ⟨i0, hi, hz0, hz1, hz2⟩ := info_parts infoSpanD
  obtain ⟨n, hn⟩ : ∃ n, l.length = n := ⟨_, rfl⟩
  have hx1 : ∀ u ∈ KSp.all l, u.oneCell' = true := KSp.all_one l
  have hs' : Sees w 3 v n (KSp.all l) := by rw [← hn]; exact hs
  have HS := Lib.hid hs'
  have HX := Lib.hid hx1
  have HN := Lib.hid hn
  rw [hn] at hb
  have HB := Lib.hid hb
  clear hx1 hn hb hs
  unfold CloneSPost
  rcases hs'.2 with ⟨rfl, rfl⟩ | ⟨b, o, sp, cap, rfl, _⟩
  · clear hs'
    have he := fun w => Lib.run_eql_slice_nil (P := Tryz.prog) (w := w) 22 39 none 0 0 0 0 Tryz.underlying22
    go_enter Tryz.func13, Tryz.ntmps13
    go_wp2
    go_ret
    have hx : l = [] := List.eq_nil_of_length_eq_zero HN.out
    subst hx
    exact ⟨Upd.refl _ _, none, 0, rfl, World.ownsRow_nil _ _ _ _⟩
  · clear hs'
    have he := fun w => Lib.run_eql_slice_nil (P := Tryz.prog) (w := w) 22 39 (some ⟨b, o, sp⟩) n cap 0 0 Tryz.underlying22
    go_enter Tryz.func13, Tryz.ntmps13
    go_wp2_with (at_builtin; refine wpList_app _ rfl _ _ 22 rfl w.heap.size 39 i0 _ 3 24 Tryz.underlying22 hi hz0 hz1 hz2 rfl (by decide) _ 0 [] rfl (World.ownsRow_made w #[] 0 (Nat.le_refl _) (by decide) rfl) _ n (KSp.all l) rfl (sees_upd HS.out ((Upd.refl [] w).alloc _) (by simp)) HX.out (by have := HB.out; unfold maxLen; omega) (by have := HB.out; omega) (by simp) ?_)
    intro A C w1 HP
    have HU := HP.upd
    have hb1 : Upd [] w w1 := (((Upd.refl [] w).alloc _).trans' HU (fun k hk => by simp [blk] at hk; omega))
    have hown : w1.ownsRow w.heap.size 39 3 (.slice A n C) n (KSp.all l) := by simpa using HP.own
    clear he
    go_wp2
    go_ret
    refine ⟨hb1, A, C, by rw [HN.out]; rfl, ?_⟩
    unfold Kind.row
    rw [HN.out]
    exact hown

end Go.Proofs.YtjpjlfcjkgmhdaaGreat

namespace Go.Proofs.YtjpjlfcjkgmhdaaGreat
open Go.RowKit

def cmpI (x y : Int) : Int := if x < y then -1 else if y < x then 1 else 0
def byI (a b x y : Int) : Int := if cmpI a b = 0 then cmpI x y else cmpI a b

theorem cmpI_lt {x y : Int} (h : x < y) : cmpI x y = -1 := by unfold cmpI; rw [if_pos h]
theorem cmpI_gt {x y : Int} (h : y < x) : cmpI x y = 1 := by unfold cmpI; rw [if_neg (by omega), if_pos h]
theorem cmpI_eq {x y : Int} (h : x = y) : cmpI x y = 0 := by unfold cmpI; rw [if_neg (by omega), if_neg (by omega)]

set_option maxRecDepth 100000 in
theorem nanI (x : Int) (w : World) : Calls Tryz.prog 68 #[.int .i64 x] w fun e w' => e = .returned (.bool false) ∧ w = w' := by
  go_enter Tryz.func68, Tryz.ntmps68
  go_wp2_with fail
  go_ret
  exact ⟨by simp, rfl⟩

set_option maxRecDepth 100000 in
theorem nanN (x : Int) (w : World) : Calls Tryz.prog 83 #[.int .u32 x] w fun e w' => e = .returned (.bool false) ∧ w = w' := by
  go_enter Tryz.func83, Tryz.ntmps83
  go_wp2_with fail
  go_ret
  exact ⟨by simp, rfl⟩

set_option maxRecDepth 100000 in
set_option maxHeartbeats 2000000 in
theorem cmpInt (x y : Int) (w : World) : Calls Tryz.prog 41 #[.int .i64 x, .int .i64 y] w fun e w' => e = .returned (.int .i64 (cmpI x y)) ∧ w = w' := by
  have H1 := Lib.hid (nanI x w)
  have H2 := Lib.hid (nanI y w)
  obtain ⟨r, hr⟩ : ∃ r, cmpI x y = r := ⟨_, rfl⟩
  rw [hr]
  rcases Int.lt_trichotomy x y with h | h | h
  · have e1 : decide (x < y) = true := decide_eq_true h
    have HR := Lib.hid ((cmpI_lt h).symm.trans hr)
    clear hr
    go_enter Tryz.func41, Tryz.ntmps41
    go_wp2_with fail
    (with_reducible refine H1.out.mono ?_)
    rintro e w' ⟨rfl, rfl⟩
    go_wp2_with fail
    (with_reducible refine H2.out.mono ?_)
    rintro e w' ⟨rfl, rfl⟩
    go_wp2_with fail
    go_ret
    exact ⟨by rw [← HR.out]; rfl, rfl⟩
  · have HR := Lib.hid ((cmpI_eq h).symm.trans hr)
    have h1 : ¬ x < y := by omega
    have h2 : ¬ y < x := by omega
    clear hr h
    go_enter Tryz.func41, Tryz.ntmps41
    go_wp2_with fail
    (with_reducible refine H1.out.mono ?_)
    rintro e w' ⟨rfl, rfl⟩
    go_wp2_with fail
    (with_reducible refine H2.out.mono ?_)
    rintro e w' ⟨rfl, rfl⟩
    go_wp2_with fail
    go_ret
    exact ⟨by rw [← HR.out]; rfl, rfl⟩
  · have HR := Lib.hid ((cmpI_gt h).symm.trans hr)
    have h1 : ¬ x < y := by omega
    clear hr
    go_enter Tryz.func41, Tryz.ntmps41
    go_wp2_with fail
    (with_reducible refine H1.out.mono ?_)
    rintro e w' ⟨rfl, rfl⟩
    go_wp2_with fail
    (with_reducible refine H2.out.mono ?_)
    rintro e w' ⟨rfl, rfl⟩
    go_wp2_with fail
    go_ret
    exact ⟨by rw [← HR.out]; rfl, rfl⟩
set_option maxRecDepth 100000 in
set_option maxHeartbeats 2000000 in
theorem cmpNum (x y : Int) (w : World) : Calls Tryz.prog 58 #[.int .u32 x, .int .u32 y] w fun e w' => e = .returned (.int .i64 (cmpI x y)) ∧ w = w' := by
  have H1 := Lib.hid (nanN x w)
  have H2 := Lib.hid (nanN y w)
  obtain ⟨r, hr⟩ : ∃ r, cmpI x y = r := ⟨_, rfl⟩
  rw [hr]
  rcases Int.lt_trichotomy x y with h | h | h
  · have e1 : decide (x < y) = true := decide_eq_true h
    have HR := Lib.hid ((cmpI_lt h).symm.trans hr)
    clear hr
    go_enter Tryz.func58, Tryz.ntmps58
    go_wp2_with fail
    (with_reducible refine H1.out.mono ?_)
    rintro e w' ⟨rfl, rfl⟩
    go_wp2_with fail
    (with_reducible refine H2.out.mono ?_)
    rintro e w' ⟨rfl, rfl⟩
    go_wp2_with fail
    go_ret
    exact ⟨by rw [← HR.out]; rfl, rfl⟩
  · have HR := Lib.hid ((cmpI_eq h).symm.trans hr)
    have h1 : ¬ x < y := by omega
    have h2 : ¬ y < x := by omega
    clear hr h
    go_enter Tryz.func58, Tryz.ntmps58
    go_wp2_with fail
    (with_reducible refine H1.out.mono ?_)
    rintro e w' ⟨rfl, rfl⟩
    go_wp2_with fail
    (with_reducible refine H2.out.mono ?_)
    rintro e w' ⟨rfl, rfl⟩
    go_wp2_with fail
    go_ret
    exact ⟨by rw [← HR.out]; rfl, rfl⟩
  · have HR := Lib.hid ((cmpI_gt h).symm.trans hr)
    have h1 : ¬ x < y := by omega
    clear hr
    go_enter Tryz.func58, Tryz.ntmps58
    go_wp2_with fail
    (with_reducible refine H1.out.mono ?_)
    rintro e w' ⟨rfl, rfl⟩
    go_wp2_with fail
    (with_reducible refine H2.out.mono ?_)
    rintro e w' ⟨rfl, rfl⟩
    go_wp2_with fail
    go_ret
    exact ⟨by rw [← HR.out]; rfl, rfl⟩

set_option maxRecDepth 100000 in
set_option maxHeartbeats 2000000 in
theorem cmpFirstC (w : World) (g : Nat) (a b z : Int) (C : Nat) (h0 : w.cell? ⟨g, 0, none⟩ = some (.int .i64 a)) (h1 : w.cell? ⟨g, 1, none⟩ = some (.int .i64 b)) (hz : (if a = 0 then b else a) = z) :
    Calls Tryz.prog 57 #[.slice (some ⟨g, 0, none⟩) 2 C] w fun e w' => e = .returned (.int .i64 z) ∧ w = w' := by
  have HZ := Lib.hid hz
  clear hz
  go_enter Tryz.func57, Tryz.ntmps57
  go_wp2_with fail
  go_loopg [7] 2 (fun m s7 wr => ∃ k : Nat, m + k = 2 ∧ s7 = .int .i64 (k : Int) ∧ (0 < k → a = 0) ∧ (1 < k → b = 0) ∧ wr = w)
  case atStart => exact ⟨0, rfl, rfl, by omega, by omega, rfl⟩
  case round =>
    obtain ⟨k, hk, rfl, ha, hb, rfl⟩ := hrel
    have hk3 : k = 0 ∨ k = 1 ∨ k = 2 := by omega
    rcases hk3 with rfl | rfl | rfl
    · clear ha hb
      by_cases hz : a = 0
      · have hq : (a != 0) = false := by simpa using hz
        have HA := Lib.hid hz
        clear hz
        go_wp2_with fail
        go_roundg 1
        case measure => omega
        case rel => exact ⟨1, by omega, by go_num, fun _ => HA.out, by omega, rfl⟩
      · have hq : (a != 0) = true := by simpa using hz
        have HA := Lib.hid hz
        clear hz
        go_wp2_with fail
        go_ret
        exact ⟨by rw [← HZ.out, if_neg HA.out]; rfl, rfl⟩
    · have HA := Lib.hid (ha (by omega))
      clear ha hb
      by_cases hz : b = 0
      · have hq : (b != 0) = false := by simpa using hz
        have HB := Lib.hid hz
        clear hz
        go_wp2_with fail
        go_roundg 0
        case measure => omega
        case rel => exact ⟨2, by omega, by go_num, fun _ => HA.out, fun _ => HB.out, rfl⟩
      · have hq : (b != 0) = true := by simpa using hz
        clear hz
        go_wp2_with fail
        go_ret
        exact ⟨by rw [← HZ.out, if_pos HA.out]; rfl, rfl⟩
    · have HA := Lib.hid (ha (by omega))
      have HB := Lib.hid (hb (by omega))
      clear ha hb
      go_wp2_with fail
      go_ret
      exact ⟨by rw [← HZ.out, if_pos HA.out, HB.out]; rfl, rfl⟩

set_option maxRecDepth 100000 in
set_option maxHeartbeats 2000000 in
theorem byC (a b x y : Int) (w : World) : Calls Tryz.prog 29 #[.int .i64 a, .int .i64 b, .int .u32 x, .int .u32 y] w fun e w' => e = .returned (.int .i64 (byI a b x y)) ∧ ∃ o, w' = w.alloc o := by
  have H1 := Lib.hid (cmpInt a b w)
  have H2 := Lib.hid (cmpNum x y w)
  obtain ⟨z, hz⟩ : ∃ z, byI a b x y = z := ⟨_, rfl⟩
  rw [hz]
  unfold byI at hz
  generalize cmpI a b = r at H1 hz
  generalize cmpI x y = q at H2 hz
  have H3 := Lib.hid (cmpFirstC (w.alloc (.cells #[.int .i64 r, .int .i64 q] 3)) w.heap.size r q z 2 (by rw [World.cell?_alloc_at _ _ _ _ rfl]; rfl) (by rw [World.cell?_alloc_at _ _ _ _ rfl]; rfl) hz)
  clear hz
  go_enter Tryz.func29, Tryz.ntmps29
  go_wp2_with fail
  (with_reducible refine H1.out.mono ?_)
  rintro e w' ⟨rfl, rfl⟩
  go_wp2_with fail
  (with_reducible refine H2.out.mono ?_)
  rintro e w' ⟨rfl, rfl⟩
  go_wp2_with fail
  (with_reducible refine H3.out.mono ?_)
  rintro e w' ⟨rfl, rfl⟩
  go_wp2_with fail
  go_ret
  exact ⟨rfl, _, rfl⟩

def cmpLo (s t : Sp) : Int := byI s.lo t.lo s.id t.id
def cmpHi (s t : Sp) : Int := byI s.hi t.hi s.id t.id

set_option maxRecDepth 100000 in
set_option maxHeartbeats 2000000 in
theorem byLoC (s t : Sp) (w : World) : Calls Tryz.prog 15 #[spV s, spV t] w fun e w' => e = .returned (.int .i64 (cmpLo s t)) ∧ ∃ a b c, w' = ((w.alloc a).alloc b).alloc c := by
  obtain ⟨a, b, x⟩ := s
  obtain ⟨c, d, y⟩ := t
  have H := fun w => byC a c (x : Int) (y : Int) w
  have H1 := Lib.hid H
  unfold spV cmpLo
  dsimp only
  clear H
  go_enter Tryz.func15, Tryz.ntmps15
  go_wp2_with fail
  (with_reducible refine (H1.out _).mono ?_)
  rintro e w' ⟨rfl, o, rfl⟩
  go_wp2_with fail
  go_ret
  exact ⟨rfl, _, _, _, rfl⟩

set_option maxRecDepth 100000 in
set_option maxHeartbeats 2000000 in
theorem byHiC (s t : Sp) (w : World) : Calls Tryz.prog 31 #[spV s, spV t] w fun e w' => e = .returned (.int .i64 (cmpHi s t)) ∧ ∃ a b c, w' = ((w.alloc a).alloc b).alloc c := by
  obtain ⟨a, b, x⟩ := s
  obtain ⟨c, d, y⟩ := t
  have H := fun w => byC b d (x : Int) (y : Int) w
  have H1 := Lib.hid H
  unfold spV cmpHi
  dsimp only
  clear H
  go_enter Tryz.func31, Tryz.ntmps31
  go_wp2_with fail
  (with_reducible refine (H1.out _).mono ?_)
  rintro e w' ⟨rfl, o, rfl⟩
  go_wp2_with fail
  go_ret
  exact ⟨rfl, _, _, _, rfl⟩

set_option maxRecDepth 100000 in
set_option maxHeartbeats 2000000 in
theorem fallHiC (s t : Sp) (w : World) : Calls Tryz.prog 30 #[spV s, spV t] w fun e w' => e = .returned (.int .i64 (cmpHi t s)) ∧ ∃ a b c d e, w' = ((((w.alloc a).alloc b).alloc c).alloc d).alloc e := by
  have H1 := Lib.hid (fun w => byHiC t s w)
  obtain ⟨z, hz⟩ : ∃ z, cmpHi t s = z := ⟨_, rfl⟩
  rw [hz] at H1 ⊢
  clear hz
  obtain ⟨a, b, x⟩ := s
  obtain ⟨c, d, y⟩ := t
  unfold spV at H1 ⊢
  dsimp only at H1 ⊢
  go_enter Tryz.func30, Tryz.ntmps30
  go_wp2_with fail
  (with_reducible refine (H1.out _).mono ?_)
  rintro e w' ⟨rfl, o, o1, o2, rfl⟩
  go_wp2_with fail
  go_ret
  exact ⟨rfl, _, _, _, _, _, rfl⟩
end Go.Proofs.YtjpjlfcjkgmhdaaGreat
