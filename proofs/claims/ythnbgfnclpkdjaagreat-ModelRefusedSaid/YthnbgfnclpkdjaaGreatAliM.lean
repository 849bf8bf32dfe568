/- gridironlaw26.alike: has a model the same items as another one? Printed by mkali.py. -/
import Derived.Test.YthnbgfnclpkdjaaGreatTolM
namespace Go.Proofs.YthnbgfnclpkdjaaGreat
open Go.RowKit

set_option maxRecDepth 100000 in
set_option maxHeartbeats 4000000 in
theorem alikeC {w : World} {h p s x N h' p' s' x' N' : Nat} {m m' : Md} (g : MM w h p s x m N) (g' : MM w h' p' s' x' m' N') (hN : N < 1000000) (hN' : N' < 1000000) :
    Calls Tryz.prog 29 #[.pointer (some ⟨h, 0, none⟩), .pointer (some ⟨h', 0, none⟩)] w fun e w' => ∃ b, e = .returned (.bool b) ∧ (b = true ↔ m.ps = m'.ps ∧ m.ss = m'.ss ∧ m.bs = m'.bs) ∧ Upd [] w w' := by
  have hs := g.small
  have hs' := g'.small
  have HG := Lib.hid (And.intro g.at' g'.at')
  clear g g'
  have l1 : m.ps.length < 1000000 := by omega
  have l2 : m.ss.length < 1000000 := by omega
  have l3 : m.bs.length < 1000000 := by omega
  have l4 : m'.ps.length < 1000000 := by omega
  have l5 : m'.ss.length < 1000000 := by omega
  have l6 : m'.bs.length < 1000000 := by omega
  have q1 := fun w9 (hu : Upd [] w w9) => thePoints (HG.out.1.upd0 hu) l1
  have q2 := fun w9 (hu : Upd [] w w9) => thePoints (HG.out.2.upd0 hu) l4
  have q3 := fun w9 (hu : Upd [] w w9) => theSpans (HG.out.1.upd0 hu) l2
  have q4 := fun w9 (hu : Upd [] w w9) => theSpans (HG.out.2.upd0 hu) l5
  have q5 := fun w9 (hu : Upd [] w w9) => theBoxes (HG.out.1.upd0 hu) l3
  have q6 := fun w9 (hu : Upd [] w w9) => theBoxes (HG.out.2.upd0 hu) l6
  have e1 := fun v u w9 h1 h2 => lowPC v u m.ps m'.ps w9 h1 h2 l1 l4
  have e2 := fun v u w9 h1 h2 => lowSC v u m.ss m'.ss w9 h1 h2 l2 l5
  have e3 := fun v u w9 h1 h2 => lowBC v u m.bs m'.bs w9 h1 h2 l3 l6
  obtain ⟨n1, hn1⟩ : ∃ n, m.ps.length = n := ⟨_, rfl⟩
  obtain ⟨n2, hn2⟩ : ∃ n, m'.ps.length = n := ⟨_, rfl⟩
  obtain ⟨n3, hn3⟩ : ∃ n, m.ss.length = n := ⟨_, rfl⟩
  obtain ⟨n4, hn4⟩ : ∃ n, m'.ss.length = n := ⟨_, rfl⟩
  obtain ⟨n5, hn5⟩ : ∃ n, m.bs.length = n := ⟨_, rfl⟩
  obtain ⟨n6, hn6⟩ : ∃ n, m'.bs.length = n := ⟨_, rfl⟩
  rw [hn1] at q1
  rw [hn2] at q2
  rw [hn3] at q3
  rw [hn4] at q4
  rw [hn5] at q5
  rw [hn6] at q6
  have Q1 := Lib.hid q1
  have Q2 := Lib.hid q2
  have Q3 := Lib.hid q3
  have Q4 := Lib.hid q4
  have Q5 := Lib.hid q5
  have Q6 := Lib.hid q6
  have E1 := Lib.hid e1
  have E2 := Lib.hid e2
  have E3 := Lib.hid e3
  clear q1 q2 q3 q4 q5 q6 e1 e2 e3 hn1 hn2 hn3 hn4 hn5 hn6 l1 l2 l3 l4 l5 l6 hs hs' hN hN'
  have HV0 := Lib.hid (Upd.refl [] w)
  go_enter Tryz.func29, Tryz.ntmps29
  go_wp2_with fail
  (with_reducible refine (Q1.out _ HV0.out).mono ?_)
  rintro e wa1 ⟨A1, C1, rfl, hr1, hu1⟩
  have HR1 := Lib.hid (And.intro (See.of_row hr1) (HV0.out.trans hu1))
  clear hr1 hu1
  go_wp2_with fail
  (with_reducible refine (Q2.out _ HR1.out.2).mono ?_)
  rintro e wb1 ⟨A2, C2, rfl, hr2, hu2⟩
  have HR2 := Lib.hid (And.intro (See.of_row hr2) (And.intro hu2 (HR1.out.2.trans hu2)))
  clear hr2 hu2
  go_wp2_with fail
  (with_reducible refine (E1.out _ _ _ (HR1.out.1.upd0 HR2.out.2.1) HR2.out.1).mono ?_)
  rintro e wc1 ⟨b1, rfl, hs1, hu1⟩
  have HS1 := Lib.hid hs1
  have HV1 := Lib.hid (HR2.out.2.2.trans hu1)
  clear hs1 hu1
  cases b1 with
  | false =>
    go_wp2_with fail
    go_ret
    refine ⟨_, rfl, ?_, HV1.out⟩
    have hh : false = true ↔ m.ps = m'.ps := HS1.out
    simp only [Bool.false_eq_true, false_iff] at hh ⊢
    exact fun hc => hh hc.1
  | true =>
    go_wp2_with fail
    (with_reducible refine (Q3.out _ HV1.out).mono ?_)
    rintro e wa2 ⟨A3, C3, rfl, hr3, hu3⟩
    have HR3 := Lib.hid (And.intro (See.of_row hr3) (HV1.out.trans hu3))
    clear hr3 hu3
    go_wp2_with fail
    (with_reducible refine (Q4.out _ HR3.out.2).mono ?_)
    rintro e wb2 ⟨A4, C4, rfl, hr4, hu4⟩
    have HR4 := Lib.hid (And.intro (See.of_row hr4) (And.intro hu4 (HR3.out.2.trans hu4)))
    clear hr4 hu4
    go_wp2_with fail
    (with_reducible refine (E2.out _ _ _ (HR3.out.1.upd0 HR4.out.2.1) HR4.out.1).mono ?_)
    rintro e wc2 ⟨b2, rfl, hs2, hu2⟩
    have HS2 := Lib.hid hs2
    have HV2 := Lib.hid (HR4.out.2.2.trans hu2)
    clear hs2 hu2
    cases b2 with
    | false =>
      go_wp2_with fail
      go_ret
      refine ⟨_, rfl, ?_, HV2.out⟩
      have hh : false = true ↔ m.ss = m'.ss := HS2.out
      simp only [Bool.false_eq_true, false_iff] at hh ⊢
      exact fun hc => hh hc.2.1
    | true =>
      go_wp2_with fail
      (with_reducible refine (Q5.out _ HV2.out).mono ?_)
      rintro e wa3 ⟨A5, C5, rfl, hr5, hu5⟩
      have HR5 := Lib.hid (And.intro (See.of_row hr5) (HV2.out.trans hu5))
      clear hr5 hu5
      go_wp2_with fail
      (with_reducible refine (Q6.out _ HR5.out.2).mono ?_)
      rintro e wb3 ⟨A6, C6, rfl, hr6, hu6⟩
      have HR6 := Lib.hid (And.intro (See.of_row hr6) (And.intro hu6 (HR5.out.2.trans hu6)))
      clear hr6 hu6
      go_wp2_with fail
      (with_reducible refine (E3.out _ _ _ (HR5.out.1.upd0 HR6.out.2.1) HR6.out.1).mono ?_)
      rintro e wc3 ⟨b3, rfl, hs3, hu3⟩
      have HS3 := Lib.hid hs3
      have HV3 := Lib.hid (HR6.out.2.2.trans hu3)
      clear hs3 hu3
      cases b3 with
      | false =>
        go_wp2_with fail
        go_ret
        refine ⟨_, rfl, ?_, HV3.out⟩
        have hh : false = true ↔ m.bs = m'.bs := HS3.out
        simp only [Bool.false_eq_true, false_iff] at hh ⊢
        exact fun hc => hh hc.2.2
      | true =>
        go_wp2_with fail
        go_ret
        have k1 : m.ps = m'.ps := HS1.out.1 rfl
        have k2 : m.ss = m'.ss := HS2.out.1 rfl
        have k3 : m.bs = m'.bs := HS3.out.1 rfl
        exact ⟨_, rfl, by simp [k1, k2, k3], HV3.out⟩
end Go.Proofs.YthnbgfnclpkdjaaGreat
