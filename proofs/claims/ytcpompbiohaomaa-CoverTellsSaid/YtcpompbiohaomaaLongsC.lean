/- Longs: are two lists of numbers the same? -/
import Derived.Test.YtcpompbiohaomaaKn
import Derived.BigQuiet
import Derived.Deep.QuietTactic
import Derived.Deep.LoopGhost
import Derived.Deep.Light
import Derived.IntWalk
import Derived.WalkKit
namespace Go.Proofs.Ytcpompbiohaomaa
open Go.RowKit

set_option maxRecDepth 100000 in
set_option maxHeartbeats 1000000 in
theorem longsC (a b : Value) (la lb : List Int) (w : World) (ha : See KL w a la) (hb : See KL w b lb) (hl : la.length < 1000000) (hl' : lb.length < 1000000) :
    Calls Try.prog 9 #[a, b] w fun e w' => e = .returned (.bool (decide (la = lb))) ∧ Upd [] w w' := by
  obtain ⟨A, C, rfl⟩ := ha.form
  obtain ⟨B, D, rfl⟩ := hb.form
  obtain ⟨r, hr⟩ : ∃ r, decide (la = lb) = r := ⟨_, rfl⟩
  obtain ⟨q, hq⟩ : ∃ q, ((la.length : Int) == (lb.length : Int)) = q := ⟨_, rfl⟩
  have hq2 : (la.length == lb.length) = q := by
    rw [← hq]
    by_cases he : la.length = lb.length
    · simp [he]
    · have e1 : ((la.length : Int) == (lb.length : Int)) = false := by simp; omega
      rw [e1]; simp [he]
  have HA := Lib.hid ha
  have HB := Lib.hid hb
  have HR := Lib.hid hr
  have HQ := Lib.hid hq
  rw [hr]
  clear ha hb hr
  have h2 : (la.length : Int) < 1000000 := by omega
  have h3 : (lb.length : Int) < 1000000 := by omega
  have HH2 := Lib.hid h2
  clear hl hl'
  go_enter Try.func9, Try.ntmps9
  go_wp2_with fail
  go_loopg [5] (la.length) (fun m i wr => ∃ k, m + k = la.length ∧ i = .int .i64 (k : Int) ∧ k ≤ lb.length ∧ la.take k = lb.take k ∧ Upd [] w wr)
  case atStart => exact ⟨0, rfl, rfl, Nat.zero_le _, rfl, Upd.refl _ _⟩
  case round =>
    obtain ⟨k, hk, rfl, hkb, htk, hu⟩ := hrel
    have HU := Lib.hid hu
    have HT := Lib.hid htk
    have HK := Lib.hid hk
    have HKL := Lib.hid hkb
    have b0 : (0 : Int) ≤ (k : Int) := Int.natCast_nonneg _
    have h1 : k ≤ la.length := by omega
    clear hu htk hk hkb h2 h3
    by_cases hlt : k < la.length
    · have hd1 : decide (k < la.length) = true := decide_eq_true hlt
      by_cases hlt' : k < lb.length
      · have hd2 : decide (k < lb.length) = true := decide_eq_true hlt'
        obtain ⟨x, hx⟩ : ∃ x, la[k] = x := ⟨_, rfl⟩
        obtain ⟨y, hy⟩ : ∃ y, lb[k] = y := ⟨_, rfl⟩
        obtain ⟨b1, o1, hA, -, -, hc1⟩ := KL.at (HA.out.upd0 HU.out) (k := k) (x := x) (by rw [List.getElem?_eq_getElem hlt, hx])
        obtain ⟨b2, o2, hB, -, -, hc2⟩ := KL.at (HB.out.upd0 HU.out) (k := k) (x := y) (by rw [List.getElem?_eq_getElem hlt', hy])
        subst hA hB
        have HX := Lib.hid hx
        have HY := Lib.hid hy
        have HLT := Lib.hid (And.intro hlt hlt')
        have b1 : (k : Int) < (la.length : Int) := by omega
        have b2 : (k : Int) < (lb.length : Int) := by omega
        clear hx hy hq hq2 h1
        by_cases hxy : x = y
        · have hq : (x == y) = true := by simp [hxy]
          have hq' : (x != y) = false := by simp [hxy]
          have HXY := Lib.hid hxy
          clear hxy
          go_wp2_with fail
          go_quiet (fail)
          go_wp2_with fail
          go_roundg (gk - 1)
          case measure => have := HK.out; have := HLT.out; omega
          case rel =>
            refine ⟨k + 1, by have := HK.out; have := HLT.out; omega, by have h2 := HH2.out; rw [IntWalk.wrap64_in _ ⟨by omega, by omega⟩]; rfl, HLT.out.2, ?_, HU.out.drewN _⟩
            rw [List.take_succ_eq_append_getElem HLT.out.1, List.take_succ_eq_append_getElem HLT.out.2, HT.out, HX.out, HY.out, HXY.out]
        · have hq : (x == y) = false := by simp [hxy]
          have hq' : (x != y) = true := by simp [hxy]
          have hd : r = false := by
            rw [← HR.out, decide_eq_false_iff_not]
            intro e; subst e; exact hxy (by rw [← HX.out, ← HY.out])
          have HD := Lib.hid hd
          clear hxy hd
          go_wp2_with fail
          go_quiet (fail)
          go_wp2_with fail
          go_ret
          exact ⟨by rw [HD.out]; rfl, HU.out.drewN _⟩
      · have hd2 : decide (k < lb.length) = false := decide_eq_false hlt'
        have hrq : q = r := by
          rw [← HR.out, ← HQ.out]
          have e1 : ((la.length : Int) == (lb.length : Int)) = false := by simp; omega
          rw [e1]; symm; rw [decide_eq_false_iff_not]; intro e; rw [e] at hlt; exact hlt' hlt
        have HRQ := Lib.hid hrq
        clear hrq hlt hlt' h1
        go_wp2_with fail
        go_ret
        exact ⟨by rw [← HRQ.out]; rfl, HU.out⟩
    · have hd1 : decide (k < la.length) = false := decide_eq_false hlt
      have hrq : q = r := by
        rw [← HR.out, ← HQ.out]
        have hke : k = la.length := by omega
        have ht := HT.out
        have hkb := HKL.out
        by_cases he : la.length = lb.length
        · rw [List.take_of_length_le (by omega), List.take_of_length_le (by omega)] at ht
          rw [decide_eq_true ht, he]; simp
        · have e1 : ((la.length : Int) == (lb.length : Int)) = false := by simp; omega
          rw [e1]; symm; rw [decide_eq_false_iff_not]; intro e; exact he (by rw [e])
      have HRQ := Lib.hid hrq
      clear hrq hlt h1
      go_wp2_with fail
      go_ret
      exact ⟨by rw [← HRQ.out]; rfl, HU.out⟩
end Go.Proofs.Ytcpompbiohaomaa

namespace Go.Proofs.Ytcpompbiohaomaa
open Go.RowKit
end Go.Proofs.Ytcpompbiohaomaa
