/- 'same' of layer 22's statements: are two lists of numbers the same? (The text is that of layer 20's, at the other number.) -/
import Derived.Test.YtkhgglafnjfiaaaSame
namespace Go.Proofs.Ytkhgglafnjfiaaa
open Go.RowKit

set_option maxRecDepth 100000 in
set_option maxHeartbeats 400000 in
theorem same22 (a b : Value) (la lb : List Int) (w : World) (ha : Ints w a la) (hb : Ints w b lb) (hl : la.length < 1099511627776) (hl' : lb.length < 1099511627776) :
    Calls Try.prog 41 #[a, b] w fun e w' => e = .returned (.bool (decide (la = lb))) ∧ Upd [] w w' := by
  obtain ⟨A, C, rfl⟩ := ha.form
  obtain ⟨B, D, rfl⟩ := hb.form
  by_cases hlen : la.length = lb.length
  · have hne : ((la.length : Int) != (lb.length : Int)) = false := by simp [hlen]
    have HA := Lib.hid ha
    have HB := Lib.hid hb
    have HL := Lib.hid hlen
    clear ha hb hlen
    go_enter Try.func41, Try.ntmps41
    go_upto_block 0 with fail
    go_cut [] (fun wc => la = lb ∧ Upd [] w wc)
    case first =>
      go_wp2_with fail
      go_loopg [13] (la.length) (fun m i wr => ∃ k, m + k = la.length ∧ i = .int .i64 (k : Int) ∧ la.take k = lb.take k ∧ Upd [] w wr)
      case atStart => exact ⟨0, rfl, rfl, rfl, Upd.refl _ _⟩
      case round =>
        obtain ⟨k, hk, rfl, htk, hu⟩ := hrel
        have HU := Lib.hid hu
        have HT := Lib.hid htk
        have HK := Lib.hid hk
        have h1 : k ≤ la.length := by omega
        clear hu htk hk
        by_cases hlt : k < la.length
        · have hlt' : k < lb.length := by rw [← HL.out]; exact hlt
          obtain ⟨b1, o1, hA, hc1⟩ := (HA.out.upd0 HU.out).cell hlt
          obtain ⟨b2, o2, hB, hc2⟩ := (HB.out.upd0 HU.out).cell hlt'
          subst hA hB
          obtain ⟨x, hx⟩ : ∃ x, la[k] = x := ⟨_, rfl⟩
          obtain ⟨y, hy⟩ : ∃ y, lb[k] = y := ⟨_, rfl⟩
          rw [hx] at hc1
          rw [hy] at hc2
          have HX := Lib.hid hx
          have HY := Lib.hid hy
          clear hx hy
          have b0 : (0 : Int) ≤ (k : Int) := Int.natCast_nonneg _
          have b1 : (k : Int) < (la.length : Int) := by omega
          have b2 : (k : Int) < (lb.length : Int) := by omega
          by_cases hxy : x = y
          · have hq : (x != y) = false := by simp [hxy]
            have HXY := Lib.hid hxy
            clear hxy
            go_wp2
            go_quiet (fail)
            go_wp2
            go_roundg (gk - 1)
            case measure => have := HK.out; omega
            case rel =>
              refine ⟨k + 1, by have := HK.out; omega, by go_num, ?_, HU.out.drewN _⟩
              rw [List.take_succ_eq_append_getElem hlt, List.take_succ_eq_append_getElem hlt', HT.out, HX.out, HY.out, HXY.out]
          · have hq : (x != y) = true := by simp [hxy]
            have hd : decide (la = lb) = false := by
              rw [decide_eq_false_iff_not]
              intro e; subst e; exact hxy (by rw [← HX.out, ← HY.out])
            have HD := Lib.hid hd
            clear hxy hd
            go_wp2
            go_quiet (fail)
            go_wp2
            go_ret
            exact ⟨by rw [HD.out]; rfl, HU.out.drewN _⟩
        · go_wp2
          go_meet
          case rel =>
            refine ⟨?_, HU.out⟩
            have := HT.out
            rwa [List.take_of_length_le (by omega), List.take_of_length_le (by have := HL.out; omega)] at this
    case rest =>
      obtain ⟨rfl, hu⟩ := hcut
      go_wp2
      go_ret
      exact ⟨by simp, hu⟩
  · have hne : ((la.length : Int) != (lb.length : Int)) = true := by simp; omega
    have hd : decide (la = lb) = false := by
      rw [decide_eq_false_iff_not]
      intro e; exact hlen (by rw [e])
    rw [hd]
    clear ha hb hd
    have HL := Lib.hid hlen
    clear hlen
    go_enter Try.func41, Try.ntmps41
    go_wp2
    go_ret
    exact ⟨rfl, Upd.refl _ _⟩
end Go.Proofs.Ytkhgglafnjfiaaa
