/- The document's cover: Gaps. -/
import Derived.Test.YtcpompbiohaomaaRefJ
import Derived.Test.YtcpompbiohaomaaSame16
import Derived.Test.YtcpompbiohaomaaWhole
namespace Go.Proofs.Ytcpompbiohaomaa
open Go.RowKit

theorem kb_info : (Try.prog.info? 4).map (fun i => (i.zero, i.size, i.bytes)) = some (some (.bool false), 1, 1) := by kernel_rfl

def spanH (i : Nat) (s : Nat × Nat) : Bool := decide (s.1 ≤ i) && decide (i < s.2)
theorem holds_span (H : List (Nat × Nat)) (i : Nat) : holdsG H i = H.any (spanH i) := rfl

theorem any_step {α : Type} {H : List α} {k : Nat} {x : α} (p : α → Bool) (hx : H[k]? = some x) : (H.take (k + 1)).any p = ((H.take k).any p || p x) := by
  rw [List.take_add_one, hx]
  simp

theorem outL_snoc (n : Nat) (p : Nat → Bool) : outL (n + 1) p = outL n p ++ [p n] := by simp [outL, List.range_succ]

theorem KB_all_snoc (l : List Bool) (b : Bool) : KB.all (l ++ [b]) = KB.all l ++ [.bool b] := by rw [Kind.all_app]; rfl

set_option maxRecDepth 100000 in
set_option maxHeartbeats 8000000 in
theorem rgapsC (r : Nat) (mv hv : Value) (M : List Int) (H : List (Nat × Nat)) (w : World) (h : RcAt w r mv hv M H) (hl : M.length < 1000) (hH : H.length < 100000) :
    Calls Try.prog 20 #[.pointer (some ⟨r, 0, none⟩)] w (GapsPost w (gapsH M H)) := by
  obtain ⟨i0, hi0, hz0, hz1, hz2⟩ := info_parts kb_info
  obtain ⟨Am, Cm, rfl⟩ := h.marks.form
  obtain ⟨Ah, Ch, rfl⟩ := own_form h.held
  obtain ⟨N, hN⟩ : ∃ N, M.length = N := ⟨_, rfl⟩
  obtain ⟨n, hn⟩ : ∃ n, H.length = n := ⟨_, rfl⟩
  have hgl : gapsH M H = outL (N - 1) (holdsG H) := by unfold gapsH outL; rw [hN]
  rw [hgl]
  have HH := Lib.hid h
  have HN := Lib.hid (And.intro hN (And.intro hn (And.intro hl hH)))
  have N1 : (N : Int) < 1000 := by omega
  have n1 : (n : Int) < 100000 := by omega
  clear h hl hH hN hn hgl
  go_enter Try.func20, Try.ntmps20
  go_wp2_with fail
  go_loopg [3, 4, 5, 6] (N - 1) (fun m s3 s4 _ _ wr => ∃ i A C, m + i = N - 1 ∧ s4 = .int .i64 (i : Int) ∧ s3 = .slice A i C ∧ KB.row wr w.heap.size (.slice A i C) (outL i (holdsG H)) ∧ Upd [] w wr)
  case atStart => exact ⟨0, none, 0, rfl, rfl, rfl, World.ownsRow_nil _ _ _ _, Upd.refl _ _⟩
  case round =>
    obtain ⟨i, A1, C1, hi, rfl, rfl, hrow, hu⟩ := hrel
    obtain ⟨wl, rfl⟩ : ∃ wl : World, wl = wr := ⟨_, rfl⟩
    have hc := HH.out.upd0 hu
    obtain ⟨p0, p1, -⟩ := hc.cells
    rw [HN.out.1] at p0
    rw [HN.out.2.1] at p1
    have hs : See KH wl (.slice Ah n Ch) H := by have := See.of_row hc.held; rw [HN.out.2.1] at this; exact this
    have HS := Lib.hid (And.intro hrow (And.intro hu hs))
    have HI := Lib.hid hi
    have b0 : (0 : Int) ≤ (i : Int) := Int.natCast_nonneg _
    clear hrow hu hc hs
    by_cases hlt : i + 1 < N
    · have i1 : (i : Int) + 1 < (N : Int) := by omega
      have HLT := Lib.hid hlt
      clear hi hlt
      go_wp2_with fail
      go_loopg [5, 6] n (fun m s5 s6 wr => ∃ k b, m + k = n ∧ s6 = .int .i64 (k : Int) ∧ s5 = .bool b ∧ (H.take k).any (spanH i) = b ∧ wr = wl)
      case atStart => exact ⟨0, false, rfl, rfl, rfl, rfl, rfl⟩
      case round =>
        obtain ⟨k, b, hk, rfl, rfl, hb, rfl⟩ := hrel
        have HK := Lib.hid (And.intro hk hb)
        have k0 : (0 : Int) ≤ (k : Int) := Int.natCast_nonneg _
        by_cases hkn : k < n
        · obtain ⟨x, hx⟩ : ∃ x, H[k]? = some x := ⟨_, List.getElem?_eq_getElem (by rw [HN.out.2.1]; exact hkn)⟩
          obtain ⟨g, o, hA, -, -, x0, x1⟩ := KH.at HS.out.2.2 hx
          subst hA
          have hstep := any_step (spanH i) hx
          rw [hb] at hstep
          obtain ⟨xa, xb⟩ := x
          dsimp only at x0 x1
          have k1 : (k : Int) < (n : Int) := by omega
          have HST := Lib.hid hstep
          clear hb hx hk hstep
          cases b
          · by_cases h1 : xa ≤ i
            · have d1 : decide (xa ≤ i) = true := decide_eq_true h1
              by_cases h2 : i < xb
              · have d2 : decide ((i : Int) + 1 ≤ (xb : Int)) = true := decide_eq_true (by omega)
                have hv : spanH i (xa, xb) = true := by unfold spanH; simp [h1, h2]
                have HV := Lib.hid hv
                clear hv h1 h2
                go_wp2_with fail
                go_roundg (n - (k + 1))
                case measure => have := HK.out.1; omega
                case rel => exact ⟨k + 1, true, by have := HK.out.1; omega, by go_num, rfl, by rw [HST.out, HV.out]; rfl, rfl⟩
              · have d2 : decide ((i : Int) + 1 ≤ (xb : Int)) = false := decide_eq_false (by omega)
                have hv : spanH i (xa, xb) = false := by unfold spanH; simp [h2]
                have HV := Lib.hid hv
                clear hv h1 h2
                go_wp2_with fail
                go_roundg (n - (k + 1))
                case measure => have := HK.out.1; omega
                case rel => exact ⟨k + 1, false, by have := HK.out.1; omega, by go_num, rfl, by rw [HST.out, HV.out]; rfl, rfl⟩
            · have d1 : decide (xa ≤ i) = false := decide_eq_false h1
              have hv : spanH i (xa, xb) = false := by unfold spanH; simp [h1]
              have HV := Lib.hid hv
              clear hv h1
              go_wp2_with fail
              go_roundg (n - (k + 1))
              case measure => have := HK.out.1; omega
              case rel => exact ⟨k + 1, false, by have := HK.out.1; omega, by go_num, rfl, by rw [HST.out, HV.out]; rfl, rfl⟩
          · go_wp2_with fail
            go_roundg (n - (k + 1))
            case measure => have := HK.out.1; omega
            case rel => exact ⟨k + 1, true, by have := HK.out.1; omega, by go_num, rfl, by rw [HST.out]; rfl, rfl⟩
        · have hke : k = n := by omega
          have hbh : holdsG H i = b := by
            rw [holds_span, ← hb, hke, List.take_of_length_le (by rw [HN.out.2.1]; omega)]
          have HBH := Lib.hid hbh
          have i2 : (i : Int) < 1000 := by omega
          clear hb hbh hke hk
          go_wp2_with (at_builtin; refine wpList_app _ rfl _ _ 44 rfl w.heap.size 4 i0 (.bool false) 1 1 Try.underlying44 hi0 hz0 hz1 hz2 rfl (by decide) _ i (KB.all (outL i (holdsG H))) rfl (by have h := own_upd HS.out.1 ((Upd.refl [] wr).alloc (.cells #[.bool b] 4)) (by simp); rw [outL_len] at h; exact h) _ 1 [.bool b] rfl (sees_lit wr #[.bool b] 4 1 1 rfl (by decide)) (by simp [Value.oneCell']) (by unfold maxLen; omega) (by omega) (by have := HS.out.2.1.size; simp; omega) ?_)
          intro A2 C2 w4 HP
          have hu4 : Upd [] w w4 := (HS.out.2.1.alloc _).trans' HP.upd (fun y hy => .inr (own_ge HS.out.1 y hy))
          have hr4 : KB.row w4 w.heap.size (.slice A2 (i + 1) C2) (outL (i + 1) (holdsG H)) := by
            have h := HP.own
            unfold Kind.row
            rw [outL_len, outL_snoc, HBH.out, KB_all_snoc]
            exact h
          have HE := Lib.hid (And.intro hr4 hu4)
          clear HP hu4 hr4
          go_wp2_with fail
          go_roundg (N - 1 - (i + 1))
          case measure => have := HI.out; have := HLT.out; omega
          case rel => exact ⟨i + 1, A2, C2, by have := HI.out; have := HLT.out; omega, by go_num, rfl, HE.out.1, HE.out.2⟩
    · have hd : decide ((i : Int) + 1 < (N : Int)) = false := decide_eq_false (by omega)
      have hie : i = N - 1 := by omega
      have i2 : (i : Int) < 1000 := by omega
      have HIE := Lib.hid hie
      clear hi hie
      go_wp2_with fail
      go_ret
      exact ⟨A1, C1, by rw [outL_len, ← HIE.out]; rfl, by rw [outL_len, ← HIE.out]; exact HS.out.1, HS.out.2.1⟩
end Go.Proofs.Ytcpompbiohaomaa
