/- The document's own Half (gridironref22), as far as it is walked: find, All. -/
import Derived.Test.YtkhgglafnjfiaaaHalfS
namespace Go.Proofs.Ytkhgglafnjfiaaa
open Go.RowKit
attribute [local go_sem ↓] Go.wp_at_zero Go.wp_at_succ

/-- The two lists of the document's Half. -/
def RefAt (w : World) (vL vA : Value) (V : List (Int × Bool)) : Prop := Ints w vL (V.map (·.1)) ∧ Sees w 1 vA V.length (V.map fun p => .bool p.2)

theorem RefAt.upd {w w' : World} {vL vA : Value} {V : List (Int × Bool)} (h : RefAt w vL vA V) (hu : Upd [] w w') : RefAt w' vL vA V := ⟨h.1.upd0 hu, sees_upd h.2 hu (by simp)⟩

theorem RefAt.at {w : World} {AL AA : Option Addr} {n m CL CA : Nat} {V : List (Int × Bool)} (h : RefAt w (.slice AL n CL) (.slice AA m CA) V) {k : Nat} {p : Int × Bool} (hp : V[k]? = some p) :
    ∃ b o b' o', AL = some ⟨b, o, none⟩ ∧ AA = some ⟨b', o', none⟩ ∧ w.cell? ⟨b, o + k, none⟩ = some (.int .i64 p.1) ∧ w.cell? ⟨b', o' + k, none⟩ = some (.bool p.2) := by
  obtain ⟨h1, h2⟩ := List.getElem?_eq_some_iff.1 hp
  obtain ⟨b, o, rfl, hc⟩ := h.1.cell (k := k) (by rw [List.length_map]; exact h1)
  rcases h.2.2 with ⟨g1, g2⟩ | ⟨b', o', s, cap, g1, g2, g3, g4, g5⟩
  · omega
  · cases g1
    have := g2 (by omega)
    subst this
    refine ⟨b, o, b', o', rfl, rfl, ?_, g5 k _ (by rw [List.getElem?_map, hp]; rfl)⟩
    rw [hc, List.getElem_map, h2]

theorem RefAt.form {w : World} {vL vA : Value} {V : List (Int × Bool)} (h : RefAt w vL vA V) : ∃ AL CL AA CA, vL = .slice AL V.length CL ∧ vA = .slice AA V.length CA := by
  obtain ⟨A, C, e⟩ := h.1.form
  obtain ⟨A', C', e'⟩ := sees_form h.2
  rw [List.length_map] at e
  exact ⟨A, C, A', C', e, e'⟩

def vFind (V : List (Int × Bool)) (x : Int) : Int := match V.findIdx? (fun p => p == (x, true)) with | some i => (i : Int) | none => -1

theorem vFind_at (V : List (Int × Bool)) (x : Int) (i : Nat) (hi : V[i]? = some (x, true)) (h : ∀ j, j < i → V[j]? ≠ some (x, true)) : vFind V x = (i : Int) := by
  unfold vFind
  have : V.findIdx? (fun p => p == (x, true)) = some i := by
    rw [List.findIdx?_eq_some_iff_getElem]
    obtain ⟨h1, h2⟩ := List.getElem?_eq_some_iff.1 hi
    refine ⟨h1, by rw [h2]; simp, fun j hj hc => ?_⟩
    have := h j hj
    rw [List.getElem?_eq_getElem (by omega)] at this
    simp at hc
    exact this (by rw [hc])
  rw [this]

theorem vFind_no (V : List (Int × Bool)) (x : Int) (h : ∀ j, j < V.length → V[j]? ≠ some (x, true)) : vFind V x = -1 := by
  unfold vFind
  have : V.findIdx? (fun p => p == (x, true)) = none := by
    rw [List.findIdx?_eq_none_iff]
    intro p hp
    obtain ⟨j, hj⟩ := List.mem_iff_getElem?.1 hp
    have h1 := (List.getElem?_eq_some_iff.1 hj).1
    have := h j h1
    rw [hj] at this
    simpa using this
  rw [this]

set_option maxRecDepth 100000 in
set_option maxHeartbeats 400000 in
theorem find_ref (vL vA : Value) (V : List (Int × Bool)) (wk x : Int) (w : World) (h : RefAt w vL vA V) (hl : V.length < 1000000) :
    Calls Try.prog 70 #[.agg #[vL, vA, .int .i64 wk], .int .i64 x] w fun e w' => e = .returned (.int .i64 (vFind V x)) ∧ Upd [] w w' := by
  obtain ⟨AL, CL, AA, CA, rfl, rfl⟩ := h.form
  obtain ⟨n, hn⟩ : ∃ n, V.length = n := ⟨_, rfl⟩
  have hu : Upd [] w (w.alloc (.cells #[.slice AL n CL, .slice AA n CA, .int .i64 wk] 74)) := (Upd.refl _ _).alloc _
  have h' := h.upd hu
  have hc0 : (w.alloc (.cells #[.slice AL n CL, .slice AA n CA, .int .i64 wk] 74)).cell? ⟨w.heap.size, 0, none⟩ = some (.slice AL n CL) := by rw [World.cell?_alloc_at _ _ _ _ rfl]; rfl
  have hc1 : (w.alloc (.cells #[.slice AL n CL, .slice AA n CA, .int .i64 wk] 74)).cell? ⟨w.heap.size, 1, none⟩ = some (.slice AA n CA) := by rw [World.cell?_alloc_at _ _ _ _ rfl]; rfl
  rw [hn] at h' hl ⊢
  have HH := Lib.hid h'
  have HU := Lib.hid hu
  have HN := Lib.hid hn
  clear h h' hu hn
  go_enter Try.func70, Try.ntmps70
  go_upto_region 1 with fail
  generalize w.alloc (.cells #[.slice AL n CL, .slice AA n CA, .int .i64 wk] 74) = w0 at *
  generalize w.heap.size = hb at *
  go_wp2_with fail
  go_loopg [5] n (fun m i wr => ∃ k, m + k = n ∧ i = .int .i64 (k : Int) ∧ w0 = wr ∧ ∀ j, j < k → V[j]? ≠ some (x, true))
  case atStart => exact ⟨0, rfl, rfl, rfl, by intro j hj; omega⟩
  case round =>
    obtain ⟨k, hk, rfl, rfl, hj⟩ := hrel
    have hkn : k ≤ n := by omega
    have HK := Lib.hid hk
    have HJ := Lib.hid hj
    clear hk hj
    by_cases hlt : k < n
    · obtain ⟨p, hp⟩ : ∃ p, V[k]? = some p := ⟨V[k]'(by rw [HN.out]; exact hlt), List.getElem?_eq_getElem _⟩
      obtain ⟨b, o, b', o', rfl, rfl, hcl, hca⟩ := HH.out.at hp
      obtain ⟨y, c⟩ := p
      simp only at hcl hca
      have b0 : (0 : Int) ≤ (k : Int) := Int.natCast_nonneg _
      have b1 : (k : Int) < (n : Int) := by omega
      have HP := Lib.hid hp
      clear hp
      cases c
      · have hj2 : ∀ j, j < k + 1 → V[j]? ≠ some (x, true) := by
          intro j hj
          by_cases e : j = k
          · subst e; rw [HP.out]; simp
          · exact HJ.out j (by omega)
        have HJ2 := Lib.hid hj2
        clear hj2
        go_wp2_with fail
        go_roundg (n - (k + 1))
        case measure => have := HK.out; omega
        case rel => exact ⟨k + 1, by have := HK.out; omega, by go_num, rfl, HJ2.out⟩
      · by_cases hyx : y = x
        · subst hyx
          have hf : vFind V y = (k : Int) := vFind_at V y k HP.out HJ.out
          have HF := Lib.hid hf
          clear hf
          go_wp2_with fail
          go_ret
          exact ⟨by rw [HF.out]; rfl, HU.out⟩
        · have hj2 : ∀ j, j < k + 1 → V[j]? ≠ some (x, true) := by
            intro j hj
            by_cases e : j = k
            · subst e; rw [HP.out]; simp; exact hyx
            · exact HJ.out j (by omega)
          have HJ2 := Lib.hid hj2
          clear hj2
          go_wp2_with fail
          go_roundg (n - (k + 1))
          case measure => have := HK.out; omega
          case rel => exact ⟨k + 1, by have := HK.out; omega, by go_num, rfl, HJ2.out⟩
    · have hf : vFind V x = -1 := vFind_no V x (by intro j hj; rw [HN.out] at hj; exact HJ.out j (by omega))
      have HF := Lib.hid hf
      clear hf
      go_wp2_with fail
      go_ret
      exact ⟨by rw [HF.out]; rfl, HU.out⟩

theorem vAll_step (V : List (Int × Bool)) (k : Nat) (y : Int) (c : Bool) (h : V[k]? = some (y, c)) : vAll (V.take (k + 1)) = if c then vAll (V.take k) ++ [y] else vAll (V.take k) := by
  obtain ⟨h1, h2⟩ := List.getElem?_eq_some_iff.1 h
  rw [List.take_succ_eq_append_getElem h1, h2]
  cases c <;> simp [vAll, List.filter_append]

set_option maxRecDepth 100000 in
set_option maxHeartbeats 400000 in
theorem all_ref (vL vA : Value) (V : List (Int × Bool)) (wk : Int) (w : World) (h : RefAt w vL vA V) (hl : V.length < 1000000) :
    Calls Try.prog 47 #[.agg #[vL, vA, .int .i64 wk]] w fun e w' => ∃ A C, e = .returned (.slice A (vAll V).length C) ∧ KI.row w' w.heap.size (.slice A (vAll V).length C) (vAll V) ∧ Upd [] w w' := by
  obtain ⟨AL, CL, AA, CA, rfl, rfl⟩ := h.form
  obtain ⟨i1, hi1, hy0, hy1, hy2⟩ := info_parts info_int64
  obtain ⟨n, hn⟩ : ∃ n, V.length = n := ⟨_, rfl⟩
  have hu : Upd [] w (w.alloc (.cells #[.slice AL n CL, .slice AA n CA, .int .i64 wk] 74)) := (Upd.refl _ _).alloc _
  have h' := h.upd hu
  have hc0 : (w.alloc (.cells #[.slice AL n CL, .slice AA n CA, .int .i64 wk] 74)).cell? ⟨w.heap.size, 0, none⟩ = some (.slice AL n CL) := by rw [World.cell?_alloc_at _ _ _ _ rfl]; rfl
  have hc1 : (w.alloc (.cells #[.slice AL n CL, .slice AA n CA, .int .i64 wk] 74)).cell? ⟨w.heap.size, 1, none⟩ = some (.slice AA n CA) := by rw [World.cell?_alloc_at _ _ _ _ rfl]; rfl
  have hbs : w.heap.size < (w.alloc (.cells #[.slice AL n CL, .slice AA n CA, .int .i64 wk] 74)).heap.size := by simp
  rw [hn] at h' hl
  have HH := Lib.hid h'
  have HU := Lib.hid hu
  have HN := Lib.hid hn
  have HC0 := Lib.hid hc0
  have HC1 := Lib.hid hc1
  rw [hn]
  clear h h' hu hn hc0 hc1
  go_enter Try.func47, Try.ntmps47
  go_upto_region 1 with fail
  generalize w.alloc (.cells #[.slice AL n CL, .slice AA n CA, .int .i64 wk] 74) = w0 at *
  obtain ⟨hb, hhb⟩ : ∃ hb, w.heap.size = hb := ⟨_, rfl⟩
  rw [hhb] at HC0 HC1 hbs ⊢
  have HHB := Lib.hid hhb
  clear hhb
  go_wp2_with fail
  go_loopg [3, 4] n (fun m o i wr => ∃ k A C, m + k = n ∧ i = .int .i64 (k : Int) ∧ o = .slice A (vAll (V.take k)).length C ∧ KI.row wr w0.heap.size (.slice A (vAll (V.take k)).length C) (vAll (V.take k)) ∧ Upd [] w0 wr)
  case atStart => exact ⟨0, none, 0, rfl, rfl, rfl, World.ownsRow_nil _ _ _ _, Upd.refl _ _⟩
  case round =>
    obtain ⟨k, A, C, hk, rfl, rfl, hr, hup⟩ := hrel
    have hkn : k ≤ n := by omega
    have hm : (vAll (V.take k)).length ≤ k := by
      have e1 := vAll_len (V.take k)
      rw [List.length_take] at e1
      omega
    have HK := Lib.hid hk
    have HR := Lib.hid hr
    have HUP := Lib.hid hup
    have hs0 := hup.size
    have hc0 := (hup.cell (p := ⟨hb, 0, none⟩) hbs (by simp)).trans HC0.out
    have hc1 := (hup.cell (p := ⟨hb, 1, none⟩) hbs (by simp)).trans HC1.out
    clear hk hr hup
    by_cases hlt : k < n
    · obtain ⟨p, hp⟩ : ∃ p, V[k]? = some p := ⟨V[k]'(by rw [HN.out]; exact hlt), List.getElem?_eq_getElem _⟩
      obtain ⟨b, o, b', o', rfl, rfl, hcl, hca⟩ := (HH.out.upd HUP.out).at hp
      obtain ⟨y, c⟩ := p
      simp only at hcl hca
      have hst := vAll_step V k y c hp
      have b0 : (0 : Int) ≤ (k : Int) := Int.natCast_nonneg _
      have b1 : (k : Int) < (n : Int) := by omega
      obtain ⟨P, hP⟩ : ∃ P, vAll (V.take k) = P := ⟨_, rfl⟩
      rw [hP] at hst HR hm ⊢
      obtain ⟨np, hnp⟩ : ∃ np, P.length = np := ⟨_, rfl⟩
      have hown := row_n HR.out hnp
      rw [hnp] at hm hown ⊢
      have HOW := Lib.hid hown
      have HST := Lib.hid hst
      have HNP := Lib.hid hnp
      have HPP := Lib.hid hP
      clear hp hst hown hnp hP
      cases c
      · have hst := HST.out
        simp only [Bool.false_eq_true, if_false] at hst
        have HST2 := Lib.hid hst
        clear hst
        go_wp2_with fail
        go_roundg (n - (k + 1))
        case measure => have := HK.out; omega
        case rel =>
          refine ⟨k + 1, A, C, by have := HK.out; omega, by go_num, by rw [HST2.out, HNP.out], ?_, HUP.out⟩
          rw [HST2.out]; exact HR.out
      · have hst := HST.out
        simp only [if_true] at hst
        have HST2 := Lib.hid hst
        clear hst
        go_wp2_with (at_builtin; refine wpList_app _ rfl _ _ 22 rfl w0.heap.size 2 i1 (.int .i64 0) 1 8 Try.underlying22 hi1 hy0 hy1 hy2 rfl (by decide) _ np (KI.all P) rfl (HOW.out.alloc _) _ 1 [.int .i64 y] rfl (sees_lit wr #[.int .i64 y] 2 1 1 rfl (by decide)) (by simp [Value.oneCell']) (by unfold maxLen; omega) (by omega) (by simp; omega) ?_)
        intro A9 C9 w9 HP9
        obtain ⟨hup9, ho9, hb9⟩ := app_at (w := wr) (v := .slice A np C) ((Upd.refl _ wr).alloc (.cells #[.int .i64 y] 2)) HP9
        have HU9 := Lib.hid hup9
        have HO9 := Lib.hid ho9
        clear HP9 hup9 ho9 hb9
        go_wp2_with fail
        go_roundg (n - (k + 1))
        case measure => have := HK.out; omega
        case rel =>
          have hml : (P ++ [y]).length = np + 1 := by rw [List.length_append, HNP.out]; rfl
          refine ⟨k + 1, A9, C9, by have := HK.out; omega, by go_num, by rw [HST2.out, hml], ?_, HUP.out.trans' HU9.out (fun x hx => .inr (own_ge HOW.out x hx))⟩
          rw [HST2.out]
          unfold Kind.row
          rw [Kind.all_app, hml]
          exact HO9.out
    · have hkn' : k = n := by omega
      have htl : V.take k = V := by rw [List.take_of_length_le]; rw [HN.out]; omega
      rw [htl] at HR ⊢
      have HKK := Lib.hid hkn'
      clear hkn' htl
      go_wp2_with fail
      go_ret
      exact ⟨A, C, rfl, own_base HR.out HU.out.size, HU.out.trans HUP.out⟩
end Go.Proofs.Ytkhgglafnjfiaaa
