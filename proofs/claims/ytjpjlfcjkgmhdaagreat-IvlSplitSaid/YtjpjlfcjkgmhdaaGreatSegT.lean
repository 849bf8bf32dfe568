/- seg.Count. seg.Stab. -/
import Derived.Test.YtjpjlfcjkgmhdaaGreatSegC
import Derived.Test.YtjpjlfcjkgmhdaaGreatSrtK
namespace Go.Proofs.YtjpjlfcjkgmhdaaGreat
open Go.RowKit

/-- How many stand at some nodes. -/
def cntS (R : List (List Sp)) (L : List Nat) : Nat := (L.map fun k => (R[k]?.getD []).length).sum

theorem cntS_app (R : List (List Sp)) (A B : List Nat) : cntS R (A ++ B) = cntS R A + cntS R B := by simp [cntS]
theorem cntS_le {R : List (List Sp)} {M : Nat} (h : ∀ l ∈ R, l.length ≤ M) : ∀ L : List Nat, cntS R L ≤ L.length * M
  | [] => by simp [cntS]
  | k :: L => by
    have h1 := cntS_le h L
    have h2 : (R[k]?.getD []).length ≤ M := by
      cases e : R[k]? with
      | none => simp
      | some l => exact h l (List.mem_of_getElem? e)
    have e : cntS R (k :: L) = (R[k]?.getD []).length + cntS R L := by simp [cntS]
    rw [e, List.length_cons, Nat.succ_mul]
    omega

/-- Place k of a row of places. -/
theorem rowN_at {w : World} {base : Nat} {A : Option Addr} {n C : Nat} {L : List Nat} (h : KN.row w base (.slice A n C) L) {k : Nat} {x : Nat} (hx : L[k]? = some x) : ∃ g, A = some ⟨g, 0, none⟩ ∧ w.cell? ⟨g, k, none⟩ = some (.int .i64 (x : Int)) := by
  obtain ⟨g, C', hg, ec, -⟩ := row_at h hx
  injection hg with hg _ _
  have := ec 0 _ rfl
  exact ⟨g, hg, by simpa [KN] using this⟩

end Go.Proofs.YtjpjlfcjkgmhdaaGreat

namespace Go.Proofs.YtjpjlfcjkgmhdaaGreat
open Go.RowKit
attribute [local go_sem ↓] Go.wp_at_zero Go.wp_at_succ

/-- The names at some nodes, one behind the other. -/
def idsS (R : List (List Sp)) (L : List Nat) : List Nat := L.flatMap fun k => (R[k]?.getD []).map Sp.id

theorem idsS_app (R : List (List Sp)) (A B : List Nat) : idsS R (A ++ B) = idsS R A ++ idsS R B := by simp [idsS]
theorem idsS_len (R : List (List Sp)) : ∀ L : List Nat, (idsS R L).length = cntS R L
  | [] => rfl
  | k :: L => by
    have e : idsS R (k :: L) = (R[k]?.getD []).map Sp.id ++ idsS R L := by simp [idsS]
    have e2 : cntS R (k :: L) = (R[k]?.getD []).length + cntS R L := by simp [cntS]
    rw [e, e2, List.length_append, List.length_map, idsS_len R L]

theorem pathV_len {E : List Int} (hE : E.Pairwise (· < ·)) (hEl : E.length < 100000) (x : Int) : (pathV E x).length ≤ 400000 := by
  unfold pathV
  split
  · have := pathL_bound (nSl E) (slotX E x) 0 (nSl E) 0 (by omega) (by
      rename_i hb
      obtain ⟨a, z, h1, h2, h3⟩ := betwS_true hb
      have := (slot_facts hE h1 h2 h3).1
      omega)
    unfold pathS
    unfold nSl at *
    omega
  · simp

set_option maxRecDepth 100000 in
set_option maxHeartbeats 4000000 in
theorem segStab {w : World} {b fb : Nat} {ve vn va : Value} {vs : List Value} {E : List Int} {R : List (List Sp)} {c : Int} (h : SegAt w b fb ve vn va vs E R c) (x : Int)
    (hE : E.Pairwise (· < ·)) (hEl : E.length < 100000) (hR : R.length = 2 * nSl E - 1) (hM : cntS R (pathV E x) ≤ 1000) (hT : touchV E x < 1000000000) :
    Calls Tryz.prog 9 #[.pointer (some ⟨b, 0, none⟩), .int .i64 x] w (StabPost w (sortN (idsS R (pathV E x))) (touchV E x + cntS R (pathV E x))) := by
  obtain ⟨i0, hi, hz0, hz1, hz2⟩ := info_parts infoU32S
  have hp := segPath h x hE hEl
  have hlt := pathV_lt hE x
  obtain ⟨L, hL⟩ : ∃ L, pathV E x = L := ⟨_, rfl⟩
  obtain ⟨T, hTT⟩ : ∃ T, touchV E x = T := ⟨_, rfl⟩
  have hPL := pathV_len hE hEl x
  rw [hL] at hp hlt hM hPL ⊢
  rw [hTT] at hp hT ⊢
  obtain ⟨N, hN⟩ : ∃ N, L.length = N := ⟨_, rfl⟩
  have hNb : N < 1000000000 := by
    omega
  have HP := Lib.hid hp
  have H := Lib.hid h
  have HL := Lib.hid (And.intro hlt (And.intro hM (And.intro hR hN)))
  have T0 : (0 : Int) ≤ (T : Int) := Int.natCast_nonneg _
  clear hp h hlt hL hTT hM hR hN hPL
  go_enter Tryz.func9, Tryz.ntmps9
  go_wp2_with fail
  (with_reducible refine HP.out.mono ?_)
  rintro e w1 ⟨A, C, rfl, r1, r2⟩
  rw [HL.out.2.2.2]
  rw [HL.out.2.2.2] at r1
  have HR := Lib.hid (And.intro r1 r2)
  clear r1 r2
  go_wp2_with fail
  go_loopg [8, 21] N (fun m s8 s21 wr => ∃ (k : Nat) (vo : Value), m + k = N ∧ s8 = vo ∧ s21 = .int .i64 (k : Int) ∧ KU.row wr w1.heap.size vo (idsS R (L.take k)) ∧ Upd [] w1 wr)
  case atStart => exact ⟨0, _, rfl, rfl, rfl, World.ownsRow_nil _ _ _ _, Upd.refl _ _⟩
  case round =>
    obtain ⟨k, vo, hk, rfl, rfl, hru, hup⟩ := hrel
    have k0 : (0 : Int) ≤ (k : Int) := Int.natCast_nonneg _
    have HK := Lib.hid (And.intro hk (And.intro hru hup))
    have hkN : k ≤ N := by omega
    clear hk hru hup
    by_cases hlt : k < N
    · obtain ⟨p, hp⟩ : ∃ p, L[k]? = some p := ⟨_, List.getElem?_eq_getElem (by rw [HL.out.2.2.2]; exact hlt)⟩
      have hpl : p < R.length := by rw [HL.out.2.2.1]; exact HL.out.1 p (List.mem_of_getElem? hp)
      have hrl1 : KN.row wr w.heap.size (.slice A N C) L := own_upd HR.out.1 HK.out.2.2 (by simp)
      obtain ⟨gl, rfl, lc⟩ := rowN_at hrl1 hp
      have hs1 := (H.out.upd0 HR.out.2).upd0 HK.out.2.2
      obtain ⟨Aa, Ca, rfl⟩ := own_form hs1.rows.list
      have c2 := hs1.cells.2.2.1
      obtain ⟨ga, Ak, Ck, rfl, hv, rc, -, -⟩ := hs1.rows.at hpl
      have rr := (H.out.upd0 HR.out.2).rows.rows p _ _ hv (List.getElem?_eq_getElem hpl)
      clear hv
      have hlen : vs.length = R.length := hs1.rows.len
      have b1 : (k : Int) < (N : Int) := by omega
      have p0 : (0 : Int) ≤ (p : Int) := Int.natCast_nonneg _
      have p1 : (p : Int) < (vs.length : Int) := by omega
      obtain ⟨rl, hrl⟩ : ∃ l, (R[p]).length = l := ⟨_, rfl⟩
      obtain ⟨Rp, hRp⟩ : ∃ l, R[p]? = some l := ⟨_, List.getElem?_eq_getElem hpl⟩
      have eRp : R[p] = Rp := (List.getElem?_eq_some_iff.1 hRp).2
      rw [hrl] at rc rr
      rw [eRp] at hrl rr
      have htk : cntS R (L.take k) + rl ≤ 1000 := by
        have h1 : L = L.take k ++ L.drop k := (List.take_append_drop k L).symm
        have h2 : L.drop k = p :: L.drop (k + 1) := by
          obtain ⟨g1, g2⟩ := List.getElem?_eq_some_iff.1 hp
          rw [List.drop_eq_getElem_cons g1, g2]
        have h3 := HL.out.2.1
        rw [h1, cntS_app, h2] at h3
        have h4 : cntS R (p :: L.drop (k + 1)) = rl + cntS R (L.drop (k + 1)) := by simp [cntS, hRp, hrl]
        omega
      have rl0 : (0 : Int) ≤ (rl : Int) := Int.natCast_nonneg _
      have HX := Lib.hid (And.intro hp (And.intro hrl (And.intro rr (And.intro hRp (And.intro htk hs1)))))
      clear hp hrl rr hs1 hlen hRp htk eRp hrl1
      obtain ⟨wl, hwl⟩ : ∃ wl : World, wl = wr := ⟨_, rfl⟩
      subst hwl
      go_wp2_with fail
      go_loopg [8, 33] rl (fun m s8 s33 wr => ∃ (j : Nat) (vo : Value), m + j = rl ∧ s8 = vo ∧ s33 = .int .i64 (j : Int) ∧ KU.row wr w1.heap.size vo (idsS R (L.take k) ++ (Rp.take j).map Sp.id) ∧ Upd [] w1 wr)
      case atStart => exact ⟨0, _, rfl, rfl, rfl, by simpa using HK.out.2.1, HK.out.2.2⟩
      case round =>
        obtain ⟨j, vo2, hj, rfl, rfl, hru2, hup2⟩ := hrel
        have j0 : (0 : Int) ≤ (j : Int) := Int.natCast_nonneg _
        have hjr : j ≤ rl := by omega
        by_cases hjl : j < rl
        · obtain ⟨hp, hrl, rr, hRp, htk, hs1⟩ := HX.out
          obtain ⟨y, hy⟩ : ∃ y, Rp[j]? = some y := ⟨_, List.getElem?_eq_getElem (by rw [hrl]; exact hjl)⟩
          have rr2 : KSp.row wr 0 (.slice Ak rl Ck) Rp := own_upd rr hup2 (by simp)
          obtain ⟨gr, Cr, hgr, ey, -⟩ := row_at (K := KSp) rr2 hy
          injection hgr with hgr1 hgrn hgr3
          clear hgrn
          subst hgr1 hgr3
          have y0 : wr.cell? ⟨gr, j * 3, none⟩ = some (.int .i64 y.lo) := ey 0 _ rfl
          have y1 : wr.cell? ⟨gr, j * 3 + 1, none⟩ = some (.int .i64 y.hi) := ey 1 _ rfl
          have y2 : wr.cell? ⟨gr, j * 3 + 2, none⟩ = some (.int .u32 (y.id : Int)) := ey 2 _ rfl
          have hol : (idsS R (L.take k) ++ (Rp.take j).map Sp.id).length ≤ 1000 := by
            rw [List.length_append, idsS_len, List.length_map, List.length_take, hrl]
            omega
          have HOL := Lib.hid hol
          have HI0 := Lib.hid (And.intro hj (And.intro hru2 (And.intro hup2 hy)))
          have bj : (j : Int) < (rl : Int) := by omega
          have hz2w : w1.heap.size ≤ wr.heap.size := hup2.size
          have hrb : rl ≤ 1000 := by omega
          clear hp hrl rr hRp htk hs1 hy rr2 ey hj hru2 hup2 hol
          obtain ⟨wx, hwx⟩ : ∃ wx : World, wx = wr := ⟨_, rfl⟩
          subst hwx
          go_upto_region 9 with fail
          have hW2 : Upd [] wx (wx.alloc (.cells #[.int .i64 y.lo, .int .i64 y.hi, .int .u32 (y.id : Int)] 39)) := (Upd.refl _ _).alloc _
          have d2 : (wx.alloc (.cells #[.int .i64 y.lo, .int .i64 y.hi, .int .u32 (y.id : Int)] 39)).cell? ⟨wx.heap.size, 2, none⟩ = some (.int .u32 (y.id : Int)) := by rw [World.cell?_alloc_at _ _ _ _ rfl]; rfl
          have HI := Lib.hid (And.intro (own_upd HI0.out.2.1 hW2 (by simp)) (HI0.out.2.2.1.trans hW2))
          have hzw : w1.heap.size ≤ (wx.alloc (.cells #[.int .i64 y.lo, .int .i64 y.hi, .int .u32 (y.id : Int)] 39)).heap.size := Nat.le_trans hz2w hW2.size
          clear hW2 y0 y1 y2
          generalize (wx.alloc (.cells #[.int .i64 y.lo, .int .i64 y.hi, .int .u32 (y.id : Int)] 39)) = W2 at HI d2 hzw ⊢
          go_wp2_with (at_builtin; refine wpList_app _ rfl _ _ 31 rfl w1.heap.size 37 i0 (.int .u32 0) 1 4 Tryz.underlying31 hi hz0 hz1 hz2 rfl (by decide) _ _ _ rfl (own_upd HI.out.1 ((Upd.refl [] _).alloc _) (by simp)) _ 1 [.int .u32 (y.id : Int)] rfl (sees_lit W2 #[.int .u32 (y.id : Int)] 37 1 1 rfl (by decide)) (by simp [Value.oneCell']) (by have := HOL.out; unfold maxLen; omega) (by have := HOL.out; omega) (by simp; omega) ?_)
          intro A2 C2 W3 HP3
          have HP4 := Lib.hid HP3
          clear HP3 d2
          go_wp2_with fail
          go_roundg (rl - (j + 1))
          case measure => have := HI0.out.1; omega
          case rel =>
            have hu3 := ((Upd.refl _ W2).alloc (.cells #[.int .u32 (y.id : Int)] 37)).trans HP4.out.upd
            refine ⟨j + 1, _, Nat.sub_add_cancel hjl, rfl, by go_num, ?_, HI.out.2.trans' hu3 (fun q hq => .inr ?_)⟩
            · have h1 := HP4.out.own
              have e3 : (idsS R (L.take k)).length + min j Rp.length = (idsS R (L.take k) ++ (Rp.take j).map Sp.id).length := by simp
              rw [← List.map_take, e3] at h1
              obtain ⟨g1, g2⟩ := List.getElem?_eq_some_iff.1 HI0.out.2.2.2
              rw [List.take_succ_eq_append_getElem g1, g2, List.map_append, ← List.append_assoc]
              unfold Kind.row
              have e6 : (idsS R (L.take k) ++ (Rp.take j).map Sp.id ++ [y].map Sp.id).length = (idsS R (L.take k) ++ (Rp.take j).map Sp.id).length + 1 := by rw [List.length_append]; rfl
              rw [e6, KU.all_app]
              first
                | exact h1
                | (rw [e3]; exact h1)
            · exact own_ge HI.out.1 q hq
        · have hjr2 : j = rl := by omega
          have h2 : Rp.take j = Rp := by rw [hjr2]; exact List.take_of_length_le (by rw [HX.out.2.1]; exact Nat.le_refl _)
          rw [h2] at hru2
          have HI0 := Lib.hid (And.intro hru2 hup2)
          clear hru2 hup2 h2
          go_wp2_with fail
          go_roundg (N - (k + 1))
          case measure => have := HK.out.1; omega
          case rel =>
            refine ⟨k + 1, _, by have := HK.out.1; omega, rfl, by go_num, ?_, HI0.out.2⟩
            obtain ⟨g1, g2⟩ := List.getElem?_eq_some_iff.1 HX.out.1
            rw [List.take_succ_eq_append_getElem g1, g2, idsS_app]
            have e : idsS R [p] = Rp.map Sp.id := by simp [idsS, HX.out.2.2.2.1]
            rw [e]
            exact HI0.out.1
    · have hkN' : k = N := by omega
      have hL' : L.take k = L := by rw [hkN']; exact List.take_of_length_le (by rw [HL.out.2.2.2]; exact Nat.le_refl _)
      have hru := HK.out.2.1
      have hup := HK.out.2.2
      rw [hL'] at hru
      obtain ⟨gu, Cu, rfl⟩ := own_form hru
      have hln := idsS_len R L
      have hM := HL.out.2.1
      have hso := sortU _ _ _ wr hru (by omega)
      obtain ⟨cl, hcl⟩ : ∃ l, (idsS R L).length = l := ⟨_, rfl⟩
      have hcl2 : cntS R L = cl := by omega
      rw [hcl] at hso
      rw [hcl]
      rw [hcl2] at hM ⊢
      have cl0 : (0 : Int) ≤ (cl : Int) := Int.natCast_nonneg _
      have cl1 : (cl : Int) ≤ 1000 := by omega
      have HSO := Lib.hid hso
      have HC2 := Lib.hid hcl2
      have HU := Lib.hid hup
      clear hso hru hln hcl hcl2 hM hup hL' hkN'
      go_wp2_with fail
      (with_reducible refine HSO.out.mono ?_)
      rintro e w3 ⟨rfl, t1, t2⟩
      obtain ⟨A4, C4, e4⟩ := own_form t1
      have e5 : cl = (sortN (idsS R L)).length := by injection e4
      have HT3 := Lib.hid (And.intro t1 (And.intro t2 e5))
      clear t1 t2 e4 e5
      go_wp2_with fail
      go_ret2
      refine ⟨gu, Cu, ?_, ?_, ?_⟩
      · rw [← HT3.out.2.2, HC2.out, Int.natCast_add]; rfl
      · have := own_base HT3.out.1 HR.out.2.size
        rw [← HT3.out.2.2]
        exact this
      · exact (HR.out.2.trans HU.out).trans' HT3.out.2.1 (fun y hy => .inr (by have h1 := own_ge HT3.out.1 y hy; have h2 := HR.out.2.size; omega))
end Go.Proofs.YtjpjlfcjkgmhdaaGreat
