/- seg.Count. -/
import Derived.Test.YtclbdegkfjedjaaGreatSegC
namespace Go.Proofs.YtclbdegkfjedjaaGreat
open Go.RowKit

/-- How many stand at some nodes. -/
def cntS (R : List (List Sp)) (L : List Nat) : Nat := (L.map fun k => (R[k]?.getD []).length).sum

theorem cntS_app (R : List (List Sp)) (A B : List Nat) : cntS R (A ++ B) = cntS R A + cntS R B := by simp [cntS]
theorem cntS_le {R : List (List Sp)} {M : Nat} (h : ∀ l ∈ R, l.length ≤ M) : ∀ L : List Nat, cntS R L ≤ L.length * M
  | [] => by simp [cntS]
  | k :: L => by
    have h1 := cntS_le h L
    have h2 : (R[k]?.getD []).length ≤ M := by
      cases e : R[k]? with
      | none => simp
      | some l => exact h l (List.mem_of_getElem? e)
    have e : cntS R (k :: L) = (R[k]?.getD []).length + cntS R L := by simp [cntS]
    rw [e, List.length_cons, Nat.succ_mul]
    omega

/-- Place k of a row of places. -/
theorem rowN_at {w : World} {base : Nat} {A : Option Addr} {n C : Nat} {L : List Nat} (h : KN.row w base (.slice A n C) L) {k : Nat} {x : Nat} (hx : L[k]? = some x) : ∃ g, A = some ⟨g, 0, none⟩ ∧ w.cell? ⟨g, k, none⟩ = some (.int .i64 (x : Int)) := by
  obtain ⟨g, C', hg, ec, -⟩ := row_at h hx
  injection hg with hg _ _
  have := ec 0 _ rfl
  exact ⟨g, hg, by simpa [KN] using this⟩

set_option maxRecDepth 100000 in
set_option maxHeartbeats 4000000 in
theorem segCount {w : World} {b fb : Nat} {ve vn va : Value} {vs : List Value} {E : List Int} {R : List (List Sp)} {c : Int} (h : SegAt w b fb ve vn va vs E R c) (x : Int)
    (hE : E.Pairwise (· < ·)) (hEl : E.length < 100000) (hR : R.length = 2 * nSl E - 1) (hM : ∀ l ∈ R, l.length ≤ 1000) :
    Calls Tryz.prog 20 #[.pointer (some ⟨b, 0, none⟩), .int .i64 x] w fun e w' => e = .returned (.tuple #[.int .i64 (cntS R (pathV E x) : Nat), .int .i64 (touchV E x : Nat)]) ∧ Upd [] w w' := by
  have hp := segPath h x hE hEl
  have hlt := pathV_lt hE x
  have hLl : (pathV E x).length ≤ 400000 := by
    unfold pathV
    split
    · have := pathL_bound (nSl E) (slotX E x) 0 (nSl E) 0 (by omega) (by
        rename_i hb
        obtain ⟨a, z, h1, h2, h3⟩ := betwS_true hb
        have := (slot_facts hE h1 h2 h3).1
        omega)
      unfold pathS
      unfold nSl at *
      omega
    · simp
  obtain ⟨L, hL⟩ : ∃ L, pathV E x = L := ⟨_, rfl⟩
  obtain ⟨T, hTT⟩ : ∃ T, touchV E x = T := ⟨_, rfl⟩
  rw [hL] at hp hlt hLl ⊢
  rw [hTT] at hp ⊢
  have hcl := cntS_le hM
  obtain ⟨N, hN⟩ : ∃ N, L.length = N := ⟨_, rfl⟩
  have HP := Lib.hid hp
  have H := Lib.hid h
  have HL := Lib.hid (And.intro hlt (And.intro hcl (And.intro hR hN)))
  have T0 : (0 : Int) ≤ (T : Int) := Int.natCast_nonneg _
  rw [hN] at hLl
  clear hp h hlt hcl hL hTT hM hR hN
  go_enter Tryz.func20, Tryz.ntmps20
  go_wp2_with fail
  (with_reducible refine HP.out.mono ?_)
  rintro e w1 ⟨A, C, rfl, r1, r2⟩
  rw [HL.out.2.2.2]
  rw [HL.out.2.2.2] at r1
  have HR := Lib.hid (And.intro r1 r2)
  clear r1 r2
  go_wp2_with fail
  go_loopg [8, 19] N (fun m s8 s19 wr => ∃ k n : Nat, m + k = N ∧ n = cntS R (L.take k) ∧ s8 = .int .i64 (n : Int) ∧ s19 = .int .i64 (k : Int) ∧ wr = w1)
  case atStart => exact ⟨0, 0, rfl, rfl, rfl, rfl, rfl⟩
  case round =>
    obtain ⟨k, n, hk, hn, rfl, rfl, rfl⟩ := hrel
    have k0 : (0 : Int) ≤ (k : Int) := Int.natCast_nonneg _
    have n0 : (0 : Int) ≤ (n : Int) := Int.natCast_nonneg _
    have hnb : n ≤ 400000000 := by
      have := HL.out.2.1 (L.take k)
      rw [← hn, List.length_take, HL.out.2.2.2] at this
      have h2 : min k N * 1000 ≤ 400000 * 1000 := Nat.mul_le_mul_right _ (by omega)
      omega
    have HK := Lib.hid (And.intro hk hn)
    clear hk hn
    by_cases hlt : k < N
    · obtain ⟨p, hp⟩ : ∃ p, L[k]? = some p := ⟨_, List.getElem?_eq_getElem (by rw [HL.out.2.2.2]; exact hlt)⟩
      have hpl : p < R.length := by rw [HL.out.2.2.1]; exact HL.out.1 p (List.mem_of_getElem? hp)
      obtain ⟨gl, rfl, lc⟩ := rowN_at HR.out.1 hp
      have hs1 := H.out.upd0 HR.out.2
      obtain ⟨Aa, Ca, rfl⟩ := own_form hs1.rows.list
      have c2 := hs1.cells.2.2.1
      obtain ⟨ga, Ak, Ck, rfl, -, rc, -, rr⟩ := hs1.rows.at hpl
      have hRb : (R[p]).length ≤ 1000 := by
        have := HL.out.2.1 [p]
        simp [cntS, hpl] at this
        omega
      have hlen : vs.length = R.length := hs1.rows.len
      have b1 : (k : Int) < (N : Int) := by omega
      have p0 : (0 : Int) ≤ (p : Int) := Int.natCast_nonneg _
      have p1 : (p : Int) < (vs.length : Int) := by omega
      obtain ⟨rl, hrl⟩ : ∃ l, (R[p]).length = l := ⟨_, rfl⟩
      rw [hrl] at rc hRb
      have rl0 : (0 : Int) ≤ (rl : Int) := Int.natCast_nonneg _
      have HX := Lib.hid (And.intro hp (And.intro hrl hpl))
      clear hp hrl rr hs1 hlen
      go_wp2_with fail
      go_roundg (N - (k + 1))
      case measure => have := HK.out.1; omega
      case rel =>
        refine ⟨k + 1, n + rl, by have := HK.out.1; omega, ?_, by go_num, by go_num, rfl⟩
        have hkl := (List.getElem?_eq_some_iff.1 HX.out.1)
        obtain ⟨h1, h2⟩ := hkl
        rw [List.take_succ_eq_append_getElem h1, cntS_app, ← HK.out.2, h2]
        have hpl := HX.out.2.2
        have := HX.out.2.1
        simp [cntS, hpl]
        exact this.symm
    · have hkN : k = N := by have := HK.out.1; omega
      have hfin : n = cntS R L := by
        rw [HK.out.2, hkN, List.take_of_length_le (by rw [HL.out.2.2.2]; exact Nat.le_refl _)]
      have HF := Lib.hid hfin
      clear hkN hfin
      go_wp2_with fail
      go_ret2
      exact ⟨by rw [← HF.out]; rfl, HR.out.2⟩
end Go.Proofs.YtclbdegkfjedjaaGreat
