/- Chapter 8's law: SameIDs, stabs. Chapter 8's law: awake. A seg tree, or none; spans and numbers that came in. -/
import Derived.Test.YtclbdegkfjedjaaGreatSegK
import Derived.BigQuiet
import Derived.Deep.QuietTactic
import Derived.Test.YtclbdegkfjedjaaGreatArgS
import Derived.Test.YtclbdegkfjedjaaGreatLits
import Derived.ProofKit
namespace Go.Proofs.YtclbdegkfjedjaaGreat
open Go.RowKit
attribute [local go_sem ↓] Go.wp_at_zero Go.wp_at_succ

theorem KU.atS {w : World} {A : Option Addr} {n C : Nat} {l : List Nat} (h : See KU w (.slice A n C) l) {k : Nat} {x : Nat} (hx : l[k]? = some x) :
    ∃ b o, A = some ⟨b, o, none⟩ ∧ n ≤ C ∧ C ≤ maxLen ∧ w.cell? ⟨b, o + k, none⟩ = some (.int .u32 (x : Int)) := by
  obtain ⟨b, o, h1, h2, h3, h4⟩ := h.at hx
  have := h4 0 _ rfl
  exact ⟨b, o, h1, h2, h3, by simpa [KU] using this⟩

set_option maxRecDepth 100000 in
set_option maxHeartbeats 4000000 in
theorem sameIDsC (va vb : Value) (la lb : List Nat) (w : World) (ha : See KU w va la) (hb : See KU w vb lb) (hl : la.length < 1000000000000) (hl2 : lb.length < 1000000000000) :
    Calls Tryz.prog 14 #[va, vb] w fun e w' => e = .returned (.bool (decide (la = lb))) ∧ Upd [] w w' := by
  obtain ⟨A, C, rfl⟩ := ha.form
  obtain ⟨B, D, rfl⟩ := hb.form
  obtain ⟨r, hr⟩ : ∃ r, decide (la = lb) = r := ⟨_, rfl⟩
  obtain ⟨n, hn⟩ : ∃ n, la.length = n := ⟨_, rfl⟩
  obtain ⟨m, hm⟩ : ∃ m, lb.length = m := ⟨_, rfl⟩
  rw [hn] at ha hl
  rw [hm] at hb hl2
  rw [hr, hn, hm]
  have HA := Lib.hid (And.intro ha hb)
  have HN := Lib.hid (And.intro hn (And.intro hm hr))
  have n0 : (0 : Int) ≤ (n : Int) := Int.natCast_nonneg _
  have m0 : (0 : Int) ≤ (m : Int) := Int.natCast_nonneg _
  have n1 : (n : Int) < 1000000000000 := by omega
  clear ha hb hr hn hm
  by_cases hnm : n = m
  · subst hnm
    have hne : ((n : Int) != (n : Int)) = false := by simp
    go_enter Tryz.func14, Tryz.ntmps14
    go_wp2_with fail
    go_loopg [13] n (fun m s13 wr => ∃ k : Nat, m + k = n ∧ s13 = .int .i64 (k : Int) ∧ la.take k = lb.take k ∧ Upd [] w wr)
    case atStart => exact ⟨0, rfl, rfl, by simp, Upd.refl _ _⟩
    case round =>
      obtain ⟨k, hk, rfl, htk, hup⟩ := hrel
      have k0 : (0 : Int) ≤ (k : Int) := Int.natCast_nonneg _
      have hkn : k ≤ n := by omega
      have HK := Lib.hid (And.intro hk (And.intro htk hup))
      clear hk htk hup
      by_cases hlt : k < n
      · obtain ⟨x, hx⟩ : ∃ x, la[k]? = some x := ⟨_, List.getElem?_eq_getElem (by rw [HN.out.1]; exact hlt)⟩
        obtain ⟨y, hy⟩ : ∃ y, lb[k]? = some y := ⟨_, List.getElem?_eq_getElem (by rw [HN.out.2.1]; exact hlt)⟩
        obtain ⟨g1, o1, hA, -, -, hc1⟩ := KU.atS (HA.out.1.upd0 HK.out.2.2) hx
        obtain ⟨g2, o2, hB, -, -, hc2⟩ := KU.atS (HA.out.2.upd0 HK.out.2.2) hy
        subst hA hB
        have HX := Lib.hid (And.intro hx hy)
        have b1 : (k : Int) < (n : Int) := by omega
        clear hx hy
        by_cases hxy : x = y
        · have hq : ((x : Int) != (y : Int)) = false := by simp [hxy]
          have HXY := Lib.hid hxy
          clear hxy
          go_wp2_with fail
          go_quiet (fail)
          go_wp2_with fail
          go_roundg (n - (k + 1))
          case measure => have := HK.out.1; omega
          case rel =>
            refine ⟨k + 1, by have := HK.out.1; omega, by go_num, ?_, HK.out.2.2.drewN _⟩
            obtain ⟨h1, h2⟩ := List.getElem?_eq_some_iff.1 HX.out.1
            obtain ⟨h3, h4⟩ := List.getElem?_eq_some_iff.1 HX.out.2
            rw [List.take_succ_eq_append_getElem h1, List.take_succ_eq_append_getElem h3, HK.out.2.1, h2, h4, HXY.out]
        · have hq : ((x : Int) != (y : Int)) = true := by simp; omega
          have hd : r = false := by
            rw [← HN.out.2.2, decide_eq_false_iff_not]
            intro e
            have h1 := HX.out.1
            rw [e, HX.out.2] at h1
            injection h1 with h1
            exact hxy h1.symm
          have HD := Lib.hid hd
          clear hxy hd
          go_wp2_with fail
          go_quiet (fail)
          go_wp2_with fail
          go_ret
          exact ⟨by rw [HD.out]; rfl, HK.out.2.2.drewN _⟩
      · have hkn2 : k = n := by omega
        have hd : r = true := by
          rw [← HN.out.2.2, decide_eq_true_iff]
          have h1 := HK.out.2.1
          rw [hkn2, List.take_of_length_le (by rw [HN.out.1]; exact Nat.le_refl _), List.take_of_length_le (by rw [HN.out.2.1]; exact Nat.le_refl _)] at h1
          exact h1
        have HD := Lib.hid hd
        clear hd hkn2
        go_wp2_with fail
        go_ret
        exact ⟨by rw [HD.out]; rfl, HK.out.2.2⟩
  · have hne : ((n : Int) != (m : Int)) = true := by simp; omega
    have hd : r = false := by
      rw [← HN.out.2.2, decide_eq_false_iff_not]
      intro e
      exact hnm (by rw [← HN.out.1, ← HN.out.2.1, e])
    have HD := Lib.hid hd
    clear hnm hd
    go_enter Tryz.func14, Tryz.ntmps14
    go_wp2_with fail
    go_ret
    exact ⟨by rw [HD.out]; rfl, Upd.refl _ _⟩

set_option maxRecDepth 100000 in
set_option maxHeartbeats 4000000 in
theorem stabsC {w : World} {b : Nat} {F : List Nat} {E : List Int} {S : List Sp} (h : IsSeg w b F E S) (x : Int) (v : Value) (l : List Nat) (hs : See KU w v l) (hl : l.length < 1000000000000) :
    Calls Tryz.prog 21 #[.pointer (some ⟨b, 0, none⟩), .int .i64 x, v] w fun e w' => e = .returned (.bool (decide (stabL S x = l))) ∧ Upd [] w w' := by
  obtain ⟨A, C, rfl⟩ := hs.form
  have hst := isStab h x
  have hsl := stabL_len S x
  have hm := h.many
  have hlen : stabL S x = l → ((stabL S x).length : Int) = (l.length : Int) := fun e => by rw [e]
  obtain ⟨T, hT⟩ : ∃ T, touchV E x + (stabL S x).length = T := ⟨_, rfl⟩
  have hco := fun w' (hu : Upd [] w w') => isCount (h.upd0 hu) x
  obtain ⟨L, hL⟩ : ∃ L, stabL S x = L := ⟨_, rfl⟩
  rw [hT] at hst
  rw [hL] at hst hsl hlen ⊢
  simp only [hL] at hco
  obtain ⟨n, hn⟩ : ∃ n, L.length = n := ⟨_, rfl⟩
  obtain ⟨m, hmm⟩ : ∃ m, l.length = m := ⟨_, rfl⟩
  have HST := Lib.hid hst
  have HCO := Lib.hid hco
  have HS := Lib.hid hs
  have HN := Lib.hid (And.intro hn hmm)
  have hsame := fun (va : Value) (w' : World) (h1 : See KU w' va L) (h2 : See KU w' (.slice A l.length C) l) => sameIDsC va _ L l w' h1 h2 (by omega) hl
  have HSAME := Lib.hid hsame
  by_cases hLl : L = l
  · rw [decide_eq_true hLl] at HSAME ⊢
    have heq : ((n : Int) == (m : Int)) = true := by have := hlen hLl; simp; omega
    clear hst hsl hlen hT hco hL hn hmm hs hsame hLl hm h hl
    go_enter Tryz.func21, Tryz.ntmps21
    go_wp2_with fail
    (with_reducible refine HST.out.mono ?_)
    rintro e w1 ⟨A1, C1, rfl, r1, r2⟩
    have HR := Lib.hid (And.intro r1 r2)
    have HC := Lib.hid (HCO.out w1 r2)
    clear r1 r2
    go_wp2_with fail
    (with_reducible refine HC.out.mono ?_)
    rintro e w2 ⟨rfl, u2⟩
    have HSM := Lib.hid (HSAME.out _ w2 (See.of_row (own_upd HR.out.1 u2 (by simp))) ((HS.out.upd0 HR.out.2).upd0 u2))
    have HU := Lib.hid (HR.out.2.trans u2)
    clear u2
    rw [HN.out.1] at HSM ⊢
    rw [HN.out.2] at HSM ⊢
    go_wp2_with fail
    (with_reducible refine HSM.out.mono ?_)
    rintro e w3 ⟨rfl, u3⟩
    have HU3 := Lib.hid (HU.out.trans u3)
    clear u3
    go_wp2_with fail
    go_ret
    exact ⟨rfl, HU3.out⟩
  · rw [decide_eq_false hLl] at HSAME ⊢
    clear hst hsl hlen hT hco hL hn hmm hs hsame hLl hm h hl
    go_enter Tryz.func21, Tryz.ntmps21
    go_wp2_with fail
    (with_reducible refine HST.out.mono ?_)
    rintro e w1 ⟨A1, C1, rfl, r1, r2⟩
    have HR := Lib.hid (And.intro r1 r2)
    have HC := Lib.hid (HCO.out w1 r2)
    clear r1 r2
    go_wp2_with fail
    (with_reducible refine HC.out.mono ?_)
    rintro e w2 ⟨rfl, u2⟩
    have HSM := Lib.hid (HSAME.out _ w2 (See.of_row (own_upd HR.out.1 u2 (by simp))) ((HS.out.upd0 HR.out.2).upd0 u2))
    have HU := Lib.hid (HR.out.2.trans u2)
    clear u2
    rw [HN.out.1] at HSM ⊢
    rw [HN.out.2] at HSM ⊢
    go_wp2_with fail
    (with_reducible refine HSM.out.mono ?_)
    rintro e w3 ⟨rfl, u3⟩
    have HU3 := Lib.hid (HU.out.trans u3)
    clear u3
    go_wp2_with fail
    go_ret
    exact ⟨rfl, HU3.out⟩
end Go.Proofs.YtclbdegkfjedjaaGreat

namespace Go.Proofs.YtclbdegkfjedjaaGreat
open Go.RowKit

theorem stabL_lit {S : List Sp} {x : Int} {L : List Nat} (h : ((S.filter fun s => stabBM s.lo s.hi x).map Sp.id) = L) (hs : L.Pairwise (· ≤ ·)) : decide (stabL S x = L) = true := by
  rw [decide_eq_true_iff]
  unfold stabL
  rw [h]
  exact (sortN_eq (List.Perm.refl _) hs).symm

theorem stabsTwo {w : World} {b : Nat} {F : List Nat} {E : List Int} {S : List Sp} (h : IsSeg w b F E S) (x : Int) (p q : Nat) (pi qi : Int) (hp : (p : Int) = pi) (hq : (q : Int) = qi) (r : Bool) (hr : decide (stabL S x = [p, q]) = r) :
    Calls Tryz.prog 21 #[.pointer (some ⟨b, 0, none⟩), .int .i64 x, .slice (some ⟨w.heap.size, 0, none⟩) 2 2] (w.alloc (.cells #[.int .u32 pi, .int .u32 qi] 30)) fun e w' => e = .returned (.bool r) ∧ Upd [] w w' := by
  subst hp hq hr
  refine (stabsC (h.upd0 ((Upd.refl [] w).alloc _)) x _ [p, q] (sees_lit w #[.int .u32 (p : Int), .int .u32 (q : Int)] 30 1 2 rfl (by decide)) (by simp)).mono ?_
  rintro e w' ⟨rfl, u⟩
  exact ⟨rfl, ((Upd.refl [] w).alloc _).trans u⟩

theorem stabsOne {w : World} {b : Nat} {F : List Nat} {E : List Int} {S : List Sp} (h : IsSeg w b F E S) (x : Int) (p : Nat) (pi : Int) (hp : (p : Int) = pi) (r : Bool) (hr : decide (stabL S x = [p]) = r) :
    Calls Tryz.prog 21 #[.pointer (some ⟨b, 0, none⟩), .int .i64 x, .slice (some ⟨w.heap.size, 0, none⟩) 1 1] (w.alloc (.cells #[.int .u32 pi] 30)) fun e w' => e = .returned (.bool r) ∧ Upd [] w w' := by
  subst hp hr
  refine (stabsC (h.upd0 ((Upd.refl [] w).alloc _)) x _ [p] (sees_lit w #[.int .u32 (p : Int)] 30 1 1 rfl (by decide)) (by simp)).mono ?_
  rintro e w' ⟨rfl, u⟩
  exact ⟨rfl, ((Upd.refl [] w).alloc _).trans u⟩

theorem stabsNo {w : World} {b : Nat} {F : List Nat} {E : List Int} {S : List Sp} (h : IsSeg w b F E S) (x : Int) (r : Bool) (hr : decide (stabL S x = []) = r) :
    Calls Tryz.prog 21 #[.pointer (some ⟨b, 0, none⟩), .int .i64 x, .slice none 0 0] w fun e w' => e = .returned (.bool r) ∧ Upd [] w w' := by
  subst hr
  exact stabsC h x _ [] ⟨rfl, .inl ⟨rfl, rfl⟩⟩ (by decide)

def spans3 : List Sp := [⟨0, 4, 1⟩, ⟨4, 9, 2⟩, ⟨6, 6, 3⟩]

theorem see_spans3 (w : World) : See KSp (w.alloc (.cells #[.int .i64 0, .int .i64 4, .int .u32 1, .int .i64 4, .int .i64 9, .int .u32 2, .int .i64 6, .int .i64 6, .int .u32 3] 32)) (.slice (some ⟨w.heap.size, 0, none⟩) 3 3) spans3 :=
  sees_lit w #[.int .i64 0, .int .i64 4, .int .u32 1, .int .i64 4, .int .i64 9, .int .u32 2, .int .i64 6, .int .i64 6, .int .u32 3] 32 3 3 rfl (by decide)

theorem spV_lit (lo hi : Int) (id : Nat) (i : Int) (h : (id : Int) = i) : spV ⟨lo, hi, id⟩ = .agg #[.int .i64 lo, .int .i64 hi, .int .u32 i] := by subst h; rfl

set_option maxRecDepth 100000 in
set_option maxHeartbeats 4000000 in
theorem awake08 (w : World) : Calls Tryz.prog 9 #[] w fun e w' => e = .returned (.bool true) ∧ Upd [] w w' := by
  have hb := segBuild _ spans3 _ (see_spans3 w) (by decide) (by decide)
  have HB := Lib.hid hb
  have HW0 := Lib.hid ((Upd.refl [] w).alloc (.cells #[.int .i64 0, .int .i64 4, .int .u32 1, .int .i64 4, .int .i64 9, .int .u32 2, .int .i64 6, .int .i64 6, .int .u32 3] 32))
  clear hb
  go_enter Tryz.func9, Tryz.ntmps9
  go_wp2_with fail
  (with_reducible refine HB.out.mono ?_)
  rintro e w1 ⟨u1, (⟨hc, -⟩ | ⟨-, b, F, rfl, hs, hF⟩)⟩
  · exact absurd hc (by decide)
  have HS := Lib.hid hs
  have HU1 := Lib.hid (HW0.out.trans u1)
  have HF := Lib.hid (show ∀ k ∈ F, w.heap.size ≤ k from fun k hk => by have h1 := hF k hk; have h2 := HW0.out.size; omega)
  have HC1 := Lib.hid (stabsTwo hs 4 1 2 1 2 rfl rfl true (stabL_lit (by decide) (by decide)))
  clear u1 hs hF
  go_wp2_with fail
  (with_reducible refine HC1.out.mono ?_)
  rintro e w2 ⟨rfl, u2⟩
  have hs := HS.out.upd0 u2
  have HS2 := Lib.hid hs
  have HU2 := Lib.hid (HU1.out.trans u2)
  have HC2 := Lib.hid (stabsOne hs 5 2 2 rfl true (stabL_lit (by decide) (by decide)))
  clear u2 hs
  go_wp2_with fail
  (with_reducible refine HC2.out.mono ?_)
  rintro e w3 ⟨rfl, u3⟩
  have hs := HS2.out.upd0 u3
  have HS3 := Lib.hid hs
  have HU3 := Lib.hid (HU2.out.trans u3)
  have HC3 := Lib.hid (stabsTwo hs 6 2 3 2 3 rfl rfl true (stabL_lit (by decide) (by decide)))
  clear u3 hs
  go_wp2_with fail
  (with_reducible refine HC3.out.mono ?_)
  rintro e w4 ⟨rfl, u4⟩
  have hs := HS3.out.upd0 u4
  have HS4 := Lib.hid hs
  have HU4 := Lib.hid (HU3.out.trans u4)
  have HC4 := Lib.hid (stabsNo hs 10 true (stabL_lit (by decide) (by decide)))
  clear u4 hs
  go_wp2_with fail
  (with_reducible refine HC4.out.mono ?_)
  rintro e w5 ⟨rfl, u5⟩
  have hs := HS4.out.upd0 u5
  have HS5 := Lib.hid hs
  have HU5 := Lib.hid (HU4.out.trans u5)
  have hlen := isLen hs
  rw [show ((spans3.length : Nat) : Int) = 3 from rfl] at hlen
  have HC5 := Lib.hid hlen
  clear u5 hs hlen
  go_wp2_with fail
  (with_reducible refine HC5.out.mono ?_)
  rintro e w6 ⟨rfl, rfl⟩
  have hd := isDrop HS5.out ⟨4, 9, 2⟩
  rw [spV_lit 4 9 2 2 rfl] at hd
  have HD := Lib.hid hd
  clear hd
  go_wp2_with fail
  (with_reducible refine HD.out.mono ?_)
  rintro e w7 ⟨rfl, hs, u7⟩
  have hin : decide ((⟨4, 9, 2⟩ : Sp) ∈ spans3) = true := by decide
  rw [hin]
  have HS7 := Lib.hid hs
  have HU7 := Lib.hid (HU5.out.trans' u7 (fun k hk => .inr (HF.out k hk)))
  have HC7 := Lib.hid (stabsOne hs 6 3 3 rfl true (stabL_lit (by decide) (by decide)))
  clear u7 hs hin
  go_wp2_with fail
  (with_reducible refine HC7.out.mono ?_)
  rintro e w8 ⟨rfl, u8⟩
  have hs := HS7.out.upd0 u8
  have HS8 := Lib.hid hs
  have HU8 := Lib.hid (HU7.out.trans u8)
  have hd := isDrop hs ⟨6, 7, 3⟩
  rw [spV_lit 6 7 3 3 rfl] at hd
  have HD2 := Lib.hid hd
  clear hd u8 hs
  go_wp2_with fail
  (with_reducible refine HD2.out.mono ?_)
  rintro e w9 ⟨rfl, hs, u9⟩
  have hin : decide ((⟨6, 7, 3⟩ : Sp) ∈ without spans3 ⟨4, 9, 2⟩) = false := by decide
  rw [hin]
  have HU9 := Lib.hid (HU8.out.trans' u9 (fun k hk => .inr (HF.out k hk)))
  have hlen := isLen hs
  rw [show ((without (without spans3 ⟨4, 9, 2⟩) ⟨6, 7, 3⟩).length : Int) = 2 by decide] at hlen
  have HL := Lib.hid hlen
  clear u9 hs hlen hin
  go_wp2_with fail
  (with_reducible refine HL.out.mono ?_)
  rintro e w10 ⟨rfl, rfl⟩
  go_wp2_with fail
  go_ret
  exact ⟨rfl, HU9.out⟩
end Go.Proofs.YtclbdegkfjedjaaGreat

namespace Go.Proofs.YtclbdegkfjedjaaGreat
open Go.RowKit

/-- A tree that has these spans, or none, which has none. -/
def MaySeg (w : World) (p : Value) (F : List Nat) (S : List Sp) : Prop := (p = .pointer none ∧ S = []) ∨ ∃ b E, p = .pointer (some ⟨b, 0, none⟩) ∧ IsSeg w b F E S

theorem MaySeg.upd {w w' : World} {p : Value} {F : List Nat} {S : List Sp} (h : MaySeg w p F S) {G : List Nat} (hu : Upd G w w') (hd : ∀ k ∈ F, k ∉ G) : MaySeg w' p F S := by
  rcases h with h | ⟨b, E, e, h⟩
  · exact .inl h
  · exact .inr ⟨b, E, e, h.upd hu hd⟩
theorem MaySeg.upd0 {w w' : World} {p : Value} {F : List Nat} {S : List Sp} (h : MaySeg w p F S) (hu : Upd [] w w') : MaySeg w' p F S := h.upd hu (by simp)

theorem mayLen {w : World} {p : Value} {F : List Nat} {S : List Sp} (h : MaySeg w p F S) :
    Calls Tryz.prog 12 #[p] w fun e w' => e = .returned (.int .i64 (S.length : Int)) ∧ w = w' := by
  rcases h with ⟨rfl, rfl⟩ | ⟨b, E, rfl, h⟩
  · exact segLenNil w
  · exact isLen h

theorem stabL_nil (x : Int) : stabL [] x = [] := by simp [stabL, sortN]

theorem mayStab {w : World} {p : Value} {F : List Nat} {S : List Sp} (h : MaySeg w p F S) (x : Int) :
    ∃ T, Calls Tryz.prog 13 #[p, .int .i64 x] w (StabPost w (stabL S x) T) := by
  rcases h with ⟨rfl, rfl⟩ | ⟨b, E, rfl, h⟩
  · exact ⟨0, by rw [stabL_nil]; exact segStabNil x w⟩
  · exact ⟨_, isStab h x⟩

/-- The error of Build, and what its tree has. -/
def errS (l : List Sp) : Int := if rightS l = true then 0 else 2
def keptS (l : List Sp) : List Sp := if rightS l = true then l else []

theorem keptS_le (l : List Sp) : (keptS l).length ≤ l.length := by unfold keptS; split <;> simp

/-- What Build leaves, right or not. -/
def MayPost (w : World) (l : List Sp) (e : Ending) (w' : World) : Prop := Upd [] w w' ∧ ∃ p F, e = .returned (.tuple #[p, .int .i64 (errS l)]) ∧ MaySeg w' p F (keptS l) ∧ ∀ k ∈ F, w.heap.size ≤ k

theorem mayBuild (v : Value) (l : List Sp) (w : World) (h : See KSp w v l) (hid : ∀ s ∈ l, s.id < 4294967296) (hl : l.length ≤ 1000) :
    Calls Tryz.prog 10 #[v] w (MayPost w l) := by
  refine (segBuild v l w h hid hl).mono ?_
  rintro e w' ⟨hu, (⟨hr, rfl⟩ | ⟨hr, b, F, rfl, hs, hF⟩)⟩
  · refine ⟨hu, .pointer none, [], ?_, .inl ⟨rfl, ?_⟩, by simp⟩
    · unfold errS; rw [hr]; rfl
    · unfold keptS; rw [hr]; rfl
  · refine ⟨hu, .pointer (some ⟨b, 0, none⟩), F, ?_, .inr ⟨b, endsS l, rfl, ?_⟩, hF⟩
    · unfold errS; rw [hr]; rfl
    · unfold keptS; rw [hr]; exact hs

theorem rightS_perm {l m : List Sp} (h : l.Perm m) : rightS l = rightS m := by
  rw [Bool.eq_iff_iff, rightS_iff, rightS_iff]
  constructor
  · rintro ⟨h1, h2⟩
    exact ⟨fun s hs => h1 s (h.mem_iff.2 hs), (h.map Sp.id).nodup_iff.1 h2⟩
  · rintro ⟨h1, h2⟩
    exact ⟨fun s hs => h1 s (h.mem_iff.1 hs), (h.map Sp.id).nodup_iff.2 h2⟩

theorem errS_perm {l m : List Sp} (h : l.Perm m) : errS l = errS m := by unfold errS; rw [rightS_perm h]
theorem keptS_perm {l m : List Sp} (h : l.Perm m) : (keptS l).Perm (keptS m) := by
  unfold keptS
  rw [rightS_perm h]
  split
  · exact h
  · exact List.Perm.refl _
theorem stabL_perm {l m : List Sp} (h : l.Perm m) (x : Int) : stabL l x = stabL m x := sortN_congr ((h.filter _).map Sp.id)

def IsSps (w : World) (v : Value) (l : List Sp) : Prop := See KSp w v l
def Sp.in64 (s : Sp) : Prop := (-9223372036854775808 ≤ s.lo ∧ s.lo ≤ 9223372036854775807) ∧ (-9223372036854775808 ≤ s.hi ∧ s.hi ≤ 9223372036854775807) ∧ s.id < 4294967296

theorem u32_natS {x : Int} (h : (Lit.int .u32 x).wf = true) : ∃ n : Nat, x = (n : Int) ∧ n < 4294967296 := by
  simp [Lit.wf, IntKind.min, IntKind.max, IntKind.signed, IntKind.bits] at h
  exact ⟨x.toNat, by omega, by omega⟩
theorem i64_inS {x : Int} (h : (Lit.int .i64 x).wf = true) : -9223372036854775808 ≤ x ∧ x ≤ 9223372036854775807 := by
  simp [Lit.wf, IntKind.min, IntKind.max, IntKind.signed, IntKind.bits] at h
  omega

theorem sps_of_rows {w : World} {v : Value} {rows : List (List Value)} (h : SeesRows w 3 v rows) (hr : ∀ r ∈ rows, ∃ b : Sp, r = KSp.enc b ∧ b.in64) :
    ∃ l : List Sp, l.length = rows.length ∧ IsSps w v l ∧ ∀ b ∈ l, b.in64 := by
  have : ∃ l : List Sp, rows = l.map KSp.enc ∧ ∀ b ∈ l, b.in64 := by
    clear h
    induction rows with
    | nil => exact ⟨[], rfl, by simp⟩
    | cons a rows ih =>
      obtain ⟨l, e, hl⟩ := ih fun r h => hr r (by simp [h])
      obtain ⟨b, e1, e2⟩ := hr a (by simp)
      refine ⟨b :: l, by rw [e, e1]; rfl, fun o ho => ?_⟩
      rcases List.mem_cons.1 ho with rfl | ho
      · exact e2
      · exact hl o ho
  obtain ⟨l, rfl, hl⟩ := this
  refine ⟨l, by simp, ?_, hl⟩
  have := h.2
  rw [List.length_map] at this
  unfold IsSps See Kind.all
  rw [List.flatMap]
  exact this

theorem see_nilS (w : World) : See KL w (.slice none 0 0) [] := ⟨rfl, .inl ⟨rfl, rfl⟩⟩

theorem longs_of_argS {w : World} {a : Option Addr} {len cap : Nat} {zs : List Int}
    (h : (a = none ∧ len = 0 ∧ cap = 0 ∧ zs = []) ∨ ∃ x, a = some x ∧ len ≤ cap ∧ cap ≤ maxLen ∧ zs.length = cap ∧ (∀ i, i < zs.length → w.cell? (x.add i) = some (.int .i64 (zs.getD i 0))) ∧ ∀ n ∈ zs, (Lit.int .i64 n).wf = true) :
    See KL w (.slice a len cap) (zs.take len) ∧ (zs.take len).length = len ∧ len ≤ 9223372036854775807 ∧ ∀ n ∈ zs.take len, -9223372036854775808 ≤ n ∧ n ≤ 9223372036854775807 := by
  rcases h with ⟨rfl, rfl, rfl, rfl⟩ | ⟨x, rfl, hl, hm, hz, hc, hw⟩
  · exact ⟨see_nilS _, rfl, by omega, by simp⟩
  · have hlen : (zs.take len).length = len := by rw [List.length_take]; omega
    have hsp : 0 < cap → x.spot = none := by
      intro h0
      have := hc 0 (by omega)
      unfold Addr.add at this
      rw [if_pos rfl] at this
      unfold World.cell? at this
      cases hs : x.spot with
      | none => rfl
      | some q => rw [hs] at this; simp at this; split at this <;> simp_all
    unfold See
    refine ⟨⟨?_, .inr ⟨x.block, x.off, x.spot, cap, ?_, hsp, ?_, hm, ?_⟩⟩, hlen, by unfold maxLen at hm; omega, ?_⟩
    · rw [KL_all, List.length_map]; exact (Nat.mul_one _).symm
    · rw [hlen]
    · rw [hlen]; exact hl
    · intro j u hu
      rw [KL_all, List.getElem?_map, List.getElem?_take] at hu
      split at hu
      · rename_i hj
        have hj' : j < zs.length := by omega
        have h1 := hc j hj'
        have h2 : x.add j = ⟨x.block, x.off + j, none⟩ := by
          have := hsp (by omega)
          obtain ⟨b, o, s⟩ := x
          simp only at this
          subst this
          exact addr_add _ _ _
        rw [h2] at h1
        rw [h1]
        simp only [List.getElem?_eq_getElem hj', Option.map_some, Option.some.injEq] at hu
        rw [← hu]
        simp [List.getD, List.getElem?_eq_getElem hj']
      · cases hu
    · intro n hn
      have := hw n (List.mem_of_mem_take hn)
      simpa [Lit.wf, IntKind.min, IntKind.max, IntKind.signed, IntKind.bits] using this
end Go.Proofs.YtclbdegkfjedjaaGreat

namespace Go.Proofs.YtclbdegkfjedjaaGreat
open Go.ChangeShapes Go.WideShapes Go.Deep Go.RowKit

theorem sps_opened {H : Type} {enc : TypeId × Value → H} {w : World} {base : Nat} {held : Bool} {fuel : Nat} {v : Value} {x : DataW H × List MemPlace}
    (h : DataW.trod enc Tryz.prog w base (fun _ => true) held fuel 22 [v] = some x) :
    ∃ l : List Sp, IsSps w v l ∧ (∀ b ∈ l, b.in64) ∧ l.length ≤ maxLen := by
  obtain ⟨rows, h1, h2, h3⟩ := structs_of_arg Tryz.underlying22 Tryz.underlying32 (by kernel_rfl) (by kernel_rfl) (by decide) (fun _ => rfl) h
  obtain ⟨l, e, h4, h5⟩ := sps_of_rows (rows := rows) h1 (fun r hr => by
    obtain ⟨i, hi⟩ := List.mem_iff_getElem?.1 hr
    obtain ⟨u0, y0, n0, g0, t0⟩ := h3 i r hi 0 _ rfl
    obtain ⟨u1, y1, n1, g1, t1⟩ := h3 i r hi 1 _ rfl
    obtain ⟨u2, y2, n2, g2, t2⟩ := h3 i r hi 2 _ rfl
    obtain ⟨a0, e0, _, w0⟩ := DataW.trod_int Tryz.underlying2 t0
    obtain ⟨a1, e1, _, w1⟩ := DataW.trod_int Tryz.underlying2 t1
    obtain ⟨a2, e2, _, w2⟩ := DataW.trod_int Tryz.underlying30 t2
    have hl : r.length = 3 := h1.1 r hr
    injection e0 with e0 _
    injection e1 with e1 _
    injection e2 with e2 _
    subst e0 e1 e2
    obtain ⟨n, rfl, hn⟩ := u32_natS w2
    refine ⟨⟨a0, a1, n⟩, ?_, i64_inS w0, i64_inS w1, hn⟩
    match r, hl with
    | [c0, c1, c2], _ =>
      simp at g0 g1 g2
      rw [g0, g1, g2]
      rfl)
  exact ⟨l, h4, h5, by rw [e]; exact h2⟩
end Go.Proofs.YtclbdegkfjedjaaGreat
