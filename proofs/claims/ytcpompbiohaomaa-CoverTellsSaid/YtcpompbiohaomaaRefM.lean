/- The document's Rises; a list of numbers is copied. -/
import Derived.Test.YtcpompbiohaomaaRefL
namespace Go.Proofs.Ytcpompbiohaomaa
open Go.RowKit

theorem info_int64D : (Try.prog.info? 2).map (fun i => (i.zero, i.size, i.bytes)) = some (some (.int .i64 0), 1, 8) := by kernel_rfl

set_option maxRecDepth 100000 in
set_option maxHeartbeats 2000000 in
theorem copyLongs (s : Value) (n : Nat) (xs : List Value) (w : World) (hs : Sees w 1 s n xs) (h1 : ∀ u ∈ xs, u.oneCell' = true) (hb : n < 1000000) :
    Calls Try.prog 6 #[s] w fun e w' => ∃ A C, e = .returned (.slice A n C) ∧ w'.ownsRow w.heap.size 2 1 (.slice A n C) n xs ∧ Upd [] w w' := by
  obtain ⟨i0, hi, hz0, hz1, hz2⟩ := info_parts info_int64D
  have HS := Lib.hid hs
  have H1 := Lib.hid h1
  have HB := Lib.hid hb
  clear hs h1 hb
  go_enter Try.func6, Try.ntmps6
  go_wp2_with (at_builtin; refine wpList_app _ rfl _ _ 22 rfl w.heap.size 2 i0 (.int .i64 0) 1 8 Try.underlying22 hi hz0 hz1 hz2 rfl (by decide) _ 0 [] rfl (World.ownsRow_made w #[] 0 (Nat.le_refl _) (by decide) rfl) _ n xs rfl (sees_upd HS.out ((Upd.refl [] w).alloc _) (by simp)) H1.out (by have := HB.out; unfold maxLen; omega) (by have := HB.out; omega) (by simp) ?_)
  intro A C w1 HP
  have HU := HP.upd
  have hb1 : Upd [] w w1 := ((Upd.refl [] w).alloc _).trans' HU (fun k hk => .inr (by simp [blk] at hk; omega))
  have hown : w1.ownsRow w.heap.size 2 1 (.slice A n C) n xs := by simpa using HP.own
  have HO := Lib.hid (And.intro hown hb1)
  clear HP HU hb1 hown
  go_wp2_with fail
  go_ret
  exact ⟨_, _, rfl, HO.out.1, HO.out.2⟩

set_option maxRecDepth 100000 in
set_option maxHeartbeats 2000000 in
theorem risesC (v : Value) (M : List Int) (w : World) (hs : See KL w v M) (hl : M.length < 100000) :
    Calls Try.prog 8 #[v] w fun e w' => e = .returned (.bool (decide (M.Pairwise (· < ·)))) ∧ Upd [] w w' := by
  obtain ⟨A, C, rfl⟩ := hs.form
  obtain ⟨n, hn⟩ : ∃ n, M.length = n := ⟨_, rfl⟩
  rw [hn] at hs hl ⊢
  have HS := Lib.hid hs
  have HN := Lib.hid hn
  have n1 : (n : Int) < 100000 := by omega
  obtain ⟨D, hD⟩ : ∃ D, decide (M.Pairwise (· < ·)) = D := ⟨_, rfl⟩
  rw [hD]
  have HD := Lib.hid hD
  clear hs hn hl hD
  go_enter Try.func8, Try.ntmps8
  go_wp2_with fail
  go_loopg [3] n (fun m s3 wr => ∃ i, m + i = n ∧ s3 = .int .i64 ((i + 1 : Nat) : Int) ∧ (∀ j, j < i → j + 1 < M.length → mf M j < mf M (j + 1)) ∧ ∃ q, wr = w.drewN q)
  case atStart => exact ⟨0, rfl, rfl, fun j h => by omega, 0, rfl⟩
  case round =>
    obtain ⟨j, hj, rfl, hr, q, rfl⟩ := hrel
    have HJ := Lib.hid (And.intro hj hr)
    have j0 : (0 : Int) ≤ (j : Int) := Int.natCast_nonneg _
    clear hr
    by_cases hlt : j + 1 < n
    · obtain ⟨x, hx⟩ : ∃ x, mf M (j + 1) = x := ⟨_, rfl⟩
      obtain ⟨y, hy⟩ : ∃ x, mf M j = x := ⟨_, rfl⟩
      have m1 := mf_get (M := M) (i := j + 1) (by rw [HN.out]; omega)
      have m0 := mf_get (M := M) (i := j) (by rw [HN.out]; omega)
      rw [hx] at m1
      rw [hy] at m0
      obtain ⟨g, o, hA, -, -, c1⟩ := KL.at HS.out m1
      obtain ⟨g', o', hA', -, -, c0⟩ := KL.at HS.out m0
      subst hA
      cases hA'
      have HX := Lib.hid (And.intro hx (And.intro hy hlt))
      have j1 : j < n := by omega
      have j2 : (j : Int) + 1 < (n : Int) := by omega
      have y2 : IntKind.i64.wrap (((j + 1 : Nat) : Int) - 1) = (j : Int) := by rw [IntWalk.i64_in _ (by omega)]; omega
      clear hx hy m1 m0 hj
      by_cases hxy : x ≤ y
      · have d : decide (x ≤ y) = true := decide_eq_true hxy
        have hno : D = false := by
          rw [← HD.out, decide_eq_false_iff_not]
          intro hp
          have := rise_step hp (i := j) (by rw [HN.out]; exact HX.out.2.2)
          rw [HX.out.1, HX.out.2.1] at this
          omega
        have HNO := Lib.hid hno
        clear hno hxy
        go_upto_region 4 with fail
        go_quiet (fail)
        go_wp2_with fail
        go_ret
        exact ⟨by rw [HNO.out]; rfl, ((Upd.refl _ _).drewN _).drewN _⟩
      · have d : decide (x ≤ y) = false := decide_eq_false hxy
        have HXY := Lib.hid hxy
        clear hxy
        go_upto_region 4 with fail
        go_quiet (fail)
        go_wp2_with fail
        go_roundg (n - (j + 1))
        case measure => have := HJ.out.1; have := HX.out.2.2; omega
        case rel =>
          refine ⟨j + 1, by have := HJ.out.1; have := HX.out.2.2; omega, by go_num, fun k hk hk' => ?_, _, rfl⟩
          rcases Nat.lt_or_ge k j with h | h
          · exact HJ.out.2 k h hk'
          · have : k = j := by omega
            rw [this, HX.out.1, HX.out.2.1]
            have := HXY.out
            omega
    · have hyes : D = true := by
        rw [← HD.out, decide_eq_true_iff]
        exact rise_of fun i hi => HJ.out.2 i (by rw [HN.out] at hi; omega) hi
      have HY := Lib.hid hyes
      obtain ⟨p, hp⟩ : ∃ p, j + 1 = p := ⟨_, rfl⟩
      rw [hp] at hlt ⊢
      have p0 : (0 : Int) ≤ (p : Int) := Int.natCast_nonneg _
      clear hyes hj hp
      go_wp2_with fail
      go_ret
      exact ⟨by rw [HY.out]; rfl, (Upd.refl _ _).drewN _⟩
end Go.Proofs.Ytcpompbiohaomaa
