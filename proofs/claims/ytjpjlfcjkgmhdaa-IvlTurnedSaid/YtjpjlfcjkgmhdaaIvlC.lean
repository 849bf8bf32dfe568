/- slices.Clone, Index and IndexFunc at spans. -/
import Derived.Test.YtjpjlfcjkgmhdaaDelS
import Derived.BigQuiet
import Derived.WalkMore
namespace Go.Proofs.Ytjpjlfcjkgmhdaa
open Go.RowKit

def CloneSPost (w : World) (l : List Sp) (e : Ending) (w' : World) : Prop :=
  Upd [] w w' ∧ ∃ A C, e = .returned (.slice A l.length C) ∧ KSp.row w' w.heap.size (.slice A l.length C) l

set_option maxRecDepth 100000 in
set_option maxHeartbeats 1000000 in
theorem cloneSp (v : Value) (l : List Sp) (w : World) (hs : See KSp w v l) (hb : l.length < 1000000) :
    Calls Try.prog 22 #[v] w (CloneSPost w l) := by
  obtain ⟨i0, hi, hz0, hz1, hz2⟩ := info_parts infoSpanD
  obtain ⟨n, hn⟩ : ∃ n, l.length = n := ⟨_, rfl⟩
  have hx1 : ∀ u ∈ KSp.all l, u.oneCell' = true := KSp.all_one l
  have hs' : Sees w 3 v n (KSp.all l) := by rw [← hn]; exact hs
  have HS := Lib.hid hs'
  have HX := Lib.hid hx1
  have HN := Lib.hid hn
  rw [hn] at hb
  have HB := Lib.hid hb
  clear hx1 hn hb hs
  unfold CloneSPost
  rcases hs'.2 with ⟨rfl, rfl⟩ | ⟨b, o, sp, cap, rfl, _⟩
  · clear hs'
    have he := fun w => Lib.run_eql_slice_nil (P := Try.prog) (w := w) 22 42 none 0 0 0 0 Try.underlying22
    go_enter Try.func22, Try.ntmps22
    go_wp2
    go_ret
    have hx : l = [] := List.eq_nil_of_length_eq_zero HN.out
    subst hx
    exact ⟨Upd.refl _ _, none, 0, rfl, World.ownsRow_nil _ _ _ _⟩
  · clear hs'
    have he := fun w => Lib.run_eql_slice_nil (P := Try.prog) (w := w) 22 42 (some ⟨b, o, sp⟩) n cap 0 0 Try.underlying22
    go_enter Try.func22, Try.ntmps22
    go_wp2_with (at_builtin; refine wpList_app _ rfl _ _ 22 rfl w.heap.size 42 i0 _ 3 24 Try.underlying22 hi hz0 hz1 hz2 rfl (by decide) _ 0 [] rfl (World.ownsRow_made w #[] 0 (Nat.le_refl _) (by decide) rfl) _ n (KSp.all l) rfl (sees_upd HS.out ((Upd.refl [] w).alloc _) (by simp)) HX.out (by have := HB.out; unfold maxLen; omega) (by have := HB.out; omega) (by simp) ?_)
    intro A C w1 HP
    have HU := HP.upd
    have hb1 : Upd [] w w1 := (((Upd.refl [] w).alloc _).trans' HU (fun k hk => by simp [blk] at hk; omega))
    have hown : w1.ownsRow w.heap.size 42 3 (.slice A n C) n (KSp.all l) := by simpa using HP.own
    clear he
    go_wp2
    go_ret
    refine ⟨hb1, A, C, by rw [HN.out]; rfl, ?_⟩
    unfold Kind.row
    rw [HN.out]
    exact hown

/-- Where a span stands, or -1. -/
def IndexSPost (w : World) (l : List Sp) (x : Sp) (e : Ending) (w' : World) : Prop :=
  Upd [] w w' ∧ ((x ∉ l ∧ e = .returned (.int .i64 (-1))) ∨ ∃ k : Nat, l[k]? = some x ∧ e = .returned (.int .i64 (k : Int)))

set_option maxRecDepth 100000 in
set_option maxHeartbeats 4000000 in
theorem indexS (v : Value) (l : List Sp) (x : Sp) (w : World) (hs : See KSp w v l) (hb : l.length < 1000000) :
    Calls Try.prog 32 #[v, spV x] w (IndexSPost w l x) := by
  obtain ⟨A, C, rfl⟩ := hs.form
  obtain ⟨N, hN⟩ : ∃ N, l.length = N := ⟨_, rfl⟩
  rw [hN] at hs hb ⊢
  have H := Lib.hid hs
  have HN := Lib.hid hN
  clear hs hN
  obtain ⟨lo, hi, id⟩ := x
  have HW0 := Lib.hid ((Upd.refl [] w).alloc (.cells #[.int .i64 lo, .int .i64 hi, .int .u32 (id : Int)] 42))
  have hz0 : w.heap.size < (w.alloc (.cells #[.int .i64 lo, .int .i64 hi, .int .u32 (id : Int)] 42)).heap.size := by simp
  have d0 : (w.alloc (.cells #[.int .i64 lo, .int .i64 hi, .int .u32 (id : Int)] 42)).cell? ⟨w.heap.size, 0, none⟩ = some (.int .i64 lo) := by rw [World.cell?_alloc_at _ _ _ _ rfl]; rfl
  have d1 : (w.alloc (.cells #[.int .i64 lo, .int .i64 hi, .int .u32 (id : Int)] 42)).cell? ⟨w.heap.size, 1, none⟩ = some (.int .i64 hi) := by rw [World.cell?_alloc_at _ _ _ _ rfl]; rfl
  have d2 : (w.alloc (.cells #[.int .i64 lo, .int .i64 hi, .int .u32 (id : Int)] 42)).cell? ⟨w.heap.size, 2, none⟩ = some (.int .u32 (id : Int)) := by rw [World.cell?_alloc_at _ _ _ _ rfl]; rfl
  unfold spV
  dsimp only
  go_enter Try.func32, Try.ntmps32
  go_upto_region 1 with fail
  generalize (w.alloc (.cells #[.int .i64 lo, .int .i64 hi, .int .u32 (id : Int)] 42)) = W0 at HW0 hz0 d0 d1 d2 ⊢
  go_wp2_with fail
  go_loopg [8] N (fun m s8 wr => ∃ k : Nat, m + k = N ∧ s8 = .int .i64 (k : Int) ∧ (⟨lo, hi, id⟩ : Sp) ∉ l.take k ∧ Upd [] W0 wr)
  case atStart => exact ⟨0, rfl, rfl, by simp, Upd.refl _ _⟩
  case round =>
    obtain ⟨k, hk, rfl, hno, hup⟩ := hrel
    have k0 : (0 : Int) ≤ (k : Int) := Int.natCast_nonneg _
    have hkN : k ≤ N := by omega
    have hw1 : Upd [] w wr := HW0.out.trans hup
    have e0 := (hup.cell (p := ⟨w.heap.size, 0, none⟩) hz0 (by simp)).trans d0
    have e1 := (hup.cell (p := ⟨w.heap.size, 1, none⟩) hz0 (by simp)).trans d1
    have e2 := (hup.cell (p := ⟨w.heap.size, 2, none⟩) hz0 (by simp)).trans d2
    have HK := Lib.hid (And.intro hk (And.intro hno (And.intro hup hw1)))
    clear hk hno hup
    by_cases hlt : k < N
    · obtain ⟨s, hs⟩ : ∃ s, l[k]? = some s := ⟨_, List.getElem?_eq_getElem (by rw [HN.out]; exact hlt)⟩
      have hse : See KSp wr (.slice A N C) l := H.out.upd0 hw1
      have HS := Lib.hid hs
      obtain ⟨lo2, hi2, id2⟩ := s
      obtain ⟨g, o, rfl, -, -, ey⟩ := hse.at hs
      have y0 : wr.cell? ⟨g, o + k * 3, none⟩ = some (.int .i64 lo2) := ey 0 _ rfl
      have y1 : wr.cell? ⟨g, o + k * 3 + 1, none⟩ = some (.int .i64 hi2) := ey 1 _ rfl
      have y2 : wr.cell? ⟨g, o + k * 3 + 2, none⟩ = some (.int .u32 (id2 : Int)) := ey 2 _ rfl
      have b1 : (k : Int) < (N : Int) := by omega
      have heq := fun w => eqSp ⟨lo, hi, id⟩ ⟨lo2, hi2, id2⟩ w
      clear hs hse ey hw1 d0 d1 d2
      by_cases hxy : (⟨lo, hi, id⟩ : Sp) = ⟨lo2, hi2, id2⟩
      · rw [decide_eq_true hxy] at heq
        unfold spV at heq
        dsimp only at heq
        have HE := Lib.hid hxy
        clear hxy
        go_wp2_with fail
        go_quiet (fail)
        go_wp2_with fail
        go_ret
        exact ⟨HK.out.2.2.2.drewN _, .inr ⟨k, by rw [HS.out, HE.out], rfl⟩⟩
      · rw [decide_eq_false hxy] at heq
        unfold spV at heq
        dsimp only at heq
        have HE := Lib.hid hxy
        clear hxy
        go_wp2_with fail
        go_quiet (fail)
        go_wp2_with fail
        go_roundg (N - (k + 1))
        case measure => have := HK.out.1; omega
        case rel =>
          refine ⟨k + 1, by have := HK.out.1; omega, by go_num, ?_, HK.out.2.2.1.drewN _⟩
          obtain ⟨h1, h2⟩ := List.getElem?_eq_some_iff.1 HS.out
          rw [List.take_succ_eq_append_getElem h1, h2, List.mem_append]
          rintro (hc | hc)
          · exact HK.out.2.1 hc
          · exact HE.out (by simpa using hc)
    · have hkn : k = N := by omega
      have hno := HK.out.2.1
      rw [hkn, ← HN.out, List.take_length] at hno
      have HNO := Lib.hid hno
      clear hno hkn
      go_wp2_with fail
      go_ret
      exact ⟨HK.out.2.2.2, .inl ⟨HNO.out, rfl⟩⟩
end Go.Proofs.Ytjpjlfcjkgmhdaa
