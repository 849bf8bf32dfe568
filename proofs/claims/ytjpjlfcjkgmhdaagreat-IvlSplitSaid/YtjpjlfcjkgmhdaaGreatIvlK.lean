/- An interval tree and what it tells: Len, Stab, Meet, Drop; a tree or none; Build, right or not. -/
import Derived.Test.YtjpjlfcjkgmhdaaGreatIvlM
import Derived.Test.YtjpjlfcjkgmhdaaGreatQuietU
import Derived.Test.YtjpjlfcjkgmhdaaGreatSpanO
namespace Go.Proofs.YtjpjlfcjkgmhdaaGreat
open Go.RowKit

theorem vStab {w : World} {b : Nat} {F : List Nat} {S : List Sp} {N : Nat} (h : IsIvl w b F S N) (x : Int) :
    Calls Tryz.prog 8 #[.pointer (some ⟨b, 0, none⟩), .int .i64 x] w (MeetPost w (stabL S x) (2 * bitsN (2 * N))) := by
  obtain ⟨p, vr, R, T, Fk, h1, -, h2, h3, h4, h5⟩ := h.at_
  have hr : ∀ s ∈ R, s.lo ≤ s.hi := fun s hs => h.right s (h2.mem_iff.1 hs)
  have hp := knStab_perm (x := x) h4 hr
  have hl := h2.length_eq
  have hm := h.many
  have hf := h.few
  have hpl : (T.stab x).length ≤ R.length := by rw [hp.length_eq]; exact List.length_filter_le _ _
  have ht := touch_many x T
  have hb := bitsN_le (2 * N) 11 (by omega)
  have e : sortN (idsK (T.stab x)) = stabL S x := by
    rw [← stabL_perm h2]
    exact sortN_congr (hp.map Sp.id)
  have el : (stabL S x).length = (T.stab x).length := by rw [← e, sortN_len, idsK_len]
  refine (ivlStab h1 x (ok_small h4 (by omega)) (by omega) (by omega)).mono ?_
  intro e' w' hw
  rw [e] at hw
  exact ⟨_, hw, by omega, by omega⟩

theorem vMeet {w : World} {b : Nat} {F : List Nat} {S : List Sp} {N : Nat} (h : IsIvl w b F S N) (lo hi : Int) :
    Calls Tryz.prog 7 #[.pointer (some ⟨b, 0, none⟩), .int .i64 lo, .int .i64 hi] w (MeetPost w (meetL S lo hi) (4 * bitsN (2 * N) + 2)) := by
  obtain ⟨p, vr, R, T, Fk, h1, -, h2, h3, h4, h5⟩ := h.at_
  have hr : ∀ s ∈ R, s.lo ≤ s.hi := fun s hs => h.right s (h2.mem_iff.1 hs)
  have hp := knStab_perm (x := lo) h4 hr
  have hl := h2.length_eq
  have hm := h.many
  have hf := h.few
  have hpl : (T.stab lo).length ≤ R.length := by rw [hp.length_eq]; exact List.length_filter_le _ _
  have hb := bitsN_le (2 * N) 11 (by omega)
  have hb2 : bitsN R.length ≤ bitsN (2 * N) := bitsN_mono (by omega)
  by_cases hlh : hi < lo
  · have e : meetL S lo hi = [] := by unfold meetL; rw [if_pos hlh]
    rw [e]
    refine (ivlMeetOut h1 lo hi hlh).mono ?_
    intro e' w' hw
    exact ⟨0, hw, by simp, by simp⟩
  · have e : sortN (idsK (T.stab lo ++ partM R lo hi)) = meetL S lo hi := by
      rw [← meetL_perm h2]
      unfold meetL
      rw [if_neg hlh]
      exact sortN_congr ((meet_perm h4 hr h3 (by omega)).map Sp.id)
    refine (ivlMeetIn h1 lo hi (by omega) h3 (by omega) (ok_small h4 (by omega)) (by omega) (by omega)).mono ?_
    rintro e' w' ⟨t, g1, g2, g3⟩
    rw [e] at g1 g2 g3
    exact ⟨t, g1, g2, by omega⟩

/-- A tree that has these spans, or none, which has none. -/
def MayV (w : World) (p : Value) (F : List Nat) (S : List Sp) (N : Nat) : Prop := (p = .pointer none ∧ S = []) ∨ ∃ b, p = .pointer (some ⟨b, 0, none⟩) ∧ IsIvl w b F S N

theorem MayV.upd {w w' : World} {p : Value} {F : List Nat} {S : List Sp} {N : Nat} (h : MayV w p F S N) {G : List Nat} (hu : Upd G w w') (hd : ∀ k ∈ F, k ∉ G) : MayV w' p F S N := by
  rcases h with h | ⟨b, e, h⟩
  · exact .inl h
  · exact .inr ⟨b, e, h.upd hu hd⟩
theorem MayV.upd0 {w w' : World} {p : Value} {F : List Nat} {S : List Sp} {N : Nat} (h : MayV w p F S N) (hu : Upd [] w w') : MayV w' p F S N := h.upd hu (by simp)

theorem mayVStab {w : World} {p : Value} {F : List Nat} {S : List Sp} {N : Nat} (h : MayV w p F S N) (x : Int) :
    Calls Tryz.prog 8 #[p, .int .i64 x] w (MeetPost w (stabL S x) (2 * bitsN (2 * N))) := by
  rcases h with ⟨rfl, rfl⟩ | ⟨b, rfl, h⟩
  · rw [stabL_nil]
    exact (ivlStabNil x w).mono fun e w' hw => ⟨0, hw, by simp, by simp⟩
  · exact vStab h x

theorem meetL_nil (lo hi : Int) : meetL [] lo hi = [] := by unfold meetL; split <;> simp [sortN]

theorem mayVMeet {w : World} {p : Value} {F : List Nat} {S : List Sp} {N : Nat} (h : MayV w p F S N) (lo hi : Int) :
    Calls Tryz.prog 7 #[p, .int .i64 lo, .int .i64 hi] w (MeetPost w (meetL S lo hi) (4 * bitsN (2 * N) + 2)) := by
  rcases h with ⟨rfl, rfl⟩ | ⟨b, rfl, h⟩
  · rw [meetL_nil]
    exact (ivlMeetNil lo hi w).mono fun e w' hw => ⟨0, hw, by simp, by simp⟩
  · exact vMeet h lo hi

/-- What Build leaves, right or not. -/
def MayVPost (w : World) (l : List Sp) (e : Ending) (w' : World) : Prop := Upd [] w w' ∧ ∃ p F, e = .returned (.tuple #[p, .int .i64 (errS l)]) ∧ MayV w' p F (keptS l) l.length ∧ (p = .pointer none ↔ rightS l = false) ∧ ∀ k ∈ F, w.heap.size ≤ k

set_option maxRecDepth 100000 in
set_option maxHeartbeats 1000000 in
theorem ivlBuildNo (v : Value) (l : List Sp) (w : World) (h : See KSp w v l) (hid : ∀ s ∈ l, s.id < 4294967296) (hl : l.length ≤ 1000) (hr : rightS l = false) :
    Calls Tryz.prog 5 #[v] w fun e w' => Upd [] w w' ∧ e = .returned (.tuple #[.pointer none, .int .i64 2]) := by
  obtain ⟨A, C, rfl⟩ := h.form
  have hri := ivlRight _ l w h hid (by omega)
  rw [hr] at hri
  have HR := Lib.hid hri
  have b0 : (0 : Int) ≤ (l.length : Int) := Int.natCast_nonneg _
  have b1 : (l.length : Int) ≤ 1000 := by omega
  clear hri h hid hr
  go_enter Tryz.func5, Tryz.ntmps5
  go_wp2_with fail
  (with_reducible refine HR.out.mono ?_)
  rintro e w1 ⟨rfl, u1⟩
  have HU := Lib.hid u1
  clear u1
  go_wp2_with fail
  go_ret2
  exact ⟨HU.out, rfl⟩

theorem mayVBuild (v : Value) (l : List Sp) (w : World) (h : See KSp w v l) (hid : ∀ s ∈ l, s.id < 4294967296) (hl : l.length ≤ 1000) :
    Calls Tryz.prog 5 #[v] w (MayVPost w l) := by
  by_cases hr : rightS l = true
  · refine (ivlBuildOk v l w h hid hl hr).mono ?_
    rintro e w' ⟨hu, b, F, rfl, hs, hF⟩
    refine ⟨hu, .pointer (some ⟨b, 0, none⟩), F, ?_, .inr ⟨b, rfl, ?_⟩, by simp [hr], hF⟩
    · unfold errS; rw [hr]; rfl
    · unfold keptS; rw [hr]; exact hs
  · have hr' : rightS l = false := by simpa using hr
    refine (ivlBuildNo v l w h hid hl hr').mono ?_
    rintro e w' ⟨hu, rfl⟩
    refine ⟨hu, .pointer none, [], ?_, .inl ⟨rfl, ?_⟩, by simp [hr'], by simp⟩
    · unfold errS; rw [hr']; rfl
    · unfold keptS; rw [hr']; rfl


/-- Build, right or not, in one. -/
theorem ivlBuild (v : Value) (l : List Sp) (w : World) (h : See KSp w v l) (hid : ∀ s ∈ l, s.id < 4294967296) (hl : l.length ≤ 1000) :
    Calls Tryz.prog 5 #[v] w fun e w' => Upd [] w w' ∧ ((rightS l = false ∧ e = .returned (.tuple #[.pointer none, .int .i64 2])) ∨ (rightS l = true ∧ ∃ b F, e = .returned (.tuple #[.pointer (some ⟨b, 0, none⟩), .int .i64 0]) ∧ IsIvl w' b F l l.length ∧ ∀ k ∈ F, w.heap.size ≤ k)) := by
  by_cases hr : rightS l = true
  · refine (ivlBuildOk v l w h hid hl hr).mono ?_
    rintro e w' ⟨hu, b, F, rfl, hs, hF⟩
    exact ⟨hu, .inr ⟨hr, b, F, rfl, hs, hF⟩⟩
  · have hr' : rightS l = false := by simpa using hr
    exact (ivlBuildNo v l w h hid hl hr').mono fun e w' hw => ⟨hw.1, .inl ⟨hr', hw.2⟩⟩
end Go.Proofs.YtjpjlfcjkgmhdaaGreat
