/- cover.Add, cover.Drop. -/
import Derived.Test.YthkiljfjjnckaaaCov
import Derived.WalkSpells
namespace Go.Proofs.Ythkiljfjjnckaaa
open Go.RowKit

theorem IsCov.cell5 {w : World} {b : Nat} {F : List Nat} {M : List Int} {H : List (Nat × Nat)} {N : Nat} (h : IsCov w b F M H N) : ∃ hb, w.cell? ⟨b, 5, none⟩ = some (.map (some hb)) ∧ HeldAt w hb N (fun s => (H.count s : Int)) := by
  obtain ⟨mv, nv, ov, pv, hb, en, rfl, h1, h2⟩ := h
  exact ⟨hb, h1.cells.2.2.2.2.2.1, h2⟩

set_option maxRecDepth 100000 in
set_option maxHeartbeats 400000 in
theorem covNone (b : Nat) (F : List Nat) (M : List Int) (H : List (Nat × Nat)) (N : Nat) (w : World) (h : IsCov w b F M H N) :
    Calls Try.prog 55 #[.pointer (some ⟨b, 0, none⟩)] w fun e w' => e = .returned (.bool false) ∧ w = w' := by
  obtain ⟨hb, c5, -⟩ := h.cell5
  have hmn : ∀ (w : World), (binOp .eql 50 (.map (some hb)) (.map none)).run Try.prog w = .ok (.bool false) w := fun w => run_eql_map_nil (P := Try.prog) w 50 96 3 (some hb) Try.underlying50
  clear h
  go_enter Try.func55, Try.ntmps55
  go_wp2_with fail
  go_ret
  exact ⟨rfl, rfl⟩

/-- The span's places. -/
def spanP (M : List Int) (lo hi : Int) : Nat × Nat := (below M lo, below M hi)

theorem spanOk_in {M : List Int} {lo hi : Int} (hM : MarksOk M) (h : spanOk M lo hi = true) : (spanP M lo hi).1 ≤ (spanP M lo hi).2 ∧ (spanP M lo hi).2 < M.length := by
  unfold spanOk at h
  simp only [Bool.and_eq_true, decide_eq_true_eq] at h
  have := (List.getElem?_eq_some_iff.1 ((mem_below hM.rise hi).1 h.1.2)).1
  exact ⟨h.2, this⟩

/-- What is held behind an Add; behind a Drop. -/
def addH (M : List Int) (H : List (Nat × Nat)) (lo hi : Int) : List (Nat × Nat) := if spanOk M lo hi = true then spanP M lo hi :: H else H
def addK (M : List Int) (lo hi : Int) : Nat := if spanOk M lo hi = true then entN (spanP M lo hi) (M.length - 1) else 0
def addX (M : List Int) (lo hi : Int) : Int := if spanOk M lo hi = true then 0 else 2
def dropH (M : List Int) (H : List (Nat × Nat)) (lo hi : Int) : List (Nat × Nat) := if spanOk M lo hi = true then H.erase (spanP M lo hi) else H
def dropK (M : List Int) (H : List (Nat × Nat)) (lo hi : Int) : Nat := if spanOk M lo hi = true then (if spanP M lo hi ∈ H then entN (spanP M lo hi) (M.length - 1) else 0) else 0
def dropX (M : List Int) (H : List (Nat × Nat)) (lo hi : Int) : Int := if spanOk M lo hi = true then (if spanP M lo hi ∈ H then 0 else 160) else 2

/-- What Add, or Drop, leaves. -/
def AdPost (w : World) (b : Nat) (F : List Nat) (M : List Int) (H : List (Nat × Nat)) (N k : Nat) (x : Int) (e : Ending) (w' : World) : Prop :=
  e = .returned (.tuple #[.int .i64 (k : Int), .int .i64 x]) ∧ (∃ N', N' ≤ N + 1 ∧ IsCov w' b F M H N') ∧ Upd F w w'

theorem add_hok {M : List Int} {H : List (Nat × Nat)} {lo hi : Int} (hM : MarksOk M) (h : HOkC M H) : HOkC M (addH M H lo hi) := by
  unfold addH
  split
  · rename_i hs
    intro s hs'
    rcases List.mem_cons.1 hs' with rfl | hs'
    · exact spanOk_in hM hs
    · exact h s hs'
  · exact h

theorem drop_hok {M : List Int} {H : List (Nat × Nat)} {lo hi : Int} (h : HOkC M H) : HOkC M (dropH M H lo hi) := by
  unfold dropH
  split
  · exact fun s hs => h s (List.mem_of_mem_erase hs)
  · exact h

set_option maxRecDepth 100000 in
set_option maxHeartbeats 2000000 in
theorem addC (b : Nat) (F : List Nat) (M : List Int) (H : List (Nat × Nat)) (N : Nat) (w : World) (lo hi : Int) (h : IsCov w b F M H N) (hM : MarksOk M) (hN : N < 1000000) (hH : H.length ≤ 1000000) :
    Calls Try.prog 21 #[.pointer (some ⟨b, 0, none⟩), .int .i64 lo, .int .i64 hi] w (AdPost w b F M (addH M H lo hi) N (addK M lo hi) (addX M lo hi)) := by
  have hnn := covNone b F M H N w h
  have hsp : Calls Try.prog 56 #[.pointer (some ⟨b, 0, none⟩), .int .i64 lo, .int .i64 hi] w (SpanPost M lo hi w) := by
    obtain ⟨mv, nv, ov, pv, hb, en, rfl, h1, h2⟩ := h
    exact spanC b mv nv ov pv hb M _ _ _ _ en w lo hi h1 hM
  have HN := Lib.hid hnn
  unfold SpanPost at hsp
  by_cases hok : spanOk M lo hi = true
  · have hin := spanOk_in hM hok
    have hmv := fun w1 (hu : Upd [] w w1) => moveC b F M H (spanP M lo hi :: H) N w1 (spanP M lo hi) 1 (h.upd0 hu) hM hN hH hin (fun f t pf pt => by rw [cntH_cons]; omega) (fun u => by
      rw [List.count_cons]
      by_cases hu : u = spanP M lo hi
      · rw [if_pos hu, hu]; simp
      · rw [if_neg hu, if_neg (by simpa using Ne.symm hu)]; simp) (by omega) (by omega)
    have e1 : addH M H lo hi = spanP M lo hi :: H := by unfold addH; rw [if_pos hok]
    have e2 : addK M lo hi = entN (spanP M lo hi) (M.length - 1) := by unfold addK; rw [if_pos hok]
    have e3 : addX M lo hi = 0 := by unfold addX; rw [if_pos hok]
    rw [e1, e2, e3]
    rw [hok] at hsp
    unfold spanP at hmv ⊢
    obtain ⟨p, hp⟩ : ∃ p, below M lo = p := ⟨_, rfl⟩
    obtain ⟨q, hq⟩ : ∃ q, below M hi = q := ⟨_, rfl⟩
    rw [hp, hq] at hsp hmv ⊢
    dsimp only at hmv
    obtain ⟨K, hK⟩ : ∃ K, entN (p, q) (M.length - 1) = K := ⟨_, rfl⟩
    rw [hK] at hmv ⊢
    have HS := Lib.hid hsp
    have HM := Lib.hid hmv
    clear hnn hsp hmv hok hin e1 e2 e3 hp hq hK h hM
    go_enter Try.func21, Try.ntmps21
    go_wp2_with fail
    (with_reducible refine HN.out.mono ?_)
    rintro e w' ⟨rfl, rfl⟩
    go_wp2_with fail
    (with_reducible refine HS.out.mono ?_)
    rintro e w1 ⟨rfl, hu1⟩
    have hu2 : Upd [] w (w1.alloc (.cells #[.int .i64 (p : Int), .int .i64 (q : Int)] 96)) := hu1.alloc _
    have HM2 := Lib.hid (HM.out _ hu2)
    have HU2 := Lib.hid hu2
    clear hu1 hu2
    go_wp2_with fail
    (with_reducible refine HM2.out.mono ?_)
    rintro e w2 ⟨rfl, g1, g2⟩
    have HG := Lib.hid (And.intro g1 g2)
    clear g1 g2
    go_wp2_with fail
    go_ret2
    exact ⟨rfl, ⟨N + 1, Nat.le_refl _, HG.out.1⟩, (HU2.out.mono (by simp)).trans HG.out.2⟩
  · have e1 : addH M H lo hi = H := by unfold addH; rw [if_neg hok]
    have e2 : addK M lo hi = 0 := by unfold addK; rw [if_neg hok]
    have e3 : addX M lo hi = 2 := by unfold addX; rw [if_neg hok]
    have hokf : spanOk M lo hi = false := by simpa using hok
    rw [e1, e2, e3]
    rw [hokf] at hsp
    obtain ⟨p, hp⟩ : ∃ p, below M lo = p := ⟨_, rfl⟩
    obtain ⟨q, hq⟩ : ∃ q, below M hi = q := ⟨_, rfl⟩
    rw [hp, hq] at hsp
    have HS := Lib.hid hsp
    have HH := Lib.hid h
    clear hnn hsp hok hokf e1 e2 e3 hp hq h hM
    go_enter Try.func21, Try.ntmps21
    go_wp2_with fail
    (with_reducible refine HN.out.mono ?_)
    rintro e w' ⟨rfl, rfl⟩
    go_wp2_with fail
    (with_reducible refine HS.out.mono ?_)
    rintro e w1 ⟨rfl, hu1⟩
    have HU1 := Lib.hid hu1
    clear hu1
    go_wp2_with fail
    go_ret2
    exact ⟨rfl, ⟨N, Nat.le_succ N, HH.out.upd0 (HU1.out.alloc _)⟩, (HU1.out.alloc _).mono (by simp)⟩
end Go.Proofs.Ythkiljfjjnckaaa
