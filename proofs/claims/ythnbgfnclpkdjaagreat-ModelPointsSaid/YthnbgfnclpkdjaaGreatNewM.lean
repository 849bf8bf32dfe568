/- model.New, none, Points, Spans, Boxes. Printed by mknewm.py. -/
import Derived.Test.YthnbgfnclpkdjaaGreatAllM
namespace Go.Proofs.YthnbgfnclpkdjaaGreat
open Go.RowKit

/-- What New leaves. -/
def NewPost (room : Int) (w : World) (e : Ending) (w' : World) : Prop :=
  Upd [] w w' ∧ if 1 ≤ room ∧ room ≤ 2147483648 then ∃ h p s x, e = .returned (.tuple #[.pointer (some ⟨h, 0, none⟩), .int .i64 0]) ∧ MdAt w' h p s x ⟨room.toNat, [], [], []⟩ ∧ w.heap.size ≤ h ∧ w.heap.size ≤ p ∧ w.heap.size ≤ s ∧ w.heap.size ≤ x else e = .returned (.tuple #[.pointer none, .int .i64 2])

theorem ok_nil (room : Nat) : Md.ok ⟨room, [], [], []⟩ := ⟨Asc.nil, Asc.nil, Asc.nil, by simp, by simp, by simp⟩

set_option maxRecDepth 100000 in
set_option maxHeartbeats 1000000 in
theorem newMC (room : Int) (w : World) : Calls Tryz.prog 21 #[.int .i64 room] w (NewPost room w) := by
  have hmm := @run_makeMap Tryz.prog
  by_cases h1 : room < 1
  · have d1 : decide (room < 1) = true := decide_eq_true h1
    have HN := Lib.hid (show ¬ (1 ≤ room ∧ room ≤ 2147483648) by omega)
    clear h1
    go_enter Tryz.func21, Tryz.ntmps21
    go_wp2_with fail
    refine bodyPost_ret (v := .tuple #[.pointer none, .int .i64 2]) (by simp [results, Tryz.results21, go_sem]) rfl ?_
    unfold NewPost
    rw [if_neg HN.out]
    exact ⟨Upd.refl _ _, rfl⟩
  · have d1 : decide (room < 1) = false := decide_eq_false h1
    by_cases h2 : 2147483648 < room
    · have d2 : decide (2147483648 < room) = true := decide_eq_true h2
      have HN := Lib.hid (show ¬ (1 ≤ room ∧ room ≤ 2147483648) by omega)
      clear h1 h2
      go_enter Tryz.func21, Tryz.ntmps21
      go_wp2_with fail
      refine bodyPost_ret (v := .tuple #[.pointer none, .int .i64 2]) (by simp [results, Tryz.results21, go_sem]) rfl ?_
      unfold NewPost
      rw [if_neg HN.out]
      exact ⟨Upd.refl _ _, rfl⟩
    · have d2 : decide (2147483648 < room) = false := decide_eq_false h2
      have HN := Lib.hid (show 1 ≤ room ∧ room ≤ 2147483648 by omega)
      clear h1 h2
      go_enter Tryz.func21, Tryz.ntmps21
      go_wp2_with fail
      refine bodyPost_ret (v := .tuple #[.pointer (some ⟨w.heap.size + 1 + 1 + 1, 0, none⟩), .int .i64 0]) (by simp [results, Tryz.results21, go_sem]) rfl ?_
      unfold NewPost
      rw [if_pos HN.out]
      refine ⟨((((Upd.refl [] w).alloc _).alloc _).alloc _).alloc _, w.heap.size + 1 + 1 + 1, w.heap.size, w.heap.size + 1, w.heap.size + 1 + 1, rfl, ⟨?_, ?_, ?_, ?_, ok_nil _, by omega, by omega, by omega⟩, by omega, by omega, by omega, by omega⟩
      · have h := heap_alloc_new (((w.alloc (.map #[] 0)).alloc (.map #[] 0)).alloc (.map #[] 0)) (.cells #[.int .i64 room, .map (some w.heap.size), .map (some (w.heap.size + 1)), .map (some (w.heap.size + 1 + 1))] 76)
        have e : ((room.toNat : Nat) : Int) = room := by have := HN.out; omega
        dsimp only
        rw [e]
        simpa using h
      · exact (MapU.made MKP w).upd ((((Upd.refl [] _).alloc _).alloc _).alloc _) (by simp)
      · have h := (MapU.made MKS (w.alloc (.map #[] 0))).upd (((Upd.refl [] _).alloc (.map #[] 0)).alloc (.cells #[.int .i64 room, .map (some w.heap.size), .map (some (w.heap.size + 1)), .map (some (w.heap.size + 1 + 1))] 76)) (by simp)
        rw [World.size_alloc] at h
        exact h
      · have h := (MapU.made MKB ((w.alloc (.map #[] 0)).alloc (.map #[] 0))).upd ((Upd.refl [] _).alloc (.cells #[.int .i64 room, .map (some w.heap.size), .map (some (w.heap.size + 1)), .map (some (w.heap.size + 1 + 1))] 76)) (by simp)
        rw [World.size_alloc, World.size_alloc] at h
        exact h

theorem MdAt.cells {w : World} {h p s x : Nat} {m : Md} (g : MdAt w h p s x m) : w.cell? ⟨h, 0, none⟩ = some (.int .i64 (m.room : Int)) ∧ w.cell? ⟨h, 1, none⟩ = some (.map (some p)) ∧ w.cell? ⟨h, 2, none⟩ = some (.map (some s)) ∧ w.cell? ⟨h, 3, none⟩ = some (.map (some x)) := by
  have := g.head
  simp [World.cell?, this]

set_option maxRecDepth 100000 in
theorem noneMC {w : World} {h p s x : Nat} {m : Md} (g : MdAt w h p s x m) : Calls Tryz.prog 34 #[.pointer (some ⟨h, 0, none⟩)] w fun e w' => e = .returned (.bool false) ∧ w = w' := by
  obtain ⟨c0, c1, c2, c3⟩ := g.cells
  have hq := run_eql_map_nil (P := Tryz.prog) w 72 23 47 (some p) Tryz.underlying72
  rw [show (some p).isNone = false from rfl] at hq
  clear g
  go_enter Tryz.func34, Tryz.ntmps34
  go_wp2_with fail
  go_ret
  exact ⟨rfl, rfl⟩

set_option maxRecDepth 100000 in
theorem noneMnil (w : World) : Calls Tryz.prog 34 #[.pointer none] w fun e w' => e = .returned (.bool true) ∧ w = w' := by
  go_enter Tryz.func34, Tryz.ntmps34
  go_wp2_with fail
  go_ret
  exact ⟨rfl, rfl⟩

set_option maxRecDepth 100000 in
theorem noneMzero (w : World) (h : Nat) (hc : w.cell? ⟨h, 1, none⟩ = some (.map none)) : Calls Tryz.prog 34 #[.pointer (some ⟨h, 0, none⟩)] w fun e w' => e = .returned (.bool true) ∧ w = w' := by
  have hq := run_eql_map_nil (P := Tryz.prog) w 72 23 47 none Tryz.underlying72
  rw [show (none : Option Nat).isNone = true from rfl] at hq
  go_enter Tryz.func34, Tryz.ntmps34
  go_wp2_with fail
  go_ret
  exact ⟨rfl, rfl⟩

set_option maxRecDepth 100000 in
theorem thePoints {w : World} {h p s x : Nat} {m : Md} (g : MdAt w h p s x m) (hl : m.ps.length < 1000000) : Calls Tryz.prog 15 #[.pointer (some ⟨h, 0, none⟩)] w fun e w' => ∃ A C, e = .returned (.slice A m.ps.length C) ∧ KPt.row w' w.heap.size (.slice A m.ps.length C) m.ps ∧ Upd [] w w' := by
  obtain ⟨c0, c1, c2, c3⟩ := g.cells
  have HA := Lib.hid (allPC p m.ps w g.ps g.ok.ps g.ok.pi hl)
  have HG := Lib.hid g
  clear g hl
  go_enter Tryz.func15, Tryz.ntmps15
  go_wp2_with (first
    | (go_at_call 34; refine (noneMC HG.out).mono ?_; rintro e w' ⟨rfl, rfl⟩)
    | (go_at_call 39; refine HA.out.mono ?_; rintro e w' ⟨A, C, rfl, hrow, hu⟩; have HR := Lib.hid (And.intro hrow hu); clear hrow hu))
  go_ret
  exact ⟨A, C, rfl, HR.out.1, HR.out.2⟩

set_option maxRecDepth 100000 in
theorem noPoints (w : World) (v : Value) (hn : Calls Tryz.prog 34 #[v] w fun e w' => e = .returned (.bool true) ∧ w = w') : Calls Tryz.prog 15 #[v] w fun e w' => e = .returned (.slice none 0 0) ∧ w = w' := by
  have HN := Lib.hid hn
  clear hn
  go_enter Tryz.func15, Tryz.ntmps15
  go_wp2_with (go_at_call 34; refine HN.out.mono ?_; rintro e w' ⟨rfl, rfl⟩)
  go_ret
  exact ⟨rfl, rfl⟩

set_option maxRecDepth 100000 in
theorem theSpans {w : World} {h p s x : Nat} {m : Md} (g : MdAt w h p s x m) (hl : m.ss.length < 1000000) : Calls Tryz.prog 26 #[.pointer (some ⟨h, 0, none⟩)] w fun e w' => ∃ A C, e = .returned (.slice A m.ss.length C) ∧ KSp.row w' w.heap.size (.slice A m.ss.length C) m.ss ∧ Upd [] w w' := by
  obtain ⟨c0, c1, c2, c3⟩ := g.cells
  have HA := Lib.hid (allSC s m.ss w g.ss g.ok.ss g.ok.si hl)
  have HG := Lib.hid g
  clear g hl
  go_enter Tryz.func26, Tryz.ntmps26
  go_wp2_with (first
    | (go_at_call 34; refine (noneMC HG.out).mono ?_; rintro e w' ⟨rfl, rfl⟩)
    | (go_at_call 49; refine HA.out.mono ?_; rintro e w' ⟨A, C, rfl, hrow, hu⟩; have HR := Lib.hid (And.intro hrow hu); clear hrow hu))
  go_ret
  exact ⟨A, C, rfl, HR.out.1, HR.out.2⟩

set_option maxRecDepth 100000 in
theorem noSpans (w : World) (v : Value) (hn : Calls Tryz.prog 34 #[v] w fun e w' => e = .returned (.bool true) ∧ w = w') : Calls Tryz.prog 26 #[v] w fun e w' => e = .returned (.slice none 0 0) ∧ w = w' := by
  have HN := Lib.hid hn
  clear hn
  go_enter Tryz.func26, Tryz.ntmps26
  go_wp2_with (go_at_call 34; refine HN.out.mono ?_; rintro e w' ⟨rfl, rfl⟩)
  go_ret
  exact ⟨rfl, rfl⟩

set_option maxRecDepth 100000 in
theorem theBoxes {w : World} {h p s x : Nat} {m : Md} (g : MdAt w h p s x m) (hl : m.bs.length < 1000000) : Calls Tryz.prog 28 #[.pointer (some ⟨h, 0, none⟩)] w fun e w' => ∃ A C, e = .returned (.slice A m.bs.length C) ∧ KBx.row w' w.heap.size (.slice A m.bs.length C) m.bs ∧ Upd [] w w' := by
  obtain ⟨c0, c1, c2, c3⟩ := g.cells
  have HA := Lib.hid (allBC x m.bs w g.bs g.ok.bs g.ok.bi hl)
  have HG := Lib.hid g
  clear g hl
  go_enter Tryz.func28, Tryz.ntmps28
  go_wp2_with (first
    | (go_at_call 34; refine (noneMC HG.out).mono ?_; rintro e w' ⟨rfl, rfl⟩)
    | (go_at_call 50; refine HA.out.mono ?_; rintro e w' ⟨A, C, rfl, hrow, hu⟩; have HR := Lib.hid (And.intro hrow hu); clear hrow hu))
  go_ret
  exact ⟨A, C, rfl, HR.out.1, HR.out.2⟩

set_option maxRecDepth 100000 in
theorem noBoxes (w : World) (v : Value) (hn : Calls Tryz.prog 34 #[v] w fun e w' => e = .returned (.bool true) ∧ w = w') : Calls Tryz.prog 28 #[v] w fun e w' => e = .returned (.slice none 0 0) ∧ w = w' := by
  have HN := Lib.hid hn
  clear hn
  go_enter Tryz.func28, Tryz.ntmps28
  go_wp2_with (go_at_call 34; refine HN.out.mono ?_; rintro e w' ⟨rfl, rfl⟩)
  go_ret
  exact ⟨rfl, rfl⟩
end Go.Proofs.YthnbgfnclpkdjaaGreat
