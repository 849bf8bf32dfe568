/- What the statements' walks take of a Half: Add, Drop, and what it tells, from a world in which it lay on. -/
import Derived.Test.YtkhgglafnjfiaaaHalfO
import Derived.Test.YtkhgglafnjfiaaaHalfNew
import Derived.Test.YtkhgglafnjfiaaaHalfAdd
import Derived.Test.YtkhgglafnjfiaaaHalfDrop
import Derived.Test.YtkhgglafnjfiaaaHalfEq
namespace Go.Proofs.Ytkhgglafnjfiaaa
open Go.RowKit

variable {W w : World} {hv : Value} {F : List Nat} {S : HS} {m : Nat}

theorem addW (H : HStep W w hv F S) (O : HOk S m) (hm : m < 1000) (x : Int) (hx : (Lit.int .i64 x).wf = true) :
    Calls Try.prog 40 #[hv, .int .i64 x] w fun e w' => e = .returned (.tuple #[.int .i64 (putN S x : Nat), .bool (!has S x)]) ∧ HStep W w' hv F (putS S x) := by
  obtain ⟨F', h1, h2, h3⟩ := H
  have hc := O.cs
  have ha := O.al
  have hw := O.wk
  by_cases hh : has S x = true
  · obtain ⟨k, hk⟩ := O.look hh
    refine (add_there hv F' S x k w h1 hx hk).mono ?_
    rintro e w' ⟨rfl, rfl⟩
    unfold putN putS
    rw [if_pos hh, if_pos hh, hh]
    exact ⟨rfl, F', h1, h2, h3⟩
  · have hh' : has S x = false := by simpa using hh
    refine (add22 hv F' S x w h1 O.inv hx (has_none hh') (by omega) (by omega) (by omega)).mono ?_
    rintro e w' ⟨rfl, hst⟩
    unfold putN putS
    rw [if_neg hh, if_neg hh, hh']
    exact ⟨rfl, HStep.next h2 h3 hst⟩

theorem dropW (H : HStep W w hv F S) (O : HOk S m) (hm : m < 1000) (x : Int) (hx : (Lit.int .i64 x).wf = true) :
    Calls Try.prog 39 #[hv, .int .i64 x] w fun e w' => e = .returned (.tuple #[.int .i64 (lessN S x : Nat), .bool (has S x)]) ∧ HStep W w' hv F (lessS S x) := by
  obtain ⟨F', h1, h2, h3⟩ := H
  have hc := O.cs
  have hw := O.wk
  by_cases hh : has S x = true
  · obtain ⟨k, hk⟩ := O.look hh
    refine (drop_there hv F' S x k w h1 O.inv hx hk (by omega) (by omega)).mono ?_
    rintro e w' ⟨rfl, hst⟩
    unfold lessN lessS
    rw [if_pos hh, if_pos hh, hh, hk]
    exact ⟨rfl, HStep.next h2 h3 hst⟩
  · have hh' : has S x = false := by simpa using hh
    refine (drop_none hv F' S x w h1 hx (has_none hh')).mono ?_
    rintro e w' ⟨rfl, rfl⟩
    unfold lessN lessS
    rw [if_neg hh, if_neg hh, hh']
    exact ⟨rfl, F', h1, h2, h3⟩

theorem lenW (H : HStep W w hv F S) (O : HOk S m) :
    Calls Try.prog 48 #[hv] w fun e w' => e = .returned (.int .i64 (vAll (view S)).length) ∧ w = w' := by
  obtain ⟨F', h1, h2, h3⟩ := H
  rw [← O.inv.core.mp_len]
  exact len22 hv F' S w h1

theorem storedW (H : HStep W w hv F S) :
    Calls Try.prog 49 #[hv] w fun e w' => e = .returned (.int .i64 (view S).length) ∧ w = w' := by
  obtain ⟨F', h1, h2, h3⟩ := H
  rw [view_len]
  exact stored22 hv F' S w h1

theorem workW (H : HStep W w hv F S) :
    Calls Try.prog 50 #[hv] w fun e w' => e = .returned (.int .i64 S.wk) ∧ w = w' := by
  obtain ⟨F', h1, h2, h3⟩ := H
  exact work22 hv F' S w h1

theorem allW (H : HStep W w hv F S) (O : HOk S m) (hm : m < 10000) :
    Calls Try.prog 42 #[hv] w fun e w' => ∃ A C, e = .returned (.slice A (vAll (view S)).length C) ∧ KI.row w' w.heap.size (.slice A (vAll (view S)).length C) (vAll (view S)) ∧ Upd [] w w' := by
  obtain ⟨F', h1, h2, h3⟩ := H
  rw [view_all]
  exact all22 hv F' S w h1 O.inv.lt (by have := O.cs; omega)

theorem treesEqW (H : HStep W w hv F S) (O : HOk S m) (hm : m < 10000) (v : Value) (ww : List (List Int)) (hw : RowsSee w v ww) (hwl : ww.length < 1000000) (hww : ∀ l ∈ ww, l.length < 1000000) :
    Calls Try.prog 51 #[hv, v] w fun e w' => e = .returned (.bool (decide (treesL S = ww))) ∧ Upd [] w w' := by
  obtain ⟨F', h1, h2, h3⟩ := H
  exact treesEq hv F' S v ww w h1 O.inv (by have := O.cs; omega) hw hwl hww

theorem newW (w : World) :
    Calls Try.prog 36 #[fnBuild, fnDrop] w fun e w' => ∃ b F, e = .returned (.pointer (some ⟨b, 0, none⟩)) ∧ IsHalf w' (.pointer (some ⟨b, 0, none⟩)) F S00 ∧ Upd [] w w' ∧ ∀ x ∈ F, w.heap.size ≤ x ∧ x < w'.heap.size := by
  refine (new22 w).mono ?_
  rintro e w' ⟨b, F, rfl, h1, h2, h3⟩
  exact ⟨b, F, rfl, h1, h2, fun x hx => ⟨h3 x hx, h1.lt x hx⟩⟩

theorem ok00 : HOk S00 0 := ⟨inv00, Nat.le_refl _, Nat.le_refl _, Nat.le_refl _⟩
theorem view00 : view S00 = [] := rfl
end Go.Proofs.Ytkhgglafnjfiaaa
