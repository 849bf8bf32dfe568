/- Operations that came in, as the form of the statements tells them. -/
import Derived.Test.YtkhgglafnjfiaaaOpA
import Derived.ProofKit
namespace Go.Proofs.Ytkhgglafnjfiaaa
open Go.ChangeShapes Go.WideShapes Go.Deep Go.RowKit

theorem ops_opened {H : Type} {enc : TypeId × Value → H} {w : World} {base : Nat} {held : Bool} {fuel : Nat} {v : Value} {x : DataW H × List MemPlace}
    (h : DataW.trod enc Try.prog w base (fun _ => true) held fuel 55 [v] = some x) :
    ∃ l : List (Bool × Int), IsOps w v l ∧ (∀ o ∈ l, (Lit.int .i64 o.2).wf = true) ∧ l.length ≤ maxLen := by
  obtain ⟨rows, h1, h2, h3⟩ := structs_of_arg Try.underlying55 Try.underlying62 (by kernel_rfl) (by kernel_rfl) (by decide) (fun _ => rfl) h
  obtain ⟨l, e, h4, h5⟩ := ops_of_rows (rows := rows) h1 (fun r hr => by
    obtain ⟨i, hi⟩ := List.mem_iff_getElem?.1 hr
    obtain ⟨u0, y0, n0, g0, t0⟩ := h3 i r hi 0 _ rfl
    obtain ⟨u1, y1, n1, g1, t1⟩ := h3 i r hi 1 _ rfl
    obtain ⟨b, e0, _⟩ := DataW.trod_bool Try.underlying4 t0
    obtain ⟨z, e1, _, hz⟩ := DataW.trod_int Try.underlying2 t1
    have hl : r.length = 2 := h1.1 r hr
    injection e0 with e0 _
    injection e1 with e1 _
    subst e0 e1
    refine ⟨b, z, ?_, hz⟩
    match r, hl with
    | [a, c], _ =>
      simp at g0 g1
      rw [g0, g1]; rfl)
  exact ⟨l, h4, h5, by rw [e]; exact h2⟩
end Go.Proofs.Ytkhgglafnjfiaaa
