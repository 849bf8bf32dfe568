/- Pairs of numbers that came in, as the form of the statements tells them. -/
import Derived.Test.YthkiljfjjnckaaaArgS
import Derived.Test.YthkiljfjjnckaaaArgL
import Derived.Test.YthkiljfjjnckaaaCovd
import Derived.ProofKit
namespace Go.Proofs.Ythkiljfjjnckaaa
open Go.RowKit

def IsPrs (w : World) (v : Value) (l : List (Nat × Nat)) : Prop := See KPr w v l

theorem prs_of_rows {w : World} {v : Value} {rows : List (List Value)} (h : SeesRows w 2 v rows) (hr : ∀ r ∈ rows, ∃ a b : Nat, r = [.int .u16 (a : Int), .int .u16 (b : Int)] ∧ a < 65536 ∧ b < 65536) :
    ∃ l : List (Nat × Nat), l.length = rows.length ∧ IsPrs w v l ∧ ∀ p ∈ l, p.1 < 65536 ∧ p.2 < 65536 := by
  have : ∃ l : List (Nat × Nat), rows = l.map KPr.enc ∧ ∀ p ∈ l, p.1 < 65536 ∧ p.2 < 65536 := by
    clear h
    induction rows with
    | nil => exact ⟨[], rfl, by simp⟩
    | cons a rows ih =>
      obtain ⟨l, e, hl⟩ := ih fun r h => hr r (by simp [h])
      obtain ⟨b, x, e1, e2⟩ := hr a (by simp)
      refine ⟨(b, x) :: l, by rw [e, e1]; rfl, fun o ho => ?_⟩
      rcases List.mem_cons.1 ho with rfl | ho
      · exact e2
      · exact hl o ho
  obtain ⟨l, rfl, hl⟩ := this
  refine ⟨l, by simp, ?_, hl⟩
  have := h.2
  rw [List.length_map] at this
  unfold IsPrs See Kind.all
  rw [List.flatMap]
  exact this
end Go.Proofs.Ythkiljfjjnckaaa

namespace Go.Proofs.Ythkiljfjjnckaaa
open Go.ChangeShapes Go.WideShapes Go.Deep Go.RowKit

theorem prs_opened {H : Type} {enc : TypeId × Value → H} {w : World} {base : Nat} {held : Bool} {fuel : Nat} {v : Value} {x : DataW H × List MemPlace}
    (h : DataW.trod enc Try.prog w base (fun _ => true) held fuel 83 [v] = some x) :
    ∃ l : List (Nat × Nat), IsPrs w v l ∧ (∀ p ∈ l, p.1 < 65536 ∧ p.2 < 65536) ∧ l.length ≤ maxLen := by
  obtain ⟨rows, h1, h2, h3⟩ := structs_of_arg Try.underlying83 Try.underlying57 (by kernel_rfl) (by kernel_rfl) (by decide) (fun _ => rfl) h
  obtain ⟨l, e, h4, h5⟩ := prs_of_rows (rows := rows) h1 (fun r hr => by
    obtain ⟨i, hi⟩ := List.mem_iff_getElem?.1 hr
    obtain ⟨u0, y0, n0, g0, t0⟩ := h3 i r hi 0 _ rfl
    obtain ⟨u1, y1, n1, g1, t1⟩ := h3 i r hi 1 _ rfl
    obtain ⟨b, e0, _, hb⟩ := DataW.trod_int Try.underlying55 t0
    obtain ⟨z, e1, _, hz⟩ := DataW.trod_int Try.underlying55 t1
    have hl : r.length = 2 := h1.1 r hr
    injection e0 with e0 _
    injection e1 with e1 _
    subst e0 e1
    obtain ⟨b', rfl, hb'⟩ := u16_nat hb
    obtain ⟨z', rfl, hz'⟩ := u16_nat hz
    refine ⟨b', z', ?_, hb', hz'⟩
    match r, hl with
    | [a, c], _ =>
      simp at g0 g1
      rw [g0, g1])
  exact ⟨l, h4, h5, by rw [e]; exact h2⟩
end Go.Proofs.Ythkiljfjjnckaaa
