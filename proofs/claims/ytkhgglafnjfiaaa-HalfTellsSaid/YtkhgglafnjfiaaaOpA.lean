/- Operations that came in. Operations that came in, as the form of the statements tells them. -/
import Derived.Test.YtkhgglafnjfiaaaArgS
import Derived.Test.YtkhgglafnjfiaaaOps
import Derived.Test.YtkhgglafnjfiaaaRows
import Derived.ProofKit
namespace Go.Proofs.Ytkhgglafnjfiaaa
open Go.RowKit

def opEnc (o : Bool × Int) : List Value := [.bool o.1, .int .i64 o.2]

/-- A list of operations is seen. -/
def IsOps (w : World) (v : Value) (l : List (Bool × Int)) : Prop := Sees w 2 v l.length (l.flatMap opEnc)

theorem opEnc_len (l : List (Bool × Int)) : (l.flatMap opEnc).length = l.length * 2 := by
  induction l with
  | nil => rfl
  | cons a l ih => rw [List.flatMap_cons, List.length_append, ih, List.length_cons]; simp [opEnc]; omega

theorem opEnc_get (l : List (Bool × Int)) : ∀ k (h : k < l.length), (l.flatMap opEnc)[k * 2]? = some (.bool l[k].1) ∧ (l.flatMap opEnc)[k * 2 + 1]? = some (.int .i64 l[k].2) := by
  induction l with
  | nil => intro k h; simp at h
  | cons a l ih =>
    intro k h
    rw [List.flatMap_cons]
    rcases k with _ | k
    · exact ⟨rfl, rfl⟩
    · have := ih k (by simpa using h)
      have e1 : (opEnc a ++ l.flatMap opEnc)[(k + 1) * 2]? = (l.flatMap opEnc)[k * 2]? := by
        rw [List.getElem?_append_right (by simp [opEnc]; omega)]; congr 1; simp [opEnc]; omega
      have e2 : (opEnc a ++ l.flatMap opEnc)[(k + 1) * 2 + 1]? = (l.flatMap opEnc)[k * 2 + 1]? := by
        rw [List.getElem?_append_right (by simp [opEnc]; omega)]; congr 1; simp [opEnc]; omega
      rw [e1, e2]
      simpa using this

theorem opEnc_take (l : List (Bool × Int)) (k : Nat) : (l.take k).flatMap opEnc = (l.flatMap opEnc).take (k * 2) := by
  induction l generalizing k with
  | nil => simp
  | cons a l ih =>
    rcases k with _ | k
    · simp
    · rw [List.take_succ_cons, List.flatMap_cons, List.flatMap_cons, ih]
      have : (opEnc a).length = 2 := rfl
      rw [List.take_append, List.take_of_length_le (l := opEnc a) (by omega), this]
      rw [show (k + 1) * 2 - 2 = k * 2 by omega]

theorem IsOps.form {w : World} {v : Value} {l : List (Bool × Int)} (h : IsOps w v l) : ∃ A C, v = .slice A l.length C := sees_form h

theorem IsOps.upd {w w' : World} {v : Value} {l : List (Bool × Int)} (h : IsOps w v l) (hu : Upd [] w w') : IsOps w' v l := sees_upd h hu (by simp)

theorem IsOps.at {w : World} {A : Option Addr} {n C : Nat} {l : List (Bool × Int)} (h : IsOps w (.slice A n C) l) {k : Nat} (hk : k < l.length) :
    ∃ b o, A = some ⟨b, o, none⟩ ∧ w.cell? ⟨b, o + k * 2, none⟩ = some (.bool l[k].1) ∧ w.cell? ⟨b, o + k * 2 + 1, none⟩ = some (.int .i64 l[k].2) := by
  obtain ⟨e1, e2⟩ := opEnc_get l k hk
  rcases h.2 with ⟨h1, h2⟩ | ⟨b, o, s, cap, h1, h2, h3, h4, h5⟩
  · omega
  · cases h1
    have hs := h2 (by omega)
    subst hs
    refine ⟨b, o, rfl, h5 _ _ e1, ?_⟩
    have := h5 _ _ e2
    rwa [← Nat.add_assoc] at this

/-- The rows that came in are operations. -/
theorem ops_of_rows {w : World} {v : Value} {rows : List (List Value)} (h : SeesRows w 2 v rows) (hr : ∀ r ∈ rows, ∃ b x, r = opEnc (b, x) ∧ (Lit.int .i64 x).wf = true) :
    ∃ l : List (Bool × Int), l.length = rows.length ∧ IsOps w v l ∧ ∀ o ∈ l, (Lit.int .i64 o.2).wf = true := by
  have : ∃ l : List (Bool × Int), rows = l.map opEnc ∧ ∀ o ∈ l, (Lit.int .i64 o.2).wf = true := by
    clear h
    induction rows with
    | nil => exact ⟨[], rfl, by simp⟩
    | cons a rows ih =>
      obtain ⟨l, e, hl⟩ := ih fun r h => hr r (by simp [h])
      obtain ⟨b, x, e1, e2⟩ := hr a (by simp)
      refine ⟨(b, x) :: l, by rw [e, e1]; rfl, fun o ho => ?_⟩
      rcases List.mem_cons.1 ho with rfl | ho
      · exact e2
      · exact hl o ho
  obtain ⟨l, rfl, hl⟩ := this
  refine ⟨l, by simp, ?_, hl⟩
  have := h.2
  rw [List.length_map] at this
  unfold IsOps
  rw [List.flatMap]
  exact this

theorem info_op : (Try.prog.info? 62).map (fun i => (i.zero, i.size, i.bytes)) = some (some (.agg #[.bool false, .int .i64 0]), 2, 16) := by kernel_rfl
end Go.Proofs.Ytkhgglafnjfiaaa

namespace Go.Proofs.Ytkhgglafnjfiaaa
open Go.ChangeShapes Go.WideShapes Go.Deep Go.RowKit

theorem ops_opened {H : Type} {enc : TypeId × Value → H} {w : World} {base : Nat} {held : Bool} {fuel : Nat} {v : Value} {x : DataW H × List MemPlace}
    (h : DataW.trod enc Try.prog w base (fun _ => true) held fuel 55 [v] = some x) :
    ∃ l : List (Bool × Int), IsOps w v l ∧ (∀ o ∈ l, (Lit.int .i64 o.2).wf = true) ∧ l.length ≤ maxLen := by
  obtain ⟨rows, h1, h2, h3⟩ := structs_of_arg Try.underlying55 Try.underlying62 (by kernel_rfl) (by kernel_rfl) (by decide) (fun _ => rfl) h
  obtain ⟨l, e, h4, h5⟩ := ops_of_rows (rows := rows) h1 (fun r hr => by
    obtain ⟨i, hi⟩ := List.mem_iff_getElem?.1 hr
    obtain ⟨u0, y0, n0, g0, t0⟩ := h3 i r hi 0 _ rfl
    obtain ⟨u1, y1, n1, g1, t1⟩ := h3 i r hi 1 _ rfl
    obtain ⟨b, e0, _⟩ := DataW.trod_bool Try.underlying4 t0
    obtain ⟨z, e1, _, hz⟩ := DataW.trod_int Try.underlying2 t1
    have hl : r.length = 2 := h1.1 r hr
    injection e0 with e0 _
    injection e1 with e1 _
    subst e0 e1
    refine ⟨b, z, ?_, hz⟩
    match r, hl with
    | [a, c], _ =>
      simp at g0 g1
      rw [g0, g1]; rfl)
  exact ⟨l, h4, h5, by rw [e]; exact h2⟩
end Go.Proofs.Ytkhgglafnjfiaaa
