/- Spans and numbers that came in. -/
import Derived.Test.YtjpjlfcjkgmhdaaGreatSpanK
import Derived.BigQuiet
import Derived.Deep.QuietTactic
import Derived.Test.YtjpjlfcjkgmhdaaGreatArgS
import Derived.Test.YtjpjlfcjkgmhdaaGreatLits
import Derived.ProofKit
namespace Go.Proofs.YtjpjlfcjkgmhdaaGreat
open Go.RowKit

def IsSps (w : World) (v : Value) (l : List Sp) : Prop := See KSp w v l
def Sp.in64 (s : Sp) : Prop := (-9223372036854775808 ≤ s.lo ∧ s.lo ≤ 9223372036854775807) ∧ (-9223372036854775808 ≤ s.hi ∧ s.hi ≤ 9223372036854775807) ∧ s.id < 4294967296

theorem u32_natS {x : Int} (h : (Lit.int .u32 x).wf = true) : ∃ n : Nat, x = (n : Int) ∧ n < 4294967296 := by
  simp [Lit.wf, IntKind.min, IntKind.max, IntKind.signed, IntKind.bits] at h
  exact ⟨x.toNat, by omega, by omega⟩
theorem i64_inS {x : Int} (h : (Lit.int .i64 x).wf = true) : -9223372036854775808 ≤ x ∧ x ≤ 9223372036854775807 := by
  simp [Lit.wf, IntKind.min, IntKind.max, IntKind.signed, IntKind.bits] at h
  omega

theorem sps_of_rows {w : World} {v : Value} {rows : List (List Value)} (h : SeesRows w 3 v rows) (hr : ∀ r ∈ rows, ∃ b : Sp, r = KSp.enc b ∧ b.in64) :
    ∃ l : List Sp, l.length = rows.length ∧ IsSps w v l ∧ ∀ b ∈ l, b.in64 := by
  have : ∃ l : List Sp, rows = l.map KSp.enc ∧ ∀ b ∈ l, b.in64 := by
    clear h
    induction rows with
    | nil => exact ⟨[], rfl, by simp⟩
    | cons a rows ih =>
      obtain ⟨l, e, hl⟩ := ih fun r h => hr r (by simp [h])
      obtain ⟨b, e1, e2⟩ := hr a (by simp)
      refine ⟨b :: l, by rw [e, e1]; rfl, fun o ho => ?_⟩
      rcases List.mem_cons.1 ho with rfl | ho
      · exact e2
      · exact hl o ho
  obtain ⟨l, rfl, hl⟩ := this
  refine ⟨l, by simp, ?_, hl⟩
  have := h.2
  rw [List.length_map] at this
  unfold IsSps See Kind.all
  rw [List.flatMap]
  exact this

theorem see_nilS (w : World) : See KL w (.slice none 0 0) [] := ⟨rfl, .inl ⟨rfl, rfl⟩⟩

theorem longs_of_argS {w : World} {a : Option Addr} {len cap : Nat} {zs : List Int}
    (h : (a = none ∧ len = 0 ∧ cap = 0 ∧ zs = []) ∨ ∃ x, a = some x ∧ len ≤ cap ∧ cap ≤ maxLen ∧ zs.length = cap ∧ (∀ i, i < zs.length → w.cell? (x.add i) = some (.int .i64 (zs.getD i 0))) ∧ ∀ n ∈ zs, (Lit.int .i64 n).wf = true) :
    See KL w (.slice a len cap) (zs.take len) ∧ (zs.take len).length = len ∧ len ≤ 9223372036854775807 ∧ ∀ n ∈ zs.take len, -9223372036854775808 ≤ n ∧ n ≤ 9223372036854775807 := by
  rcases h with ⟨rfl, rfl, rfl, rfl⟩ | ⟨x, rfl, hl, hm, hz, hc, hw⟩
  · exact ⟨see_nilS _, rfl, by omega, by simp⟩
  · have hlen : (zs.take len).length = len := by rw [List.length_take]; omega
    have hsp : 0 < cap → x.spot = none := by
      intro h0
      have := hc 0 (by omega)
      unfold Addr.add at this
      rw [if_pos rfl] at this
      unfold World.cell? at this
      cases hs : x.spot with
      | none => rfl
      | some q => rw [hs] at this; simp at this; split at this <;> simp_all
    unfold See
    refine ⟨⟨?_, .inr ⟨x.block, x.off, x.spot, cap, ?_, hsp, ?_, hm, ?_⟩⟩, hlen, by unfold maxLen at hm; omega, ?_⟩
    · rw [KL_all, List.length_map]; exact (Nat.mul_one _).symm
    · rw [hlen]
    · rw [hlen]; exact hl
    · intro j u hu
      rw [KL_all, List.getElem?_map, List.getElem?_take] at hu
      split at hu
      · rename_i hj
        have hj' : j < zs.length := by omega
        have h1 := hc j hj'
        have h2 : x.add j = ⟨x.block, x.off + j, none⟩ := by
          have := hsp (by omega)
          obtain ⟨b, o, s⟩ := x
          simp only at this
          subst this
          exact addr_add _ _ _
        rw [h2] at h1
        rw [h1]
        simp only [List.getElem?_eq_getElem hj', Option.map_some, Option.some.injEq] at hu
        rw [← hu]
        simp [List.getD, List.getElem?_eq_getElem hj']
      · cases hu
    · intro n hn
      have := hw n (List.mem_of_mem_take hn)
      simpa [Lit.wf, IntKind.min, IntKind.max, IntKind.signed, IntKind.bits] using this
end Go.Proofs.YtjpjlfcjkgmhdaaGreat

namespace Go.Proofs.YtjpjlfcjkgmhdaaGreat
open Go.ChangeShapes Go.WideShapes Go.Deep Go.RowKit

theorem sps_opened {H : Type} {enc : TypeId × Value → H} {w : World} {base : Nat} {held : Bool} {fuel : Nat} {v : Value} {x : DataW H × List MemPlace}
    (h : DataW.trod enc Tryz.prog w base (fun _ => true) held fuel 22 [v] = some x) :
    ∃ l : List Sp, IsSps w v l ∧ (∀ b ∈ l, b.in64) ∧ l.length ≤ maxLen := by
  obtain ⟨rows, h1, h2, h3⟩ := structs_of_arg Tryz.underlying22 Tryz.underlying39 (by kernel_rfl) (by kernel_rfl) (by decide) (fun _ => rfl) h
  obtain ⟨l, e, h4, h5⟩ := sps_of_rows (rows := rows) h1 (fun r hr => by
    obtain ⟨i, hi⟩ := List.mem_iff_getElem?.1 hr
    obtain ⟨u0, y0, n0, g0, t0⟩ := h3 i r hi 0 _ rfl
    obtain ⟨u1, y1, n1, g1, t1⟩ := h3 i r hi 1 _ rfl
    obtain ⟨u2, y2, n2, g2, t2⟩ := h3 i r hi 2 _ rfl
    obtain ⟨a0, e0, _, w0⟩ := DataW.trod_int Tryz.underlying2 t0
    obtain ⟨a1, e1, _, w1⟩ := DataW.trod_int Tryz.underlying2 t1
    obtain ⟨a2, e2, _, w2⟩ := DataW.trod_int Tryz.underlying37 t2
    have hl : r.length = 3 := h1.1 r hr
    injection e0 with e0 _
    injection e1 with e1 _
    injection e2 with e2 _
    subst e0 e1 e2
    obtain ⟨n, rfl, hn⟩ := u32_natS w2
    refine ⟨⟨a0, a1, n⟩, ?_, i64_inS w0, i64_inS w1, hn⟩
    match r, hl with
    | [c0, c1, c2], _ =>
      simp at g0 g1 g2
      rw [g0, g1, g2]
      rfl)
  exact ⟨l, h4, h5, by rw [e]; exact h2⟩
end Go.Proofs.YtjpjlfcjkgmhdaaGreat
