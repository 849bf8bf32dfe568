/- A slice of numbers of 64 bits that came in, as a row of the form tells it: what it is seen to have. -/
import Derived.Test.YtcpompbiohaomaaAw16
namespace Go.Proofs.Ytcpompbiohaomaa
open Go.RowKit

theorem see_nilA (w : World) : See KL w (.slice none 0 0) [] := ⟨rfl, .inl ⟨rfl, rfl⟩⟩

theorem longs_of_arg {w : World} {a : Option Addr} {len cap : Nat} {zs : List Int}
    (h : (a = none ∧ len = 0 ∧ cap = 0 ∧ zs = []) ∨ ∃ x, a = some x ∧ len ≤ cap ∧ cap ≤ maxLen ∧ zs.length = cap ∧ (∀ i, i < zs.length → w.cell? (x.add i) = some (.int .i64 (zs.getD i 0))) ∧ ∀ n ∈ zs, (Lit.int .i64 n).wf = true) :
    See KL w (.slice a len cap) (zs.take len) ∧ (zs.take len).length = len ∧ len ≤ 9223372036854775807 ∧ ∀ n ∈ zs.take len, -9223372036854775808 ≤ n ∧ n ≤ 9223372036854775807 := by
  rcases h with ⟨rfl, rfl, rfl, rfl⟩ | ⟨x, rfl, hl, hm, hz, hc, hw⟩
  · exact ⟨see_nilA _, rfl, by omega, by simp⟩
  · have hlen : (zs.take len).length = len := by rw [List.length_take]; omega
    have hsp : 0 < cap → x.spot = none := by
      intro h0
      have := hc 0 (by omega)
      unfold Addr.add at this
      rw [if_pos rfl] at this
      unfold World.cell? at this
      cases hs : x.spot with
      | none => rfl
      | some q => rw [hs] at this; simp at this; split at this <;> simp_all
    unfold See
    refine ⟨⟨?_, .inr ⟨x.block, x.off, x.spot, cap, ?_, hsp, ?_, hm, ?_⟩⟩, hlen, by unfold maxLen at hm; omega, ?_⟩
    · rw [KL_all, List.length_map]; exact (Nat.mul_one _).symm
    · rw [hlen]
    · rw [hlen]; exact hl
    · intro j u hu
      rw [KL_all, List.getElem?_map, List.getElem?_take] at hu
      split at hu
      · rename_i hj
        have hj' : j < zs.length := by omega
        have h1 := hc j hj'
        have h2 : x.add j = ⟨x.block, x.off + j, none⟩ := by
          have := hsp (by omega)
          obtain ⟨b, o, s⟩ := x
          simp only at this
          subst this
          exact addr_add _ _ _
        rw [h2] at h1
        rw [h1]
        simp only [List.getElem?_eq_getElem hj', Option.map_some, Option.some.injEq] at hu
        rw [← hu]
        simp [List.getD, List.getElem?_eq_getElem hj']
      · cases hu
    · intro n hn
      have := hw n (List.mem_of_mem_take hn)
      simpa [Lit.wf, IntKind.min, IntKind.max, IntKind.signed, IntKind.bits] using this
end Go.Proofs.Ytcpompbiohaomaa
