/- What a slice is seen to have. -/
import Derived.Test.YtkhgglafnjfiaaaOps
import Derived.Test.YtkhgglafnjfiaaaCloneB8
namespace Go.Proofs.Ytkhgglafnjfiaaa.B8
open Go.RowKit

theorem KI_all (l : List Int) : KI.all l = l.map fun x => .int .u8 x := by
  induction l with
  | nil => rfl
  | cons a l ih => simp only [Kind.all, List.flatMap_cons, List.map_cons] at *; rw [ih]; rfl

/-- The list l is what v is seen to have. -/
def Ints (w : World) (v : Value) (l : List Int) : Prop := Sees w 1 v l.length (KI.all l)

theorem Ints.form {w : World} {v : Value} {l : List Int} (h : Ints w v l) : ∃ A C, v = .slice A l.length C := sees_form h

theorem Ints.cell {w : World} {A : Option Addr} {n C : Nat} {l : List Int} (h : Ints w (.slice A n C) l) {k : Nat} (hk : k < l.length) :
    ∃ b o, A = some ⟨b, o, none⟩ ∧ w.cell? ⟨b, o + k, none⟩ = some (.int .u8 l[k]) := by
  rcases h.2 with ⟨h1, h2⟩ | ⟨b, o, s, cap, h1, h2, h3, h4, h5⟩
  · omega
  · cases h1
    have hs := h2 (by omega)
    subst hs
    refine ⟨b, o, rfl, h5 k _ ?_⟩
    rw [KI_all]
    simp [hk]

theorem Ints.lt {w : World} {v : Value} {l : List Int} (h : Ints w v l) (h0 : 0 < l.length) : ∀ k ∈ blk v, k < w.heap.size := by
  obtain ⟨A, C, rfl⟩ := h.form
  obtain ⟨b, o, rfl, hc⟩ := h.cell h0
  intro k hk
  simp [blk] at hk
  subst hk
  exact World.block_lt_of_cell? w _ hc

theorem Ints.upd {F : List Nat} {w w' : World} {v : Value} {l : List Int} (h : Ints w v l) (hu : Upd F w w') (hd : 0 < l.length → ∀ k ∈ blk v, k < w.heap.size → k ∉ F) : Ints w' v l := sees_upd h hu hd

theorem Ints.upd0 {w w' : World} {v : Value} {l : List Int} (h : Ints w v l) (hu : Upd [] w w') : Ints w' v l := sees_upd h hu (by simp)

theorem Ints.of_row {w : World} {base : Nat} {v : Value} {l : List Int} (h : KI.row w base v l) : Ints w v l := sees_of_own h

theorem ints_of_arg {w : World} {a : Option Addr} {len cap : Nat} {zs : List Int}
    (h : (a = none ∧ len = 0 ∧ cap = 0 ∧ zs = []) ∨ ∃ x, a = some x ∧ len ≤ cap ∧ cap ≤ maxLen ∧ zs.length = cap ∧ (∀ i, i < zs.length → w.cell? (x.add i) = some (.int .u8 (zs.getD i 0))) ∧ ∀ n ∈ zs, (Lit.int .u8 n).wf = true) :
    Ints w (.slice a len cap) (zs.take len) ∧ (zs.take len).length = len ∧ len ≤ 9223372036854775807 ∧ ∀ n ∈ zs.take len, 0 ≤ n ∧ n ≤ 255 := by
  rcases h with ⟨rfl, rfl, rfl, rfl⟩ | ⟨x, rfl, hl, hm, hz, hc, hw⟩
  · exact ⟨⟨rfl, .inl ⟨rfl, rfl⟩⟩, rfl, by omega, by simp⟩
  · have hlen : (zs.take len).length = len := by rw [List.length_take]; omega
    have hsp : 0 < cap → x.spot = none := by
      intro h0
      have := hc 0 (by omega)
      unfold Addr.add at this
      rw [if_pos rfl] at this
      unfold World.cell? at this
      cases hs : x.spot with
      | none => rfl
      | some q => rw [hs] at this; simp at this; split at this <;> simp_all
    refine ⟨⟨?_, .inr ⟨x.block, x.off, x.spot, cap, ?_, hsp, ?_, hm, ?_⟩⟩, hlen, by unfold maxLen at hm; omega, ?_⟩
    · rw [KI_all, List.length_map, Nat.mul_one]
    · rw [hlen]
    · rw [hlen]; exact hl
    · intro j u hu
      rw [KI_all, List.getElem?_map, List.getElem?_take] at hu
      split at hu
      · rename_i hj
        have hj' : j < zs.length := by omega
        have h1 := hc j hj'
        have h2 : x.add j = ⟨x.block, x.off + j, none⟩ := by
          have := hsp (by omega)
          obtain ⟨b, o, s⟩ := x
          simp only at this
          subst this
          exact addr_add _ _ _
        rw [h2] at h1
        rw [h1]
        simp only [List.getElem?_eq_getElem hj', Option.map_some, Option.some.injEq] at hu
        rw [← hu]
        simp [List.getD, List.getElem?_eq_getElem hj']
      · cases hu
    · intro n hn
      have := hw n (List.mem_of_mem_take hn)
      simpa [Lit.wf, IntKind.min, IntKind.max, IntKind.signed, IntKind.bits] using this

theorem head_of {w : World} {A0 : Option Addr} {C0 : Nat} {l : List Int} (hs : Ints w (.slice A0 l.length C0) l) (cn : Nat) (c : Int) (hc : (cn : Int) = c) :
    ∃ A C m lm, lm = l.take m ∧ lm.length = m ∧ m = min l.length cn ∧ (∀ w', (Instr.slice 38 (.slice A0 l.length C0) none (some (.int .i64 (m : Int))) none).run Try.prog w' = .ok (.slice A m C) w') ∧
      Value.int .i64 (if c < (l.length : Int) then c else (l.length : Int)) = Value.int .i64 (m : Int) ∧ Ints w (.slice A m C) lm := by
  obtain ⟨i1, hi1, hy0, hy1, hy2⟩ := info_parts info_int64
  obtain ⟨m, hm⟩ : ∃ m, min l.length cn = m := ⟨_, rfl⟩
  obtain ⟨A, C, hrun, hsee, _⟩ := cut_to (P := Try.prog) Try.underlying38 hi1 hy1 hs m (by omega)
  refine ⟨A, C, m, l.take m, rfl, by rw [List.length_take]; omega, hm.symm, hrun, min_spelt _ _ _ (by rw [← hm, ← hc]; split <;> omega), ?_⟩
  have := hsee w hs
  unfold Ints
  rw [Kind.all_take, List.length_take, Nat.min_eq_left (by omega)]
  exact this

end Go.Proofs.Ytkhgglafnjfiaaa.B8
