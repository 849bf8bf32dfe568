/- Slices of bytes that came in. -/
import Derived.Test.YtjpjlfcjkgmhdaaKinds
import Derived.Test.YtjpjlfcjkgmhdaaArgS
import Derived.ProofKit
namespace Go.Proofs.Ytjpjlfcjkgmhdaa
open Go.RowKit

/-- Bytes. -/
def KYb : Kind Nat := { T := 0, sT := 47, eT := 5, sz := 1, enc := fun x => [.int .u8 (x : Int)], len := fun _ => rfl, one := fun x u hu => by simp at hu; subst hu; rfl }

theorem KYb_all (cs : List Nat) : KYb.all cs = cs.map fun (x : Nat) => (.int .u8 (x : Int) : Value) := by
  induction cs with
  | nil => rfl
  | cons x cs ih => rw [List.map_cons, ← ih]; rfl

theorem KYb.at {w : World} {A : Option Addr} {n C : Nat} {l : List Nat} (h : See KYb w (.slice A n C) l) {k : Nat} {x : Nat} (hx : l[k]? = some x) :
    ∃ b o, A = some ⟨b, o, none⟩ ∧ n ≤ C ∧ C ≤ maxLen ∧ w.cell? ⟨b, o + k, none⟩ = some (.int .u8 (x : Int)) := by
  obtain ⟨b, o, h1, h2, h3, h4⟩ := h.at hx
  have := h4 0 _ rfl
  exact ⟨b, o, h1, h2, h3, by simpa [KYb] using this⟩

theorem infoByteS : (Try.prog.info? 5).map (fun i => (i.zero, i.size, i.bytes)) = some (some (.int .u8 0), 1, 1) := by kernel_rfl

theorem bytes_of_arg {w : World} {a : Option Addr} {len cap : Nat} {zs : List Int}
    (h : (a = none ∧ len = 0 ∧ cap = 0 ∧ zs = []) ∨ ∃ x, a = some x ∧ len ≤ cap ∧ cap ≤ maxLen ∧ zs.length = cap ∧ (∀ i, i < zs.length → w.cell? (x.add i) = some (.int .u8 (zs.getD i 0))) ∧ ∀ n ∈ zs, (Lit.int .u8 n).wf = true) :
    ∃ l : List Nat, See KYb w (.slice a len cap) l ∧ l.length = len ∧ len ≤ 9223372036854775807 ∧ ∀ n ∈ l, n < 256 := by
  rcases h with ⟨rfl, rfl, rfl, rfl⟩ | ⟨x, rfl, hl, hm, hz, hc, hw⟩
  · exact ⟨[], ⟨rfl, .inl ⟨rfl, rfl⟩⟩, rfl, by omega, by simp⟩
  · have hnat : ∀ n ∈ zs, 0 ≤ n ∧ n < 256 := fun n hn => by
      have := hw n hn
      simp [Lit.wf, IntKind.min, IntKind.max, IntKind.signed, IntKind.bits] at this
      omega
    have hlen : ((zs.take len).map Int.toNat).length = len := by rw [List.length_map, List.length_take]; omega
    have hsp : 0 < cap → x.spot = none := fun h0 => spot_none (hc 0 (by omega))
    refine ⟨(zs.take len).map Int.toNat, ?_, hlen, by unfold maxLen at hm; omega, ?_⟩
    · unfold See
      refine ⟨?_, .inr ⟨x.block, x.off, x.spot, cap, ?_, hsp, ?_, hm, ?_⟩⟩
      · rw [KYb_all, List.length_map]; exact (Nat.mul_one _).symm
      · rw [hlen]
      · rw [hlen]; exact hl
      · intro j u hu
        rw [KYb_all, List.getElem?_map, List.getElem?_map, List.getElem?_take] at hu
        split at hu
        · rename_i hj
          have hj' : j < zs.length := by omega
          have h1 := hc j hj'
          have h2 : x.add j = ⟨x.block, x.off + j, none⟩ := by
            have := hsp (by omega)
            obtain ⟨b, o, s⟩ := x
            simp only at this
            subst this
            exact addr_add _ _ _
          rw [h2] at h1
          rw [h1]
          simp only [List.getElem?_eq_getElem hj', Option.map_some, Option.some.injEq] at hu
          rw [← hu]
          have h3 := hnat zs[j] (List.getElem_mem hj')
          simp [List.getD, List.getElem?_eq_getElem hj']
          omega
        · cases hu
    · intro n hn
      obtain ⟨z, hz', rfl⟩ := List.mem_map.1 hn
      have := hnat z (List.mem_of_mem_take hz')
      omega
end Go.Proofs.Ytjpjlfcjkgmhdaa
