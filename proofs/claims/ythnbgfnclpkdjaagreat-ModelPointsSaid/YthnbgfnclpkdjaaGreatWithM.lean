/- gridironlaw26.with: does a list of names have one? -/
import Derived.Test.YthnbgfnclpkdjaaGreatLowM
namespace Go.Proofs.YthnbgfnclpkdjaaGreat
open Go.RowKit

/-- What of a reply is asked for: its names; yes or no; its wide number. -/
theorem rep_field1 (e : Int) (A : Option Addr) (n C : Nat) (c : Int) (y : Bool) (hi lo : Int) (w : World) : (Instr.field 34 (.agg #[.int .i64 e, .slice A n C, .int .i64 c, .bool y, .int .u64 hi, .int .u64 lo]) 1).run Tryz.prog w = .ok (.slice A n C) w := by kernel_rfl
theorem rep_field3 (e : Int) (A : Option Addr) (n C : Nat) (c : Int) (y : Bool) (hi lo : Int) (w : World) : (Instr.field 34 (.agg #[.int .i64 e, .slice A n C, .int .i64 c, .bool y, .int .u64 hi, .int .u64 lo]) 3).run Tryz.prog w = .ok (.bool y) w := by kernel_rfl
theorem rep_field4 (e : Int) (A : Option Addr) (n C : Nat) (c : Int) (y : Bool) (hi lo : Int) (w : World) : (Instr.field 34 (.agg #[.int .i64 e, .slice A n C, .int .i64 c, .bool y, .int .u64 hi, .int .u64 lo]) 4).run Tryz.prog w = .ok (.agg #[.int .u64 hi, .int .u64 lo]) w := by kernel_rfl

set_option maxRecDepth 100000 in
set_option maxHeartbeats 4000000 in
theorem withC (v : Value) (l : List Nat) (id : Nat) (w : World) (hv : See KU w v l) (hl : l.length < 1000000) :
    Calls Tryz.prog 16 #[v, .int .u32 (id : Int)] w fun e w' => e = .returned (.bool (decide (id ∈ l))) ∧ w = w' := by
  obtain ⟨A, C, rfl⟩ := hv.form
  obtain ⟨r, hr⟩ : ∃ r, decide (id ∈ l) = r := ⟨_, rfl⟩
  rw [hr]
  obtain ⟨n, hn⟩ : ∃ n, l.length = n := ⟨_, rfl⟩
  rw [hn] at hv hl ⊢
  have HV := Lib.hid (And.intro hv (And.intro hn hr))
  have n1 : (n : Int) < 1000000 := by omega
  have n0 : (0 : Int) ≤ (n : Int) := Int.natCast_nonneg _
  clear hv hn hl hr
  go_enter Tryz.func16, Tryz.ntmps16
  go_wp2_with fail
  go_loopg [9] n (fun m s9 wr => ∃ i, m + i = n ∧ s9 = .int .i64 (i : Int) ∧ w = wr ∧ ∀ j, j < i → l[j]? ≠ some id)
  case atStart => exact ⟨0, rfl, rfl, rfl, by intro j hj; omega⟩
  case round =>
    obtain ⟨i, hi, rfl, rfl, hp⟩ := hrel
    have HI := Lib.hid (And.intro hi hp)
    have i0 : (0 : Int) ≤ (i : Int) := Int.natCast_nonneg _
    have i3 : (i : Int) < 2000000 := by omega
    by_cases hlt : i < n
    · have i1 : (i : Int) < (n : Int) := by omega
      obtain ⟨b, hb⟩ : ∃ b, l[i]? = some b := ⟨_, List.getElem?_eq_getElem (by rw [HV.out.2.1]; exact hlt)⟩
      obtain ⟨g, o, hA, -, -, c0⟩ := KU.at HV.out.1 hb
      subst hA
      have HLT := Lib.hid (And.intro hlt hb)
      clear hb hlt hi hp
      by_cases hne : b = id
      · subst hne
        have hr : r = true := by rw [← HV.out.2.2]; exact decide_eq_true (List.mem_of_getElem? HLT.out.2)
        subst hr
        have e1 : ((b : Int) == (b : Int)) = true := by simp
        clear HV
        go_wp2_with fail
        go_ret
        exact ⟨rfl, rfl⟩
      · have e1 : ((b : Int) == (id : Int)) = false := by rw [beq_eq_false_iff_ne]; omega
        have HNE := Lib.hid hne
        clear hne
        go_wp2_with fail
        go_roundg (n - (i + 1))
        case measure => have := HI.out; have := HLT.out; omega
        case rel =>
          refine ⟨i + 1, by have := HI.out; have := HLT.out; omega, by go_num, rfl, fun j hj => ?_⟩
          by_cases e : j = i
          · subst e; rw [HLT.out.2]; intro hc; injection hc with hc; exact HNE.out hc
          · exact HI.out.2 j (by omega)
    · have hr : r = false := by
        rw [← HV.out.2.2]
        refine decide_eq_false fun hm => ?_
        obtain ⟨j, hj⟩ := List.mem_iff_getElem?.1 hm
        have := (List.getElem?_eq_some_iff.1 hj).1
        exact hp j (by have := HV.out.2.1; omega) hj
      subst hr
      clear hi hp
      go_wp2_with fail
      go_ret
      exact ⟨rfl, rfl⟩
end Go.Proofs.YthnbgfnclpkdjaaGreat
