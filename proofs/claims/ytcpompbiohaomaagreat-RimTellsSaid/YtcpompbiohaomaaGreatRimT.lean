/- RimTells: the walk. -/
import Derived.Test.YtcpompbiohaomaaGreatRefRb
import Derived.Test.YtcpompbiohaomaaGreatAreaT
import Derived.Test.YtcpompbiohaomaaGreatRimW
import Derived.Test.YtcpompbiohaomaaGreatInclR
import Derived.Test.YtcpompbiohaomaaGreatAw18
namespace Go.Proofs.YtcpompbiohaomaaGreat
open Go.RowKit

theorem linY_tuI (l : List Bx) : linY (l.map tuI) = linY (l.map tuB) := by
  unfold linY
  induction l with
  | nil => rfl
  | cons b l ih =>
    have e : (tuI b).counts = (tuB b).counts := rfl
    rw [List.map_cons, List.map_cons, List.filter_cons, List.filter_cons, e]
    split
    · rw [List.flatMap_cons, List.flatMap_cons, ih]; rfl
    · exact ih

theorem entE_tuI (l : List Bx) : entE (l.map tuI) = entE (l.map tuB) := by
  unfold entE
  rw [linY_tuI, List.map_map, List.map_map]
  rfl

theorem ent_rim (l : List Bx) : (entE l : Int) + (entE (l.map tuI) : Int) = (rimE l : Int) := by
  rw [entE_tuI, entE_area, entE_area]
  unfold rimE areaE
  omega

set_option maxRecDepth 100000 in
set_option maxHeartbeats 4000000 in
theorem rimTells_walk (v : Value) (l : List Bx) (w : World) (hs : IsBxs w v l) (hin : ∀ b ∈ l, b.in64) :
    Calls Tryz.prog 4 #[v] w fun e w' => e = .returned (.bool true) ∧ Below w.heap.size w w' := by
  obtain ⟨A, C, rfl⟩ := hs.form
  by_cases h7 : l.length ≤ 7
  · obtain ⟨n, hn⟩ : ∃ n, l.length = n := ⟨_, rfl⟩
    obtain ⟨E, hE⟩ : ∃ E : Nat, rimE l = E := ⟨_, rfl⟩
    have hcp := copyBoxes (.slice A l.length C) l w hs (by omega)
    unfold CpPost at hcp
    have hw : wideZ (rimD l + rimD l) = wideV (rimA l).toNat := by
      have h := rimA_W hin (by omega)
      have hp := rimA_nonneg l
      have hc := cells_rim hin
      have e : rimD l + rimD l = ((rimA l).toNat : Int) := by unfold rimD; omega
      rw [e, wideZ_nat h]
    obtain ⟨hh, hlo, hv, -, -⟩ : ∃ h lo : Nat, wideV (rimA l).toNat = .agg #[.int .u64 (h : Int), .int .u64 (lo : Int)] ∧ h = (rimA l).toNat / 18446744073709551616 ∧ lo = (rimA l).toNat % 18446744073709551616 := ⟨_, _, rfl, rfl, rfl⟩
    have ha : ∀ W v, See KBx W v l → Calls Tryz.prog 11 #[v] W fun e w' => e = .returned (.tuple #[.agg #[.int .u64 (hh : Int), .int .u64 (hlo : Int)], .int .i64 (E : Int)]) ∧ Upd [] W w' := fun W v h => by
      have := rimAll v l W h (by omega) hin
      unfold RimPost at this
      rw [hE, hv] at this
      exact this
    have hr : ∀ W v, See KBx W v l → Calls Tryz.prog 12 #[v] W fun e w' => e = .returned (.tuple #[.agg #[.int .u64 (hh : Int), .int .u64 (hlo : Int)], .int .i64 (E : Int)]) ∧ Upd [] W w' := fun W v h => by
      have := rrimC v l W h (by omega) hin
      rw [ent_rim, hE, hw, hv] at this
      exact this
    have hbo : ∀ W v u, See KBx W v l → See KBx W u l → Calls Tryz.prog 9 #[v, u] W fun e w' => e = .returned (.bool true) ∧ Upd [] W w' := fun W v u h h' => boxesSame v u l W h h' (by omega)
    rw [hn] at hcp hs ⊢
    have d7 : decide ((7 : Int) < (n : Int)) = false := decide_eq_false (by omega)
    have HC := Lib.hid hcp
    have HA := Lib.hid ha
    have HR := Lib.hid hr
    have HBO := Lib.hid hbo
    have HS := Lib.hid (show See KBx w (.slice A n C) l from hs)
    have HWS := fun w => bwide_same (hh : Int) (hlo : Int) w
    have dE : ((E : Int) == (E : Int)) = true := by rw [beq_iff_eq]
    clear hcp ha hr hbo hs hn hE hw hv hin h7
    go_enter Tryz.func4, Tryz.ntmps4
    go_wp2_with fail
    (with_reducible refine (HC.out).mono ?_)
    rintro e w1 ⟨A1, C1, rfl, hr1, hu1⟩
    have HS1 := Lib.hid (See.of_row hr1)
    have HU1 := Lib.hid hu1
    clear hr1 hu1
    go_wp2_with fail
    (with_reducible refine (HA.out _ _ HS1.out).mono ?_)
    rintro e w2 ⟨rfl, hu2⟩
    have HN2 := Lib.hid (ZAt.new w2 (hh : Int) (hlo : Int))
    have HU2 := Lib.hid (show Upd [] w1 (w2.alloc (.cells #[.int .u64 (hh : Int), .int .u64 (hlo : Int)] 27)) from hu2.alloc _)
    clear hu2
    go_upto_region 5 with fail
    generalize w2.alloc (.cells #[.int .u64 (hh : Int), .int .u64 (hlo : Int)] 27) = Wa at HN2 HU2 ⊢
    generalize w2.heap.size = qa at HN2 ⊢
    go_wp2_with fail
    (with_reducible refine (HR.out _ _ (HS.out.upd0 (HU1.out.trans HU2.out))).mono ?_)
    rintro e w3 ⟨rfl, hu3⟩
    have HN3 := Lib.hid (ZAt.new w3 (hh : Int) (hlo : Int))
    have HU3 := Lib.hid (show Upd [] Wa (w3.alloc (.cells #[.int .u64 (hh : Int), .int .u64 (hlo : Int)] 27)) from hu3.alloc _)
    clear hu3
    go_upto_region 6 with fail
    generalize w3.alloc (.cells #[.int .u64 (hh : Int), .int .u64 (hlo : Int)] 27) = Wb at HN3 HU3 ⊢
    generalize w3.heap.size = qb at HN3 ⊢
    obtain ⟨a0, a1, -⟩ := (HN2.out.upd HU3.out (by simp)).cells
    obtain ⟨b0, b1, -⟩ := HN3.out.cells
    have HU4 := Lib.hid (HU2.out.trans HU3.out)
    go_wp2_with fail
    (with_reducible refine (HBO.out _ _ _ (HS1.out.upd0 HU4.out) (HS.out.upd0 (HU1.out.trans HU4.out))).mono ?_)
    rintro e w5 ⟨rfl, hu5⟩
    have HU5 := Lib.hid (HU4.out.trans hu5)
    clear hu5 a0 a1 b0 b1
    go_wp2_with fail
    (with_reducible refine (awake18 _).mono ?_)
    rintro e w6 ⟨rfl, hu6⟩
    have HU6 := Lib.hid (HU1.out.trans (HU5.out.trans hu6))
    clear hu6
    go_wp2_with fail
    go_ret
    exact ⟨rfl, HU6.out.below⟩
  · have d7 : decide ((7 : Int) < (l.length : Int)) = true := decide_eq_true (by omega)
    clear hs hin h7
    go_enter Tryz.func4, Tryz.ntmps4
    go_wp2_with fail
    (with_reducible refine (awake18 _).mono ?_)
    rintro e w1 ⟨rfl, hu1⟩
    have HU1 := Lib.hid hu1
    clear hu1
    go_wp2_with fail
    go_ret
    exact ⟨rfl, HU1.out.below⟩
end Go.Proofs.YtcpompbiohaomaaGreat
