/- cells.Rim: its two function values. -/
import Derived.Test.YthkiljfjjnckaaaAreaC
namespace Go.Proofs.Ythkiljfjjnckaaa
open Go.RowKit

/-- Is the block there, and covered? -/
def isR (ll : List (List Bool)) (i k : Int) : Bool := if 0 ≤ i then (if 0 ≤ k then ((ll[i.toNat]?.getD [])[k.toNat]?).getD false else false) else false

theorem SeeRows.len_le {w : World} {A : Option Addr} {n C : Nat} {ll : List (List Bool)} (h : SeeRows w (.slice A n C) ll) : ll.length = n := by
  obtain ⟨A', C', e⟩ := h.form
  injection e with _ e _
  exact e.symm

set_option maxRecDepth 100000 in
set_option maxHeartbeats 1000000 in
theorem isFn (vc : Value) (ll : List (List Bool)) (pc : Nat) (i k : Int) (w : World) (cc : w.cell? ⟨pc, 0, none⟩ = some vc) (hr : SeeRows w vc ll) :
    Calls Try.prog 74 #[.int .i64 i, .int .i64 k, .pointer (some ⟨pc, 0, none⟩)] w fun e w' => e = .returned (.bool (isR ll i k)) ∧ Upd [] w w' := by
  obtain ⟨A, C, rfl⟩ := hr.form
  by_cases hi : 0 ≤ i
  · have d1 : decide (0 ≤ i) = true := decide_eq_true hi
    by_cases hk : 0 ≤ k
    · have d2 : decide (0 ≤ k) = true := decide_eq_true hk
      obtain ⟨a, rfl⟩ := Int.eq_ofNat_of_zero_le hi
      obtain ⟨b, rfl⟩ := Int.eq_ofNat_of_zero_le hk
      by_cases ha : a < ll.length
      · have d3 : decide (a < ll.length) = true := decide_eq_true ha
        have d3' : (a : Int) < (ll.length : Int) := by omega
        obtain ⟨r, hr'⟩ : ∃ r, ll[a]? = some r := ⟨_, List.getElem?_eq_getElem ha⟩
        obtain ⟨gb, go, Ak, Ck, hA, crow, hrow⟩ := hr.at hr'
        subst hA
        by_cases hb : b < r.length
        · have d4 : decide (b < r.length) = true := decide_eq_true hb
          have d4' : (b : Int) < (r.length : Int) := by omega
          obtain ⟨c, hc⟩ : ∃ c, r[b]? = some c := ⟨_, List.getElem?_eq_getElem hb⟩
          obtain ⟨gk, gko, hAk, cb⟩ := KBat hrow hc
          subst hAk
          have e : isR ll (a : Int) (b : Int) = c := by
            unfold isR
            rw [if_pos hi, if_pos hk]
            simp [hr', hc]
          rw [e]
          clear e hr' hr hrow hc ha hb
          go_enter Try.func74, Try.ntmps74
          go_wp2_with fail
          go_ret
          exact ⟨rfl, Upd.refl _ _⟩
        · have d4 : decide (b < r.length) = false := decide_eq_false hb
          have e : isR ll (a : Int) (b : Int) = false := by
            unfold isR
            rw [if_pos hi, if_pos hk]
            simp [hr', List.getElem?_eq_none (Nat.le_of_not_lt hb)]
          rw [e]
          clear e hr' hr hrow ha hb
          go_enter Try.func74, Try.ntmps74
          go_wp2_with fail
          go_ret
          exact ⟨rfl, Upd.refl _ _⟩
      · have d3 : decide (a < ll.length) = false := decide_eq_false ha
        have e : isR ll (a : Int) (b : Int) = false := by
          unfold isR
          rw [if_pos hi, if_pos hk]
          simp [List.getElem?_eq_none (Nat.le_of_not_lt ha)]
        rw [e]
        clear e hr ha
        go_enter Try.func74, Try.ntmps74
        go_wp2_with fail
        go_ret
        exact ⟨rfl, Upd.refl _ _⟩
    · have d2 : decide (0 ≤ k) = false := decide_eq_false hk
      have e : isR ll i k = false := by unfold isR; rw [if_pos hi, if_neg hk]
      rw [e]
      clear e hr hk
      go_enter Try.func74, Try.ntmps74
      go_wp2_with fail
      go_ret
      exact ⟨rfl, Upd.refl _ _⟩
  · have d1 : decide (0 ≤ i) = false := decide_eq_false hi
    have e : isR ll i k = false := by unfold isR; rw [if_neg hi]
    rw [e]
    clear e hr hi
    go_enter Try.func74, Try.ntmps74
    go_wp2_with fail
    go_ret
    exact ⟨rfl, Upd.refl _ _⟩

theorem keep2 {w w' : World} {a1 a2 : Addr} {v1 v2 : Value} (h : w.cell? a1 = some v1 ∧ w.cell? a2 = some v2) (hu : Upd [] w w') : w'.cell? a1 = some v1 ∧ w'.cell? a2 = some v2 := by
  have e : ∀ {a : Addr} {v : Value}, w.cell? a = some v → w'.cell? a = some v := fun {a v} ha => (hu.cell (World.block_lt_of_cell? w _ ha) (by simp)).trans ha
  exact ⟨e h.1, e h.2⟩

/-- What more leaves. -/
def MorePost (w : World) (p n : Nat) (e : Ending) (w' : World) : Prop := e = .returned (.tuple #[]) ∧ SumAt w' p n ∧ Upd [p] w w'

set_option maxRecDepth 100000 in
set_option maxHeartbeats 2000000 in
theorem moreFn (p N M : Nat) (w : World) (hM : M < 18446744073709551616) (hs : SumAt w p N) (hW : W128 (N + M)) :
    Calls Try.prog 75 #[.int .u64 (M : Int), .pointer (some ⟨p, 0, none⟩)] w (MorePost w p (N + M)) := by
  unfold MorePost
  have hof := fun w => wOfC M hM w
  have had := fun w => wAddC N M hW w
  obtain ⟨h, hh⟩ : ∃ h, N / 18446744073709551616 = h := ⟨_, rfl⟩
  obtain ⟨lo, hlo⟩ : ∃ lo, N % 18446744073709551616 = lo := ⟨_, rfl⟩
  obtain ⟨h2, hh2⟩ : ∃ h, (N + M) / 18446744073709551616 = h := ⟨_, rfl⟩
  obtain ⟨lo2, hlo2⟩ : ∃ lo, (N + M) % 18446744073709551616 = lo := ⟨_, rfl⟩
  obtain ⟨mh, hmh⟩ : ∃ h, M / 18446744073709551616 = h := ⟨_, rfl⟩
  obtain ⟨ml, hml2⟩ : ∃ lo, M % 18446744073709551616 = lo := ⟨_, rfl⟩
  unfold wideV at had hof
  simp only [hh, hlo, hh2, hlo2, hmh, hml2] at had hof
  obtain ⟨s0, s1, -⟩ := hs.cells
  rw [hh] at s0
  rw [hlo] at s1
  have HNEW := Lib.hid (And.intro hh2 hlo2)
  have HOF := Lib.hid hof
  have HADD := Lib.hid had
  have HSUM := Lib.hid hs
  have HC2 := Lib.hid (show w.drew.cell? ⟨p, 0, none⟩ = some (.int .u64 (h : Int)) ∧ w.drew.cell? ⟨p, 1, none⟩ = some (.int .u64 (lo : Int)) from ⟨s0, s1⟩)
  clear hof had hh hlo hh2 hlo2 hmh hml2 s0 s1 hs hM hW
  go_enter Try.func75, Try.ntmps75
  go_wp2_with fail
  -- region 0: T waits for all loads; fuel 3
  refine GoT.start [3, 4, 5, 6, 7] (fun w' => w'.cell? ⟨p, 0, none⟩ = some (.int .u64 h) ∧ w'.cell? ⟨p, 1, none⟩ = some (.int .u64 lo)) (by kernel_rfl) ?_ fun hS => ?_
  · exact HC2.out
  refine' GoT.take 3 (i := 0) (oi := ⟨some 4, _, _, _, _, _⟩) (v := _) rfl (by kernel_rfl) (by kernel_rfl) (by kernel_rfl) (by kernel_rfl) (fun _ _ _ h => h) (Or.inl ⟨by rfl, ?y0_0⟩) (by assumption) ?r0_0
  case y0_0 => intro w hSw; go_simp <;> with_reducible rfl
  simp only [Act.put, List.setIfInBounds_toArray, List.set_cons_zero, List.set_cons_succ]
  refine' GoT.move (i := 1) (oi := ⟨some 5, _, _, _, _, _⟩) (v := _) rfl (by kernel_rfl) (by kernel_rfl) (by kernel_rfl) (fun _ _ _ h => h) (Or.inl ⟨by rfl, ?y0_1⟩) ?r0_1
  case y0_1 => intro w; go_simp <;> with_reducible rfl
  simp only [Act.put, List.setIfInBounds_toArray, List.set_cons_zero, List.set_cons_succ]
  -- 2: Go.Op.call { callee := Go.Callee.value (Go.Operand.func 63), args := #[Go.Operand.tmp 5], argTypes := #[40] }
  refine GoT.one (i := 2) (o := ⟨some 6, _, _, _, _, _⟩) rfl (by kernel_rfl) fun K hK => ?_
  go_simp
  go_at_call 63
  (with_reducible refine (HOF.out _).mono ?_)
  rintro e w5 ⟨rfl, hu5⟩
  refine hK.out _ _ (fun _ h => ?_) ?_
  · exact keep2 h hu5
  clear hK K
  try simp only [Act.put, List.setIfInBounds_toArray, List.set_cons_zero, List.set_cons_succ]
  have HU5 := Lib.hid hu5
  clear hu5
  -- 3: Go.Op.call { callee := Go.Callee.value (Go.Operand.func 71), args := #[Go.Operand.tmp 4, Go.Operand.tmp 6], argTypes := #[71, 71] }
  refine GoT.one (i := 3) (o := ⟨some 7, _, _, _, _, _⟩) rfl (by kernel_rfl) fun K hK => ?_
  go_simp
  go_at_call 71
  (with_reducible refine (HADD.out _).mono ?_)
  rintro e w6 ⟨rfl, hu6⟩
  refine hK.out _ _ (fun h => (by cases h)) ?_
  clear hK K
  try simp only [Act.put, List.setIfInBounds_toArray, List.set_cons_zero, List.set_cons_succ]
  have HU6 := Lib.hid (HU5.out.trans hu6)
  have hsm := (HSUM.out.upd0 ((Upd.refl [] w).drew)).upd0 HU6.out
  obtain ⟨z0, z1, zf⟩ := hsm.cells
  have zf0 := zf 0
  have zf1 := zf 1
  have HS6 := Lib.hid hsm
  clear hu6 zf hsm
  refine' GoT.move (i := 4) (oi := ⟨some 3, _, _, _, _, _⟩) (v := _) rfl (by kernel_rfl) (by kernel_rfl) (by kernel_rfl) (fun _ _ _ h => h) (Or.inl ⟨by rfl, ?y0_4⟩) ?r0_4
  case y0_4 => intro w; go_simp <;> with_reducible rfl
  simp only [Act.put, List.setIfInBounds_toArray, List.set_cons_zero, List.set_cons_succ]
  refine' GoT.move (i := 5) (oi := ⟨some 8, _, _, _, _, _⟩) (v := _) rfl (by kernel_rfl) (by kernel_rfl) (by kernel_rfl) (fun _ _ _ h => h) (Or.inl ⟨by rfl, ?y0_5⟩) ?r0_5
  case y0_5 => intro w; go_simp <;> with_reducible rfl
  simp only [Act.put, List.setIfInBounds_toArray, List.set_cons_zero, List.set_cons_succ]
  refine' GoT.move (i := 6) (oi := ⟨some 9, _, _, _, _, _⟩) (v := _) rfl (by kernel_rfl) (by kernel_rfl) (by kernel_rfl) (fun _ _ _ h => h) (Or.inl ⟨by rfl, ?y0_6⟩) ?r0_6
  case y0_6 => intro w; go_simp <;> with_reducible rfl
  simp only [Act.put, List.setIfInBounds_toArray, List.set_cons_zero, List.set_cons_succ]
  -- 7: Go.Op.store 71 (Go.Operand.tmp 1) (Go.Operand.tmp 8)
  refine GoT.one (i := 7) (o := ⟨none, _, _, _, _, _⟩) rfl (by kernel_rfl) fun K hK => ?_
  go_simp
  refine hK.out _ _ (fun h => (by cases h)) ?_
  clear hK K
  try simp only [Act.put, List.setIfInBounds_toArray, List.set_cons_zero, List.set_cons_succ]
  refine GoT.done (by kernel_rfl) ?_
  have HSN := Lib.hid (HS6.out.set HNEW.out.1.symm HNEW.out.2.symm)
  clear z0 z1 zf0 zf1
  go_wp2_with fail
  go_end0
  exact ⟨rfl, HSN.out, (((((Upd.refl [p] w).drew).trans (HU6.out.mono (by simp))).setCell (p := ⟨p, 0, none⟩) (.inl (by simp)) _).setCell (p := ⟨p, 1, none⟩) (.inl (by simp)) _)⟩

end Go.Proofs.Ythkiljfjjnckaaa

