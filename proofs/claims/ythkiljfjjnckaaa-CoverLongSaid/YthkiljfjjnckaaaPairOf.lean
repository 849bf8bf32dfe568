/- Pair.of: two marks by two numbers. -/
import Derived.Test.YthkiljfjjnckaaaWhole
namespace Go.Proofs.Ythkiljfjjnckaaa
open Go.RowKit
attribute [local go_sem ↓] Go.wp_at_zero Go.wp_at_succ

theorem u16_nat {x : Int} (h : (Lit.int .u16 x).wf = true) : ∃ n : Nat, x = (n : Int) ∧ n < 65536 := by
  simp [Lit.wf, IntKind.min, IntKind.max, IntKind.signed, IntKind.bits] at h
  exact ⟨x.toNat, by omega, by omega⟩

/-- The two places. -/
def pairP (M : List Int) (a b : Nat) : Nat × Nat := (min (a % M.length) (b % M.length), max (a % M.length) (b % M.length))

theorem pairP_in {M : List Int} (a b : Nat) (h : 0 < M.length) : (pairP M a b).1 ≤ (pairP M a b).2 ∧ (pairP M a b).2 < M.length := by
  unfold pairP
  have h1 := Nat.mod_lt a h
  have h2 := Nat.mod_lt b h
  dsimp only
  omega

def ofPost (w : World) (M : List Int) (s : Nat × Nat) (e : Ending) (w' : World) : Prop :=
  e = .returned (.tuple #[.int .i64 (mf M s.1), .int .i64 (mf M s.2)]) ∧ Upd [] w w'

set_option maxRecDepth 100000 in
set_option maxHeartbeats 2000000 in
theorem pairOf (v : Value) (M : List Int) (a b : Nat) (w : World) (hs : See KL w v M) (h0 : 0 < M.length) (hl : M.length < 400000) (ha : a < 65536) (hb : b < 65536) :
    Calls Try.prog 30 #[.agg #[.int .u16 (a : Int), .int .u16 (b : Int)], v] w (ofPost w M (pairP M a b)) := by
  obtain ⟨A, C, rfl⟩ := hs.form
  have hi := Nat.mod_lt a h0
  have hj := Nat.mod_lt b h0
  unfold ofPost pairP
  obtain ⟨n, hn⟩ : ∃ n, M.length = n := ⟨_, rfl⟩
  obtain ⟨i, hi2⟩ : ∃ i, a % M.length = i := ⟨_, rfl⟩
  obtain ⟨j, hj2⟩ : ∃ j, b % M.length = j := ⟨_, rfl⟩
  rw [hi2] at hi ⊢
  rw [hj2] at hj ⊢
  obtain ⟨x, hx⟩ : ∃ x, min i j = x := ⟨_, rfl⟩
  obtain ⟨y, hy⟩ : ∃ y, max i j = y := ⟨_, rfl⟩
  rw [hx, hy]
  dsimp only
  have hu1 : Upd [] w (w.alloc (.cells #[.int .u16 (a : Int), .int .u16 (b : Int)] 57)) := (Upd.refl _ _).alloc _
  have hu2 : Upd [] w ((w.alloc (.cells #[.int .u16 (a : Int), .int .u16 (b : Int)] 57)).drewN 1) := hu1.drewN 1
  obtain ⟨g, o, hA, -, -, hcx⟩ := KL.at (hs.upd0 hu1) (mf_get (M := M) (i := x) (by omega))
  obtain ⟨g', o', hA', -, -, hcy⟩ := KL.at (hs.upd0 hu1) (mf_get (M := M) (i := y) (by omega))
  subst hA
  cases hA'
  obtain ⟨X, hX⟩ : ∃ X, mf M x = X := ⟨_, rfl⟩
  obtain ⟨Y, hY⟩ : ∃ Y, mf M y = Y := ⟨_, rfl⟩
  rw [hX] at hcx ⊢
  rw [hY] at hcy ⊢
  have ta : ((a : Int)).tmod (n : Int) = (i : Int) := by rw [← hi2, hn]; rfl
  have tb : ((b : Int)).tmod (n : Int) = (j : Int) := by rw [← hj2, hn]; rfl
  have wa : IntKind.i64.wrap (a : Int) = (a : Int) := IntWalk.i64_in _ ⟨by omega, by omega⟩
  have wb : IntKind.i64.wrap (b : Int) = (b : Int) := IntWalk.i64_in _ ⟨by omega, by omega⟩
  have wi : IntKind.i64.wrap (i : Int) = (i : Int) := IntWalk.i64_in _ ⟨by omega, by omega⟩
  have wj : IntKind.i64.wrap (j : Int) = (j : Int) := IntWalk.i64_in _ ⟨by omega, by omega⟩
  have nz : ((n : Int) == 0) = false := by simp; omega
  have nz2 : ¬ (n : Int) = 0 := by omega
  have nz3 : ¬ n = 0 := by omega
  have hmn : (if j < i then (j : Int) else (i : Int)) = (x : Int) := by split <;> omega
  have hmx : (if i < j then (j : Int) else (i : Int)) = (y : Int) := by split <;> omega
  have x0 : (0 : Int) ≤ (x : Int) := Int.natCast_nonneg _
  have y0 : (0 : Int) ≤ (y : Int) := Int.natCast_nonneg _
  have x1 : (x : Int) < (n : Int) := by omega
  have y1 : (y : Int) < (n : Int) := by omega
  have hcc : ∀ k, k < 2 → (w.alloc (.cells #[.int .u16 (a : Int), .int .u16 (b : Int)] 57)).cell? ⟨w.heap.size, k, none⟩ = #[Value.int .u16 (a : Int), .int .u16 (b : Int)][k]? := fun k _ => World.cell?_alloc_at _ _ _ _ rfl
  have c0 := hcc 0 (by omega)
  have c1 := hcc 1 (by omega)
  simp only [List.getElem?_toArray, List.getElem?_cons_zero, List.getElem?_cons_succ] at c0 c1
  rw [hn]
  have HU := Lib.hid hu1
  clear hcc hu1 hu2 hx hy hi hj hi2 hj2 hn hX hY hs h0 hl ha hb
  go_enter Try.func30, Try.ntmps30
  go_upto_region 1 with fail
  generalize (w.alloc (.cells #[.int .u16 (a : Int), .int .u16 (b : Int)] 57)) = W at hcx hcy c0 c1 HU ⊢
  go_quiet (fail)
  clear ta tb wa wb wi wj nz nz2 nz3 c0 c1
  go_wp2_with fail
  go_quiet (fail)
  go_wp2_with fail
  go_ret2
  exact ⟨rfl, (HU.out.drewN _).drewN _⟩
end Go.Proofs.Ythkiljfjjnckaaa
