/- wide: Of, Add, Mul: numbers of 128 bits. -/
import Derived.Test.YthnbgfnclpkdjaaGreatBase
import Derived.Test.YthnbgfnclpkdjaaGreatProg
import Derived.Shelf.Bits.Mul64
import Derived.Shelf.Spec.BitsCarry
import Derived.IntWalk
namespace Go.Proofs.YthnbgfnclpkdjaaGreat
open Go.RowKit Go.Shelf

def ren264 : Go.Shelf.Ren := ⟨fun | 264 => 116 | n => n, fun | 53 => 30 | 46 => 218 | n => n, fun | n => n⟩
theorem lay264 : Go.Proofs.Lays.n264 Tryz.prog ren264 := {
  mixed := by kernel_rfl
  f264 := Tryz.func116.trans (congrArg some (by kernel_rfl))
  t46 := Tryz.underlying218
  a46 := Tryz.isAgg218
  z46 := Tryz.sizeOf218
  v46 := Tryz.zeroValue218
  t53 := Tryz.underlying30
  a53 := Tryz.isAgg30
  z53 := Tryz.sizeOf30
  v53 := Tryz.zeroValue30 }
theorem mul64 (x y : Nat) (hx : x < 18446744073709551616) (hy : y < 18446744073709551616) (w : World) :
    Calls Tryz.prog 116 #[.int .u64 x, .int .u64 y] w fun e w' => e = .returned (.tuple #[.int .u64 ((x * y / 18446744073709551616 : Nat) : Int), .int .u64 ((x * y % 18446744073709551616 : Nat) : Int)]) ∧ w' = w := Any.bits_Mul64 lay264 x y hx hy w

def ren25 : Go.Shelf.Ren := ⟨fun | 25 => 115 | n => n, fun | 22 => 30 | n => n, fun | n => n⟩
theorem lay25 : Go.Proofs.Lays7.n25 Tryz.prog ren25 := {
  mixed := by kernel_rfl
  f25 := Tryz.func115.trans (congrArg some (by kernel_rfl))
  t22 := Tryz.underlying30
  a22 := Tryz.isAgg30
  z22 := Tryz.sizeOf30
  v22 := Tryz.zeroValue30
  i22 := by kernel_rfl }

theorem add64 (x y c : Int) (hx : 0 ≤ x) (hy : 0 ≤ y) (hc0 : 0 ≤ c) (hc : c ≤ 1) (w : World) : (callFunc 115 #[.int .u64 x, .int .u64 y, .int .u64 c]).run Tryz.prog w =
    .ok (.value (.tuple #[.int .u64 ((x + y + c) % 18446744073709551616), .int .u64 ((x + y + c) / 18446744073709551616)])) w := by
  obtain ⟨x, rfl⟩ := Int.eq_ofNat_of_zero_le hx
  obtain ⟨y, rfl⟩ := Int.eq_ofNat_of_zero_le hy
  obtain ⟨c, rfl⟩ := Int.eq_ofNat_of_zero_le hc0
  refine (Any7.bits_Add64 lay25 x y c (by omega) w).trans ?_
  congr 5 <;> omega

theorem add64_0 (x y : Int) (hx : 0 ≤ x) (hy : 0 ≤ y) (w : World) : (callFunc 115 #[.int .u64 x, .int .u64 y, .int .u64 0]).run Tryz.prog w =
    .ok (.value (.tuple #[.int .u64 ((x + y) % 18446744073709551616), .int .u64 ((x + y) / 18446744073709551616)])) w := by
  simpa using add64 x y 0 hx hy (Int.le_refl 0) (by decide) w

/-- A number of 128 bits. -/
def wideV (n : Nat) : Value := .agg #[.int .u64 ((n / 18446744073709551616 : Nat) : Int), .int .u64 ((n % 18446744073709551616 : Nat) : Int)]
/-- It has no more than these. -/
def W128 (n : Nat) : Prop := n / 18446744073709551616 < 18446744073709551616

theorem W128.mono {m n : Nat} (h : W128 n) (hm : m ≤ n) : W128 m := Nat.lt_of_le_of_lt (Nat.div_le_div_right hm) h

set_option maxRecDepth 100000 in
theorem wOfC (n : Nat) (hn : n < 18446744073709551616) (w : World) : Calls Tryz.prog 33 #[.int .u64 (n : Int)] w fun e w' => e = .returned (wideV n) ∧ Upd [] w w' := by
  have e : wideV n = .agg #[.int .u64 0, .int .u64 (n : Int)] := by
    unfold wideV
    rw [Nat.div_eq_of_lt hn, Nat.mod_eq_of_lt hn]; rfl
  rw [e]
  clear e hn
  go_enter Tryz.func33, Tryz.ntmps33
  go_wp2_with fail
  exact bodyPost_ret (v := .agg #[.int .u64 0, .int .u64 (n : Int)]) (by simp [results, Tryz.results33, go_sem]) rfl ⟨rfl, (Upd.refl _ _).alloc _⟩

set_option maxRecDepth 100000 in
set_option maxHeartbeats 400000 in
theorem wMulC (x y : Nat) (hx : x < 18446744073709551616) (hy : y < 18446744073709551616) (w : World) : Calls Tryz.prog 56 #[.int .u64 (x : Int), .int .u64 (y : Int)] w fun e w' => e = .returned (wideV (x * y)) ∧ Upd [] w w' := by
  have hm := fun w => mul64 x y hx hy w
  unfold wideV
  obtain ⟨h, hh⟩ : ∃ h, x * y / 18446744073709551616 = h := ⟨_, rfl⟩
  obtain ⟨l, hl⟩ : ∃ l, x * y % 18446744073709551616 = l := ⟨_, rfl⟩
  simp only [hh, hl] at hm
  rw [hh, hl]
  have HM := Lib.hid hm
  clear hm hh hl hx hy
  go_enter Tryz.func56, Tryz.ntmps56
  go_wp2_with fail
  (with_reducible refine (HM.out _).mono ?_)
  rintro e w' ⟨rfl, rfl⟩
  go_wp2_with fail
  exact bodyPost_ret (v := .agg #[.int .u64 (h : Int), .int .u64 (l : Int)]) (by simp [results, Tryz.results56, go_sem]) rfl ⟨rfl, (Upd.refl _ _).alloc _⟩

set_option maxRecDepth 100000 in
set_option maxHeartbeats 1000000 in
theorem addHL (ah al bh bl h l : Int) (h1 : 0 ≤ ah) (h2 : 0 ≤ al) (h3 : 0 ≤ bh) (h4 : 0 ≤ bl) (h2' : al < 18446744073709551616) (h4' : bl < 18446744073709551616) (hh : ah + bh + (al + bl) / 18446744073709551616 = h) (hb : h < 18446744073709551616) (hl : (al + bl) % 18446744073709551616 = l) (w : World) :
    Calls Tryz.prog 55 #[.agg #[.int .u64 ah, .int .u64 al], .agg #[.int .u64 bh, .int .u64 bl]] w fun e w' => e = .returned (.tuple #[.agg #[.int .u64 h, .int .u64 l], .bool true]) ∧ Upd [] w w' := by
  have k0 : 0 ≤ (al + bl) / 18446744073709551616 := by omega
  have k1 : (al + bl) / 18446744073709551616 ≤ 1 := by omega
  obtain ⟨c, hc⟩ : ∃ c, (al + bl) / 18446744073709551616 = c := ⟨_, rfl⟩
  have a1 : ∀ w, (callFunc 115 #[.int .u64 al, .int .u64 bl, .int .u64 0]).run Tryz.prog w = .ok (.value (.tuple #[.int .u64 l, .int .u64 c])) w := fun w => by
    rw [add64_0 al bl h2 h4 w, hl, hc]
  rw [hc] at k0 k1 hh
  have a2 : ∀ w, (callFunc 115 #[.int .u64 ah, .int .u64 bh, .int .u64 c]).run Tryz.prog w = .ok (.value (.tuple #[.int .u64 h, .int .u64 0])) w := fun w => by
    rw [add64 ah bh c h1 h3 k0 k1 w, hh]
    have e1 : h % 18446744073709551616 = h := Int.emod_eq_of_lt (by omega) hb
    have e2 : h / 18446744073709551616 = 0 := Int.ediv_eq_zero_of_lt (by omega) hb
    rw [e1, e2]
  clear h1 h2 h3 h4 h2' h4' hh hb hl hc k0 k1
  go_enter Tryz.func55, Tryz.ntmps55
  go_wp2_with (first | simp only [a1] | simp only [a2])
  exact bodyPost_ret (v := .tuple #[.agg #[.int .u64 h, .int .u64 l], .bool true]) (by simp [results, Tryz.results55, go_sem]) rfl ⟨rfl, (((Upd.refl _ _).alloc _).alloc _).alloc _⟩

theorem wAddC (a b : Nat) (h : W128 (a + b)) (w : World) : Calls Tryz.prog 55 #[wideV a, wideV b] w fun e w' => e = .returned (.tuple #[wideV (a + b), .bool true]) ∧ Upd [] w w' := by
  unfold W128 at h
  unfold wideV
  exact addHL _ _ _ _ _ _ (by omega) (by omega) (by omega) (by omega) (by omega) (by omega) (by omega) (by omega) (by omega) w
end Go.Proofs.YthnbgfnclpkdjaaGreat
