/- rank.Log. -/
import Derived.Test.YtjpjlfcjkgmhdaaCovE
import Derived.Test.YtjpjlfcjkgmhdaaShelf
import Derived.Lib.ItoaNum
import Derived.WalkKit
namespace Go.Proofs.Ytjpjlfcjkgmhdaa
open Go.RowKit

theorem bitLen_eq (n : Nat) (h : n < 2 ^ 64) : Lib.bitLen n = bitsN n := by
  unfold bitsN
  split
  · rename_i h0; subst h0; exact Lib.bitLenAux_zero 64
  · rename_i h0
    have hb := Lib.bitLenAux_bounds 64 n h h0
    show Lib.bitLenAux 64 n = _
    obtain ⟨m, hm⟩ : ∃ m, Lib.bitLenAux 64 n = m + 1 := ⟨Lib.bitLenAux 64 n - 1, by omega⟩
    rw [hm] at hb ⊢
    rw [Nat.add_sub_cancel] at hb
    rw [(Nat.log2_eq_iff h0).2 ⟨hb.2.1, hb.2.2⟩]

set_option maxRecDepth 100000 in
set_option maxHeartbeats 400000 in
theorem logC (n : Nat) (w : World) (hn : n < 4611686018427387904) :
    Calls Try.prog 19 #[.int .i64 n] w fun e w' => e = .returned (.int .i64 (lg n)) ∧ w = w' := by
  by_cases h : n < 2
  · go_enter Try.func19, Try.ntmps19
    go_wp2_with fail
    go_ret
    have : lg n = 0 := by
      unfold lg bitsN
      rw [if_pos (by omega)]
    rw [this]
    exact ⟨rfl, rfl⟩
  · go_enter Try.func19, Try.ntmps19
    go_wp2_with fail
    refine (Try.bits_Len _ _ (by omega) (by omega)).mono ?_
    rintro e w' ⟨rfl, rfl⟩
    have e1 : ((n : Int) - 1).toNat = n - 1 := by omega
    have h64 : (2 : Nat) ^ 64 = 18446744073709551616 := by decide
    rw [e1, bitLen_eq _ (by rw [h64]; omega)]
    go_wp2_with fail
    go_ret
    exact ⟨rfl, rfl⟩
end Go.Proofs.Ytjpjlfcjkgmhdaa
