/- rank.Log. -/
import Derived.Lib.ItoaNum
import Derived.Test.YtkbaaonchdeneaaGreatPc5
import Derived.Test.YtkbaaonchdeneaaGreatPc9
set_option maxHeartbeats 400000
set_option maxRecDepth 100000
namespace Go.Proofs.YtkbaaonchdeneaaGreat
open Go.RowKit
theorem bitLen_eq (n:Nat) (h:n<2 ^ 64):Lib.bitLen n=BA n:=by
 unfold BA;split
 ·rename_i h0;subst h0;exact Lib.bitLenAux_zero 64
 ·rename_i h0
  have hb:=Lib.bitLenAux_bounds 64 n h h0;show Lib.bitLenAux 64 n=_
  obtain ⟨m,hm⟩:∃m,Lib.bitLenAux 64 n=m+1:=⟨Lib.bitLenAux 64 n - 1,by omega⟩;rw [hm] at hb |-;rw [Nat.add_sub_cancel] at hb;rw [(Nat.log2_eq_iff h0).2 ⟨hb.2.1,hb.2.2⟩]
theorem a6l (n:Nat) (w:World) (hn:n<4611686018427387904) :
 Calls Tryz.prog 16 #[n] w λe w'=>e=.returned (.int .i64 (lg n))/\w=w':=by
 by_cases h:n<2
 ·go_enter Tryz.func16,Tryz.ntmps16
  go_wp2_with fail
  go_ret
  have:lg n=0:=by
   unfold lg BA;rw [if_pos (by omega)]
  rw [this];exact ⟨rfl,rfl⟩
 ·go_enter Tryz.func16,Tryz.ntmps16
  go_wp2_with fail
  refine (Tryz.bits_Len _ _ (by omega) (by omega)).mono ?_
  rintro e w' ⟨rfl,rfl⟩;have e1:((n:Int) - 1).toNat=n - 1:=by omega
  have h64:(2:Nat) ^ 64=18446744073709551616:=by decide
  rw [e1,bitLen_eq _ (by rw [h64];omega)];go_wp2_with fail
  go_ret
  exact ⟨rfl,rfl⟩
