/- What cells.Area and cells.Rim tell, as chapter 26 asks for it. -/
import Derived.Test.YtkmnbodlciepaaaGreatPk39
import Derived.Test.YtkmnbodlciepaaaGreatPk26
namespace Go.Proofs.YtkmnbodlciepaaaGreat
open Go.RowKit
theorem areaN_lt {l:List Bx} (hb:∀b∈l,b.in64):areaN l<340282366920938463463374607431768211456:=by
 have h1:=areaN_R hb
 have h2:=areaR_le l (lo:=-9223372036854775808) (hi:=9223372036854775807) (by decide)
 have h3:((9223372036854775807:Int) - -9223372036854775808)*(9223372036854775807 - -9223372036854775808)=340282366920938463426481119284349108225:=by decide
 rw [h3] at h2
 omega
theorem rimN_lt {l:List Bx} (hb:∀b∈l,b.in64) (hl:l.length<1000000):rimN l<340282366920938463463374607431768211456:=by
 have hx:(sqz (linX l)).length≤2000000:=Nat.le_trans (sqz_len _) (by have:=linX_len l;omega)
 have hy:(sqz (linY l)).length≤2000000:=Nat.le_trans (sqz_len _) (by have:=linY_len l;omega)
 have:=rim_W (l:=l) (X:=sqz (linX l)) (Y:=sqz (linY l)) (fun x h=>linX_in hb x (sqz_mem h)) (fun x h=>linY_in hb x (sqz_mem h)) hx hy (sqz (linX l)).length 0 (Nat.le_refl _) (Nat.zero_le _)
 unfold W128 at this
 unfold rimN
 omega
theorem areaN_nil:areaN []=0:=by
 have e:∀l:List Int,l.length=0→sqz l = []:=fun l h=>List.eq_nil_of_length_eq_zero (by have:=sqz_len l;omega)
 unfold areaN
 rw [e (linX []) (by have:=linX_len [];simpa using this)]
 rfl
theorem ar26:AR areaN rimN:=
 ⟨fun v l w hs hl hb=>⟨areaC v l w hs hl hb,areaN_lt hb⟩,fun v l w hs hl hb=>⟨rimCC v l w hs hl hb,rimN_lt hb hl⟩,areaN_nil⟩
end Go.Proofs.YtkmnbodlciepaaaGreat
