/- A box, a number of 128 bits, in a variable. gridironlow.CopyBoxes. -/
import Derived.Test.YtkmnbodlciepaaaGreatProg
import Derived.WalkKit
import Derived.LoopTactic
import Derived.Deep.Cut
import Derived.Deep.LoopGhost
import Derived.IntWalk
import Derived.Deep.MidRow
import Derived.Test.YtkmnbodlciepaaaGreatPk6
import Derived.Test.YtkmnbodlciepaaaGreatPk24
import Derived.Test.YtkmnbodlciepaaaGreatPk3
namespace Go.Proofs.YtkmnbodlciepaaaGreat
open Go.RowKit
theorem upd_puts (p:Nat):∀(vs:List Value) (o:Nat) (w:World),Upd [p] w (w.setCells p o vs)
 | [],_,w=>Upd.refl _ _
 |v::r,o,w=>((Upd.refl [p] w).setCell (.inl (by simp)) v).trans (upd_puts p r (o+1) _)
end Go.Proofs.YtkmnbodlciepaaaGreat
