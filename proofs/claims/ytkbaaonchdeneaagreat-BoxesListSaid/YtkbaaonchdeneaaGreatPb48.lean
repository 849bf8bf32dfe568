/- A box, a number of 128 bits, in a variable. gridironlow.CopyBoxes. -/
import Derived.Deep.MidRow
import Derived.Test.YtkbaaonchdeneaaGreatPb13
import Derived.Test.YtkbaaonchdeneaaGreatPb45
namespace Go.Proofs.YtkbaaonchdeneaaGreat
open Go.RowKit
theorem Ui (p:Nat):∀(vs:List Value) (o:Nat) (w:World),Bf [p] w (w.setCells p o vs)
 | [],_,w=>Bf.refl _ _
 |v::r,o,w=>((Bf.refl [p] w).setCell (.inl (by simp)) v).trans (Ui p r (o+1) _)
