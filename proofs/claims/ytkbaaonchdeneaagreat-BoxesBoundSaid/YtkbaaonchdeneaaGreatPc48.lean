/- A box, a number of 128 bits, in a variable. gridironlow.CopyBoxes. -/
import Derived.Deep.MidRow
import Derived.Test.YtkbaaonchdeneaaGreatPc14
import Derived.Test.YtkbaaonchdeneaaGreatPc46
namespace Go.Proofs.YtkbaaonchdeneaaGreat
open Go.RowKit
theorem Zh (p:Nat):∀(vs:List Value) (o:Nat) (w:World),Bj [p] w (w.setCells p o vs)
 | [],_,w=>Bj.refl _ _
 |v::r,o,w=>((Bj.refl [p] w).setCell (.inl (by simp)) v).trans (Zh p r (o+1) _)
