/- A region that draws its order and only reads, whose callees write nothing that was there (but may make memory): walked once. No program. -/
import Derived.BigQuiet
import Derived.WalkKit
import Derived.Test.YtkbaaonchdeneaaGreatPk1
namespace Go.Proofs.YtkbaaonchdeneaaGreat
open Go.RowKit
structure QW (W:World) where
 w:World
 up:Upd [] W w
instance (W:World):Nonempty (QW W):=⟨⟨W,Upd.refl _ _⟩⟩
theorem wp_region_quietU {P:Program} {id:Nat} {Q:Exit→Act→World→Prop} {a:Act} {w:World} {l:List Oper} (hm:P.follows .mixedOrders=true) (hB:Region.lexB .any l.toArray=true)
 (h:wpQuiet P l.toArray (fun w'=>∃x:QW w,w'=x.w) (fun a'=>∀w',(∃x:QW w,w'=x.w)→Q .normal a' w') l a):(Code.region id l.toArray true).wp P Q a w:=
 wp_region_quiet (C:=fun w'=>∃x:QW w,w'=x.w) hm hB ⟨⟨w.drewN 1,(Upd.refl _ _).drewN 1⟩,rfl⟩ (by simpa using h)
theorem Calls.quietU {P:Program} {f:FuncId} {args:Array Value} {w:World} {x:QW w} {v:Value}
 (h:Calls P f args x.w fun e w'=>e=.returned v∧Upd [] x.w w'):Calls P f args x.w fun e w''=>e=.returned v∧∃y:QW w,w''=y.w:=
 h.mono fun _ _ ⟨he,hu⟩=>⟨he,⟨⟨_,x.up.trans hu⟩,rfl⟩⟩
end Go.Proofs.YtkbaaonchdeneaaGreat
