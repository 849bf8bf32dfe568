/- cover.move: a span is held once more, or less. -/
import Derived.IntWalk
import Derived.Test.YtkmnbodlciepaaaGreatRows
import Derived.Maps.OwnSet
import Derived.WideKeyEntry
import Derived.DeepKeys4
import Derived.Test.YtkmnbodlciepaaaGreatPk46
import Derived.Test.YtkmnbodlciepaaaGreatPk2
namespace Go.Proofs.YtkmnbodlciepaaaGreat
open Go.RowKit
open Go.ChangeMaps (setBlock heap_setBlock_same heap_setBlock_other)
attribute [local go_sem ↓] Go.wp_at_zero Go.wp_at_succ
def entN (s:Nat×Nat) (n:Nat):Nat:=if s.1=s.2 then 0 else ent s.1 s.2 0 n
end Go.Proofs.YtkmnbodlciepaaaGreat
