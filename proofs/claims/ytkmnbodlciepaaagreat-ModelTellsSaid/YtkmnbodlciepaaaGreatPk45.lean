/- A pool in memory. pool.Put: a node more. -/
import Derived.RangeFuncNested
import Derived.RangeFuncBound
import Derived.RangeFuncCalls
import Derived.RangeFuncLeaves
import Derived.Shelf.Abstract
import Derived.Shelf.RegionOpen
import Derived.WalkKit
import Derived.OwnWalkIn
import Derived.TacticsInMore
import Derived.LoopNIn
import Derived.LoopIn
import Derived.Test.YtkmnbodlciepaaaGreatRows
import Derived.TacticsIn
import Derived.Test.YtkmnbodlciepaaaGreatPk2
import Derived.Test.YtkmnbodlciepaaaGreatPk4
namespace Go.Proofs.YtkmnbodlciepaaaGreat
open Go.RowKit
structure Nd where
 k:Int
 l:Int
 r:Int
 fr:Int
 to:Int
 at_:Int
 it:Int
deriving DecidableEq
def KD:Kind Nd:={ T:=0,sT:=146,eT:=208,sz:=7,enc:=fun x=>[.int .u8 x.k,.int .i64 x.l,.int .i64 x.r,.int .i64 x.fr,.int .i64 x.to,.int .i64 x.at_,.int .i64 x.it],len:=fun _=>rfl,one:=fun x u hu=>by simp at hu;rcases hu with rfl | rfl | rfl | rfl | rfl | rfl | rfl<;>rfl }
end Go.Proofs.YtkmnbodlciepaaaGreat
namespace Go.Proofs.YtkmnbodlciepaaaGreat
open Go.RowKit Go.Shelf
def ndV (x:Nd):Value:=.agg #[.int .u8 x.k,.int .i64 x.l,.int .i64 x.r,.int .i64 x.fr,.int .i64 x.to,.int .i64 x.at_,.int .i64 x.it]
end Go.Proofs.YtkmnbodlciepaaaGreat
