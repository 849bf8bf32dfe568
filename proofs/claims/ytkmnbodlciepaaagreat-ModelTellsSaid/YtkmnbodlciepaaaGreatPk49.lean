/- A box, a number of 128 bits, in a variable. gridironlow.CopyBoxes. -/
import Derived.Test.YtkmnbodlciepaaaGreatProg
import Derived.WalkKit
import Derived.LoopTactic
import Derived.Deep.Cut
import Derived.Deep.LoopGhost
import Derived.IntWalk
import Derived.Deep.MidRow
import Derived.Test.YtkmnbodlciepaaaGreatPk6
import Derived.Test.YtkmnbodlciepaaaGreatPk24
import Derived.Test.YtkmnbodlciepaaaGreatPk4
namespace Go.Proofs.YtkmnbodlciepaaaGreat
open Go.RowKit
theorem info_box:(Tryz.prog.info? 59).map (fun i=>(i.zero,i.size,i.bytes))=some (some (.agg #[.int .i64 0,.int .i64 0,.int .i64 0,.int .i64 0,.int .u32 0]),5,40):=by kernel_rfl
end Go.Proofs.YtkmnbodlciepaaaGreat
