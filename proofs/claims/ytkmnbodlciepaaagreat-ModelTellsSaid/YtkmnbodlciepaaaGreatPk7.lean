/- Boxes that came in, as the form of the statements tells them. -/
import Derived.ProofKit
import Derived.Test.YtkmnbodlciepaaaGreatPk3
import Derived.Test.YtkmnbodlciepaaaGreatPk6
namespace Go.Proofs.YtkmnbodlciepaaaGreat
open Go.RowKit
theorem u32_nat {x:Int} (h:(Lit.int .u32 x).wf=true):∃n:Nat,x=(n:Int)∧n<4294967296:=by
 simp [Lit.wf,IntKind.min,IntKind.max,IntKind.signed,IntKind.bits] at h
 exact ⟨x.toNat,by omega,by omega⟩
theorem i64_in {x:Int} (h:(Lit.int .i64 x).wf=true) : -9223372036854775808≤x∧x≤9223372036854775807:=by
 simp [Lit.wf,IntKind.min,IntKind.max,IntKind.signed,IntKind.bits] at h
 omega
end Go.Proofs.YtkmnbodlciepaaaGreat
namespace Go.Proofs.YtkmnbodlciepaaaGreat
open Go.ChangeShapes Go.WideShapes Go.Deep Go.RowKit
end Go.Proofs.YtkmnbodlciepaaaGreat
