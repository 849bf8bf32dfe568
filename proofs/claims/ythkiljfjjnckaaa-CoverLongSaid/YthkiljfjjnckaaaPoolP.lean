/- A pool in memory. -/
import Derived.Test.YthkiljfjjnckaaaKidsD
import Derived.Test.YthkiljfjjnckaaaKinds
namespace Go.Proofs.Ythkiljfjjnckaaa
open Go.RowKit

/-- A node. -/
structure Nd where
  k : Int
  l : Int
  r : Int
  fr : Int
  to : Int
  at_ : Int
  it : Int
deriving DecidableEq

def KD : Kind Nd := { T := 0, sT := 47, eT := 106, sz := 7, enc := fun x => [.int .u8 x.k, .int .i64 x.l, .int .i64 x.r, .int .i64 x.fr, .int .i64 x.to, .int .i64 x.at_, .int .i64 x.it], len := fun _ => rfl, one := fun x u hu => by simp at hu; rcases hu with rfl | rfl | rfl | rfl | rfl | rfl | rfl <;> rfl }

/-- At block b lies a pool: its nodes ns, and which are kids. -/
structure PoolAt (w : World) (b : Nat) (most : Int) (vn vk : Value) (ns : List Nd) (ks : List Bool) : Prop where
  head : w.heap[b]? = some (.cells #[.int .i64 most, vn, vk, .bool true] 189 (0, 0))
  nodes : KD.row w 0 vn ns
  kids : KB.row w 0 vk ks
  len : ks.length = ns.length
  bn : b ∉ blk vn
  bk : b ∉ blk vk
  nk : ∀ x ∈ blk vn, x ∉ blk vk
end Go.Proofs.Ythkiljfjjnckaaa
