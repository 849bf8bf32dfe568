/- Sums over whole numbers from one to another, and over blocks between lines. No program. Boxes, plainly: which cells they cover, the lines of those that count, how many cells they cover. No program. -/
namespace Go.Proofs.YtkbaaonchdeneaaGreat
section
variable {f g:Int→Int} {a b c:Int}
end
end Go.Proofs.YtkbaaonchdeneaaGreat
namespace Go.Proofs.YtkbaaonchdeneaaGreat
structure Bx where
 x1:Int
 x2:Int
 y1:Int
 y2:Int
 id:Nat
deriving DecidableEq
section
variable {l:List Bx} {xs ys:List Int}
end
end Go.Proofs.YtkbaaonchdeneaaGreat
