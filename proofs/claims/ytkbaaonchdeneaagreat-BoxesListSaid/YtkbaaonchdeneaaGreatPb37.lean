/- A pool in memory. pool.Put: a node more. -/
import Derived.Test.YtkbaaonchdeneaaGreatPb36
import Derived.Test.YtkbaaonchdeneaaGreatPb5
namespace Go.Proofs.YtkbaaonchdeneaaGreat
open Go.RowKit
structure Nd where
 k:Int
 l:Int
 r:Int
 fr:Int
 to:Int
 at_:Int
 it:Int
deriving DecidableEq
def KD:Kind Nd:={ T:=0,sT:=224,eT:=339,sz:=7,enc:=fun x=>[.int .u8 x.k,.int .i64 x.l,.int .i64 x.r,.int .i64 x.fr,.int .i64 x.to,.int .i64 x.at_,.int .i64 x.it],len:=fun _=>rfl,one:=fun x u hu=>by simp at hu;rcases hu with rfl | rfl | rfl | rfl | rfl | rfl | rfl<;>rfl }
structure CV (w:World) (b:Nat) (most:Int) (vn vk:Value) (ns:List Nd) (ks:List Bool):Prop where
 head:w.heap[b]? = some (.cells #[.int .i64 most,vn,vk,.bool true] 375 (0,0))
 nodes:KD.row w 0 vn ns
 kids:KB.row w 0 vk ks
 len:ks.length=ns.length
 bn:b∉blk vn
 bk:b∉blk vk
 nk:∀x∈blk vn,x∉blk vk
end Go.Proofs.YtkbaaonchdeneaaGreat
namespace Go.Proofs.YtkbaaonchdeneaaGreat
open Go.RowKit Go.Shelf
def ndV (x:Nd):Value:=.agg #[.int .u8 x.k,.int .i64 x.l,.int .i64 x.r,.int .i64 x.fr,.int .i64 x.to,.int .i64 x.at_,.int .i64 x.it]
structure U6 (x:Nd) (ks ks':List Bool):Prop where
 may:∀(v:Value) (w:World),KB.row w 0 v ks→Calls Tryz.prog 326 #[ndV x,v] w fun e w'=>e=.returned (.bool true)∧Below w.heap.size w w'
 put:∀(v:Value) (w:World),KB.row w 0 v ks→Calls Tryz.prog 327 #[ndV x,v] w fun e w'=>∃A C,e=.returned (.slice A (ks.length+1) C)∧KB.row w' 0 (.slice A (ks.length+1) C) (ks'++[false])∧Bf (blk v) w w'∧∀y∈blk (.slice A (ks.length+1) C),y∈blk v∨w.heap.size≤y
theorem VB (fr to at_ it:Int) (ks:List Bool) (h:ks.length<2 ^ 40):U6 ⟨1,-1,-1,fr,to,at_,it⟩ ks ks:=by
 refine ⟨fun v w hr=>?_,fun v w hr=>?_⟩
 ·obtain ⟨A,C,rfl⟩:=Bv hr;exact yx fr A ks.length C to at_ it w
 ·refine (yC fr to at_ it v ks.length (KB.all ks) 0 w hr (by omega) h).mono ?_
  rintro e w' ⟨A,C,rfl,h1,h2,h4⟩;refine ⟨A,C,rfl,?_,h2,h4⟩
  have h3:KB.all (ks++[false])=KB.all ks++[.bool false]:=by rw [Kind.Ci];rfl
  unfold Kind.row;rw [h3,AY];exact h1
theorem KB.all_eq (ks:List Bool):KB.all ks=ks.map Value.bool:=by
 induction ks with
 |nil=>rfl
 |cons b l ih=>simp only [Kind.all,List.flatMap_cons,List.map_cons] at *;rw [ih];rfl
theorem VD (L R:Nat) (fr to at_ it:Int) (ks:List Bool) (h:ks.length<2 ^ 40) (hL:ks[L]? = some false) (hR:ks[R]? = some false) (hne:L≠R) :
 U6 ⟨2,L,R,fr,to,at_,it⟩ ks ((ks.set L true).set R true):=by
 have hl:L<ks.length:=(AV hL).1;have hr':R<ks.length:=(AV hR).1;refine ⟨fun v w hr=>?_,fun v w hr=>?_⟩
 ·obtain ⟨g,C,rfl,_,hg⟩:=World.ownsRow.form hr (by omega)
  have hc:∀k,ks[k]? = some false→w.cell? ⟨g,0+k,none⟩=some (.bool false):=fun k hk=>by
   have hk':k<ks.length:=(AV hk).1;rw [Nat.zero_add,World.ownsRow.cellAt hr k (by simpa [KB] using hk'),KB.all_eq,List.getElem?_map,hk];rfl
  exact yB L R fr g 0 ks.length C to at_ it w hl hr' hne hg (hc L hL) (hc R hR)
 ·refine (yD L R ks.length hl hr' fr to at_ it v (KB.all ks) 0 w hr h).mono ?_
  rintro e w' ⟨A,C,rfl,h1,h2,h4⟩;refine ⟨A,C,rfl,?_,h2,h4⟩
  have h3:KB.all ((ks.set L true).set R true++[false])=((KB.all ks).set L (.bool true)).set R (.bool true)++[.bool false]:=by
   simp only [KB.all_eq,List.map_append,List.map_set];rfl
  unfold Kind.row;rw [h3,AY,List.length_set,List.length_set];exact h1
