/- A pool in memory. pool.Put: a node more. -/
import Derived.Test.YtkbaaonchdeneaaGreatPc37
import Derived.Test.YtkbaaonchdeneaaGreatPc5
namespace Go.Proofs.YtkbaaonchdeneaaGreat
section
open Go.RowKit
structure Nd where
 k:Int
 l:Int
 r:Int
 fr:Int
 to:Int
 at_:Int
 it:Int
deriving DecidableEq
def KD:Kind Nd:={ T:=0,sT:=224,eT:=339,sz:=7,enc:=λx=>[.int .u8 x.k,x.l,x.r,x.fr,x.to,x.at_,x.it],len:=λ_=>rfl,one:=λx u hu=>by simp at hu;rcases hu with rfl | rfl | rfl | rfl | rfl | rfl | rfl<;>rfl }
structure Ew (w:World) (b:Nat) (most:Int) (vn vk:Value) (ns:List Nd) (ks:List Bool):Prop where
 head:w.heap[b]? = some (.cells #[most,vn,vk,.bool true] 375 (0,0))
 nodes:KD.row w 0 vn ns
 kids:KB.row w 0 vk ks
 len:ks.length=ns.length
 bn:b∉blk vn
 bk:b∉blk vk
 nk:∀x∈blk vn,x∉blk vk
end
section
open Go.RowKit Go.Shelf
def ndV (x:Nd):Value:=.agg #[.int .u8 x.k,x.l,x.r,x.fr,x.to,x.at_,x.it]
structure XD (x:Nd) (ks ks':List Bool):Prop where
 may:∀(v:Value) (w:World),KB.row w 0 v ks->Calls Tryz.prog 326 #[ndV x,v] w λe w'=>e=.returned (.bool true)/\Below w.heap.size w w'
 put:∀(v:Value) (w:World),KB.row w 0 v ks->Calls Tryz.prog 327 #[ndV x,v] w λe w'=>∃A C,e=.returned (.slice A (ks.length+1) C)/\KB.row w' 0 (.slice A (ks.length+1) C) (ks'++[false])/\Bj (blk v) w w'/\∀y∈blk (.slice A (ks.length+1) C),y∈blk v\/w.heap.size<=y
theorem YS (fr to at_ it:Int) (ks:List Bool) (h:ks.length<2 ^ 40):XD ⟨1,-1,-1,fr,to,at_,it⟩ ks ks:=by
 refine ⟨λv w hr=>?_,λv w hr=>?_⟩
 ·obtain ⟨A,C,rfl⟩:=BD hr;exact uH fr A ks.length C to at_ it w
 ·refine (uK fr to at_ it v ks.length (KB.all ks) 0 w hr (by omega) h).mono ?_
  rintro e w' ⟨A,C,rfl,h1,h2,h4⟩;refine ⟨A,C,rfl,?_,h2,h4⟩
  have h3:KB.all (ks++[false])=KB.all ks++[.bool false]:=by rw [Kind.BZ];rfl
  unfold Kind.row;rw [h3,Bc];exact h1
theorem KB.all_eq (ks:List Bool):KB.all ks=ks.map Value.bool:=by
 induction ks with
 |nil=>rfl
 |cons b l ih=>simp only [Kind.all,List.flatMap_cons,List.map_cons] at *;rw [ih];rfl
theorem YT (L R:Nat) (fr to at_ it:Int) (ks:List Bool) (h:ks.length<2 ^ 40) (hL:ks[L]? = some false) (hR:ks[R]? = some false) (hne:L≠R) :
 XD ⟨2,L,R,fr,to,at_,it⟩ ks ((ks.set L true).set R true):=by
 have hl:L<ks.length:=(AZ hL).1;have hr':R<ks.length:=(AZ hR).1;refine ⟨λv w hr=>?_,λv w hr=>?_⟩
 ·obtain ⟨g,C,rfl,_,hg⟩:=World.ownsRow.form hr (by omega)
  have hc:∀k,ks[k]? = some false->w.cell? ⟨g,0+k,none⟩=some (.bool false):=λk hk=>by
   have hk':k<ks.length:=(AZ hk).1;rw [Nat.zero_add,World.ownsRow.cellAt hr k (by simpa [KB] using hk'),KB.all_eq,List.getElem?_map,hk];rfl
  exact uJ L R fr g 0 ks.length C to at_ it w hl hr' hne hg (hc L hL) (hc R hR)
 ·refine (uM L R ks.length hl hr' fr to at_ it v (KB.all ks) 0 w hr h).mono ?_
  rintro e w' ⟨A,C,rfl,h1,h2,h4⟩;refine ⟨A,C,rfl,?_,h2,h4⟩
  have h3:KB.all ((ks.set L true).set R true++[false])=((KB.all ks).set L (.bool true)).set R (.bool true)++[.bool false]:=by
   simp only [KB.all_eq,List.map_append,List.map_set];rfl
  unfold Kind.row;rw [h3,Bc,List.length_set,List.length_set];exact h1
