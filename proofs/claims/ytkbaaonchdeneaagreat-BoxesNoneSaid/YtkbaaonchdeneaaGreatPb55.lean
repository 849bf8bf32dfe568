/- Boxes that came in, as the form of the statements tells them. -/
import Derived.ProofKit
import Derived.Test.YtkbaaonchdeneaaGreatPbBoxesCoverP2
import Derived.Test.YtkbaaonchdeneaaGreatPb13
set_option maxRecDepth 100000
namespace Go.Proofs.YtkbaaonchdeneaaGreat
open Go.RowKit
theorem nV {x:Int} (h:(Lit.int .u32 x).wf=true):∃n:Nat,x=(n:Int)∧n<4294967296:=by
 simp [Lit.wf,IntKind.min,IntKind.max,IntKind.signed,IntKind.bits] at h;exact ⟨x.toNat,by omega,by omega⟩
theorem i64_in {x:Int} (h:(Lit.int .i64 x).wf=true) : -9223372036854775808≤x∧x≤9223372036854775807:=by
 simp [Lit.wf,IntKind.min,IntKind.max,IntKind.signed,IntKind.bits] at h;omega
end Go.Proofs.YtkbaaonchdeneaaGreat
namespace Go.Proofs.YtkbaaonchdeneaaGreat
open Go.ChangeShapes Go.WideShapes Go.Deep Go.RowKit
theorem Rx {H:Type} {enc:TypeId×Value→H} {P:Program} {w:World} {base:Nat} {spare:Nat→Bool} {held:Bool} {r:Reach} {b0:Nat} {t:TypeId} {fs:Array Field} {v:Value} {d:DataW H} {p:List MemPlace}
 (ht:P.underlying t=some (.struct fs)) (hone:oneCellFields P fs=true) (hC:P.cellsOf t=fs.size) (hv:Value.okWide P w r b0 t v) (h:DataW.Trod enc P w base spare held t v d p) :
 ∃cs:List Value,v=.agg cs.toArray∧cs.length=fs.size∧∀(j:Nat) (f:Field),fs[j]? = some f→∃(u:Value) (y:DataW H×List MemPlace) (n:Nat),cs[j]? = some u∧DataW.trod enc P w base spare held n f.type [u]=some y:=by
 obtain ⟨cs,rfl,hsz⟩:=okWide_struct ht hv;obtain ⟨fuel,hf⟩:=h;obtain ⟨xs,n,_,_,_,hlen,hg⟩:=DataW.trod_struct ht hf;obtain ⟨l⟩:=cs;have hl:l.length=fs.size:=hsz.trans hC;refine ⟨l,rfl,hl,fun j f hj=>?_⟩
 have hjl:j<fs.size:=(Array.getElem?_eq_some_iff.1 hj).1;obtain ⟨ho,hk⟩:=hone_of hone j f hj;have h1:=hg j f hj;rw [ho,hk] at h1
 have e:((Value.agg ⟨l⟩).cells.toList.drop j).take 1 = [l[j]'(by omega)]:=by
  show (l.drop j).take 1=_
  rw [List.drop_eq_getElem_cons (by omega)];rfl
 rw [e] at h1;exact ⟨_,_,n,AX (by omega),h1.trans (AX (by omega))⟩
theorem Ye {H:Type} {enc:TypeId×Value→H} {w:World} {base:Nat} {spare:Nat→Bool} {held:Bool} {r:Reach} {b0:Nat} {v:Value} {d:DataW H} {p:List MemPlace}
 (hv:Value.okWide Tryz.prog w r b0 28 v) (h:DataW.Trod enc Tryz.prog w base spare held 28 v d p):∃b:Bx,v=L8 b∧b.BO:=by
 obtain ⟨cs,rfl,hl,hf⟩:=Rx Tryz.underlying28 (by kernel_rfl) (by kernel_rfl) hv h;obtain ⟨u0,y0,n0,g0,t0⟩:=hf 0 _ rfl;obtain ⟨u1,y1,n1,g1,t1⟩:=hf 1 _ rfl;obtain ⟨u2,y2,n2,g2,t2⟩:=hf 2 _ rfl;obtain ⟨u3,y3,n3,g3,t3⟩:=hf 3 _ rfl;obtain ⟨u4,y4,n4,g4,t4⟩:=hf 4 _ rfl;obtain ⟨a0,e0,_,w0⟩:=DataW.trod_int Tryz.underlying2 t0;obtain ⟨a1,e1,_,w1⟩:=DataW.trod_int Tryz.underlying2 t1;obtain ⟨a2,e2,_,w2⟩:=DataW.trod_int Tryz.underlying2 t2;obtain ⟨a3,e3,_,w3⟩:=DataW.trod_int Tryz.underlying2 t3;obtain ⟨a4,e4,_,w4⟩:=DataW.trod_int Tryz.underlying26 t4;injection e0 with e0 _;injection e1 with e1 _;injection e2 with e2 _;injection e3 with e3 _;injection e4 with e4 _;subst e0 e1 e2 e3 e4;obtain ⟨n,rfl,_⟩:=nV w4;refine ⟨⟨a0,a1,a2,a3,n⟩,?_,i64_in w0,i64_in w1,i64_in w2,i64_in w3⟩
 have hl5:cs.length=5:=hl;match cs,hl5 with
 | [c0,c1,c2,c3,c4],_=>
  simp at g0 g1 g2 g3 g4;rw [g0,g1,g2,g3,g4];rfl
