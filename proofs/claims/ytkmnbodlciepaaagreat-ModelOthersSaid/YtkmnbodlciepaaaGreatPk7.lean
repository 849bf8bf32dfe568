/- Boxes that came in, as the form of the statements tells them. -/
import Derived.ProofKit
import Derived.Test.YtkmnbodlciepaaaGreatPk2
import Derived.Test.YtkmnbodlciepaaaGreatPk6
namespace Go.Proofs.YtkmnbodlciepaaaGreat
open Go.RowKit
theorem u32_nat {x:Int} (h:(Lit.int .u32 x).wf=true):∃n:Nat,x=(n:Int)∧n<4294967296:=by
 simp [Lit.wf,IntKind.min,IntKind.max,IntKind.signed,IntKind.bits] at h
 exact ⟨x.toNat,by omega,by omega⟩
theorem i64_in {x:Int} (h:(Lit.int .i64 x).wf=true) : -9223372036854775808≤x∧x≤9223372036854775807:=by
 simp [Lit.wf,IntKind.min,IntKind.max,IntKind.signed,IntKind.bits] at h
 omega
end Go.Proofs.YtkmnbodlciepaaaGreat
namespace Go.Proofs.YtkmnbodlciepaaaGreat
open Go.ChangeShapes Go.WideShapes Go.Deep Go.RowKit
theorem fields_opened {H:Type} {enc:TypeId×Value→H} {P:Program} {w:World} {base:Nat} {spare:Nat→Bool} {held:Bool} {r:Reach} {b0:Nat} {t:TypeId} {fs:Array Field} {v:Value} {d:DataW H} {p:List MemPlace}
 (ht:P.underlying t=some (.struct fs)) (hone:oneCellFields P fs=true) (hC:P.cellsOf t=fs.size) (hv:Value.okWide P w r b0 t v) (h:DataW.Trod enc P w base spare held t v d p) :
 ∃cs:List Value,v=.agg cs.toArray∧cs.length=fs.size∧∀(j:Nat) (f:Field),fs[j]? = some f→∃(u:Value) (y:DataW H×List MemPlace) (n:Nat),cs[j]? = some u∧DataW.trod enc P w base spare held n f.type [u]=some y:=by
 obtain ⟨cs,rfl,hsz⟩:=okWide_struct ht hv
 obtain ⟨fuel,hf⟩:=h
 obtain ⟨xs,n,_,_,_,hlen,hg⟩:=DataW.trod_struct ht hf
 obtain ⟨l⟩:=cs
 have hl:l.length=fs.size:=hsz.trans hC
 refine ⟨l,rfl,hl,fun j f hj=>?_⟩
 have hjl:j<fs.size:=(Array.getElem?_eq_some_iff.1 hj).1
 obtain ⟨ho,hk⟩:=hone_of hone j f hj
 have h1:=hg j f hj
 rw [ho,hk] at h1
 have e:((Value.agg ⟨l⟩).cells.toList.drop j).take 1 = [l[j]'(by omega)]:=by
  show (l.drop j).take 1=_
  rw [List.drop_eq_getElem_cons (by omega)]
  rfl
 rw [e] at h1
 exact ⟨_,_,n,List.getElem?_eq_getElem (by omega),h1.trans (List.getElem?_eq_getElem (by omega))⟩
end Go.Proofs.YtkmnbodlciepaaaGreat
