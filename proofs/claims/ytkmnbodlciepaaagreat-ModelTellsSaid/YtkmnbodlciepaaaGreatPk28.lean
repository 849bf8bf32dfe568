/- Operations that came in, as the form of the statements tells them; what chapter 26's laws say plainly of what is refused. -/
import Derived.Test.YtkmnbodlciepaaaGreatPk7
import Derived.Test.YtkmnbodlciepaaaGreatPk27
namespace Go.Proofs.YtkmnbodlciepaaaGreat
open Go.RowKit
def IsOp26 (w:World) (v:Value) (l:List OpP):Prop:=See KOp w v l
theorem u8_nat {x:Int} (h:(Lit.int .u8 x).wf=true):∃n:Nat,x=(n:Int)∧n<256:=by
 simp [Lit.wf,IntKind.min,IntKind.max,IntKind.signed,IntKind.bits] at h
 exact ⟨x.toNat,by omega,by omega⟩
theorem op26_of_rows {w:World} {v:Value} {rows:List (List Value)} (h:SeesRows w 6 v rows) (hr:∀r∈rows,∃b:OpP,r=KOp.enc b∧b.in64) :
 ∃l:List OpP,l.length=rows.length∧IsOp26 w v l∧∀b∈l,b.in64:=by
 have:∃l:List OpP,rows=l.map KOp.enc∧∀b∈l,b.in64:=by
  clear h
  induction rows with
  |nil=>exact ⟨[],rfl,by simp⟩
  |cons a rows ih=>
   obtain ⟨l,e,hl⟩:=ih fun r h=>hr r (by simp [h])
   obtain ⟨b,e1,e2⟩:=hr a (by simp)
   refine ⟨b::l,by rw [e,e1];rfl,fun o ho=>?_⟩
   rcases List.mem_cons.1 ho with rfl | ho
   ·exact e2
   ·exact hl o ho
 obtain ⟨l,rfl,hl⟩:=this
 refine ⟨l,by simp,?_,hl⟩
 have:=h.2
 rw [List.length_map] at this
 unfold IsOp26 See Kind.all
 rw [List.flatMap]
 exact this
end Go.Proofs.YtkmnbodlciepaaaGreat
namespace Go.Proofs.YtkmnbodlciepaaaGreat
open Go.ChangeShapes Go.WideShapes Go.Deep Go.RowKit
theorem op26s_opened {H:Type} {enc:TypeId×Value→H} {w:World} {base:Nat} {held:Bool} {fuel:Nat} {v:Value} {x:DataW H×List MemPlace}
 (h:DataW.trod enc Tryz.prog w base (fun _=>true) held fuel 22 [v]=some x) :
 ∃l:List OpP,IsOp26 w v l∧(∀b∈l,b.in64)∧l.length≤maxLen:=by
 obtain ⟨rows,h1,h2,h3⟩:=structs_of_arg Tryz.underlying22 Tryz.underlying43 (by kernel_rfl) (by kernel_rfl) (by decide) (fun _=>rfl) h
 obtain ⟨l,e,h4,h5⟩:=op26_of_rows (rows:=rows) h1 (fun r hr=>by
  obtain ⟨i,hi⟩:=List.mem_iff_getElem?.1 hr
  obtain ⟨u0,y0,n0,g0,t0⟩:=h3 i r hi 0 _ rfl
  obtain ⟨u1,y1,n1,g1,t1⟩:=h3 i r hi 1 _ rfl
  obtain ⟨u2,y2,n2,g2,t2⟩:=h3 i r hi 2 _ rfl
  obtain ⟨u3,y3,n3,g3,t3⟩:=h3 i r hi 3 _ rfl
  obtain ⟨u4,y4,n4,g4,t4⟩:=h3 i r hi 4 _ rfl
  obtain ⟨u5,y5,n5,g5,t5⟩:=h3 i r hi 5 _ rfl
  obtain ⟨a0,e0,_,w0⟩:=DataW.trod_int Tryz.underlying5 t0
  obtain ⟨a1,e1,_,w1⟩:=DataW.trod_int Tryz.underlying2 t1
  obtain ⟨a2,e2,_,w2⟩:=DataW.trod_int Tryz.underlying2 t2
  obtain ⟨a3,e3,_,w3⟩:=DataW.trod_int Tryz.underlying2 t3
  obtain ⟨a4,e4,_,w4⟩:=DataW.trod_int Tryz.underlying2 t4
  obtain ⟨a5,e5,_,w5⟩:=DataW.trod_int Tryz.underlying41 t5
  have hl:r.length=6:=h1.1 r hr
  injection e0 with e0 _
  injection e1 with e1 _
  injection e2 with e2 _
  injection e3 with e3 _
  injection e4 with e4 _
  injection e5 with e5 _
  subst e0 e1 e2 e3 e4 e5
  obtain ⟨n,rfl,hn⟩:=u8_nat w0
  obtain ⟨k,rfl,hk⟩:=u32_nat w5
  refine ⟨⟨n,a1,a2,a3,a4,k⟩,?_,⟨i64_in w1,i64_in w2,i64_in w3,i64_in w4⟩,hk,hn⟩
  match r,hl with
  | [c0,c1,c2,c3,c4,c5],_=>
   simp at g0 g1 g2 g3 g4 g5
   rw [g0,g1,g2,g3,g4,g5]
   rfl)
 exact ⟨l,h4,h5,by rw [e];exact h2⟩
end Go.Proofs.YtkmnbodlciepaaaGreat
