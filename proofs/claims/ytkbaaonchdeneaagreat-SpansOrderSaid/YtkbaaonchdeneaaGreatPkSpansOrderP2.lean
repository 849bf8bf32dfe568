/- Maps that count names; two Spans beside each other. -/
import Derived.Test.YtkbaaonchdeneaaGreatPkSpansTellP12
import Derived.Test.YtkbaaonchdeneaaGreatPkSpansOrderP1
namespace Go.Proofs.YtkbaaonchdeneaaGreat.PSp
open Go.RowKit
open Go.Proofs.YtkbaaonchdeneaaGreat.Ps
structure Cnts (w:World) (b:Nat) (D E:List Nat):Prop where
 map:∃f,MapU MKI w b f E.length∧∀x,f x=if x∈D then some (D.count x) else none
 nd:E.Nodup
 mem:∀x,x∈E↔x∈D
theorem Cnts.upd {w w':World} {b:Nat} {D E:List Nat} (h:Cnts w b D E) {F:List Nat} (hu:Upd F w w') (hb:b∉F):Cnts w' b D E:=by
 obtain ⟨f,h1,h2⟩:=h.map
 exact ⟨⟨f,h1.upd hu hb,h2⟩,h.nd,h.mem⟩
theorem Cnts.lt {w:World} {b:Nat} {D E:List Nat} (h:Cnts w b D E):b<w.heap.size:=by
 obtain ⟨f,h1,-⟩:=h.map
 exact h1.lt
theorem Cnts.made (w:World):Cnts (w.alloc (.map #[] 0)) w.heap.size [] []:=⟨⟨fun _=>none,MapU.made MKI w,by simp⟩,List.nodup_nil,by simp⟩
theorem Cnts.look {w:World} {b:Nat} {D E:List Nat} (h:Cnts w b D E) {x:Nat} (hx:x<4294967296) :
 (Instr.lookup 60 (.map (some b)) (.int .u32 (x:Int)) false).run Tryz.prog w=.ok (.int .i64 (D.count x:Nat)) w:=by
 obtain ⟨f,h1,h2⟩:=h.map
 have:=h1.look1 hx
 rw [h2 x] at this
 refine this.trans ?_
 split
 ·rfl
 ·rename_i hc
  rw [List.count_eq_zero.2 hc]
  rfl
theorem Cnts.put {w:World} {b:Nat} {D E:List Nat} (h:Cnts w b D E) {x:Nat} (hx:x<4294967296) (hl:E.length<100000) :
 ∃w' E',(Instr.mapUpdate 60 (.map (some b)) (.int .u32 (x:Int)) (.int .i64 ((D.count x+1:Nat):Int))).run Tryz.prog w=.ok () w'∧Cnts w' b (D++[x]) E'∧Upd [b] w w'∧w'.heap.size=w.heap.size∧E'.length≤E.length+1:=by
 obtain ⟨f,h1,h2⟩:=h.map
 obtain ⟨w',g1,g2,g3,g4⟩:=h1.put hx (D.count x+1) (by unfold maxLen;omega)
 have hm:∀y,(if y=x then some (D.count x+1) else f y)=if y∈D++[x] then some ((D++[x]).count y) else none:=by
  intro y
  by_cases hy:y=x
  ·subst hy
   rw [if_pos rfl,if_pos (by simp),List.count_append]
   simp
  ·rw [if_neg hy,h2 y,List.count_append]
   by_cases hd:y∈D
   ·rw [if_pos hd,if_pos (by simp [hd])]
    have:[x].count y=0:=List.count_eq_zero.2 (by simp [hy])
    rw [this,Nat.add_zero]
   ·rw [if_neg hd,if_neg (by simp [hd,hy])]
 by_cases hd:x∈D
 ·rw [h2 x,if_pos hd] at g2
  refine ⟨w',E,g1,⟨⟨_,g2,hm⟩,h.nd,fun y=>?_⟩,g3,g4,Nat.le_succ _⟩
  rw [h.mem y]
  by_cases hy:y=x
  ·simp [hy,hd]
  ·simp [hy]
 ·rw [h2 x,if_neg hd] at g2
  refine ⟨w',E++[x],g1,⟨⟨_,?_,hm⟩,?_,fun y=>?_⟩,g3,g4,by rw [List.length_append];simp⟩
  ·rw [List.length_append]
   exact g2
  ·rw [List.nodup_append]
   refine ⟨h.nd,by simp,fun a ha c hc=>?_⟩
   simp at hc
   subst hc
   intro e
   subst e
   exact hd ((h.mem _).1 ha)
  ·rw [List.mem_append,List.mem_append,h.mem y]
theorem Cnts.len {w:World} {b:Nat} {D E:List Nat} (h:Cnts w b D E) (ty:TypeId):(Builtin.len_ #[60] ty #[.map (some b)]).run Tryz.prog w=.ok (.int .i64 (E.length:Int)) w:=by
 obtain ⟨f,h1,-⟩:=h.map
 exact h1.len ty
structure Two (w0 w:World) (ta tb:Value) (Sa Sb:PSS) (Fa Fb G:List Nat):Prop where
 a:Held w0 w ta Sa Fa
 b:Held w0 w tb Sb Fb
 dis:∀x∈Fa,x∉Fb
 own:∀x∈G,x∉Fa∧x∉Fb∧x<w.heap.size
theorem Two.quiet {w0 w w':World} {ta tb:Value} {Sa Sb:PSS} {Fa Fb G:List Nat} (h:Two w0 w ta tb Sa Sb Fa Fb G) (hu:Upd [] w w'):Two w0 w' ta tb Sa Sb Fa Fb G:=
 ⟨h.a.quiet hu,h.b.quiet hu,h.dis,fun x hx=>⟨(h.own x hx).1,(h.own x hx).2.1,Nat.lt_of_lt_of_le (h.own x hx).2.2 hu.size⟩⟩
theorem Two.other {w0 w w':World} {ta tb:Value} {Sa Sb:PSS} {Fa Fb G H:List Nat} (h:Two w0 w ta tb Sa Sb Fa Fb G) (hu:Upd H w w') (hH:∀x∈H,w0.heap.size≤x∧x∉Fa∧x∉Fb):Two w0 w' ta tb Sa Sb Fa Fb G:=
 ⟨⟨h.a.is.upd hu (fun x hx hc=>(hH x hc).2.1 hx),h.a.inv,h.a.good,h.a.new,h.a.upd.trans' hu (fun x hx=>.inr (hH x hx).1)⟩,⟨h.b.is.upd hu (fun x hx hc=>(hH x hc).2.2 hx),h.b.inv,h.b.good,h.b.new,h.b.upd.trans' hu (fun x hx=>.inr (hH x hx).1)⟩,h.dis,
  fun x hx=>⟨(h.own x hx).1,(h.own x hx).2.1,Nat.lt_of_lt_of_le (h.own x hx).2.2 hu.size⟩⟩
theorem Two.with {w0 w:World} {ta tb:Value} {Sa Sb:PSS} {Fa Fb G G':List Nat} (h:Two w0 w ta tb Sa Sb Fa Fb G) (hG:∀x∈G',x∉Fa∧x∉Fb∧x<w.heap.size):Two w0 w ta tb Sa Sb Fa Fb G':=⟨h.a,h.b,h.dis,hG⟩
theorem Two.stepA {w0 w w':World} {ta tb:Value} {Sa Sb:PSS} {Fa Fb G:List Nat} (h:Two w0 w ta tb Sa Sb Fa Fb G) {n:Nat} {did:Bool} {l:List Sp} (hl:Left w0 w ta Sa Fa n did l w') :
 ∃Sa' Fa',Two w0 w' ta tb Sa' Sb Fa' Fb G∧Upd Fa w w'∧After Sa Sa' n did l:=by
 obtain ⟨S',F',h1,h2,h3,h4⟩:=hl
 have hb:=h.b
 refine ⟨S',F',⟨h1,⟨hb.is.upd h2 (fun x hx hc=>h.dis x hc hx),hb.inv,hb.good,hb.new,h1.upd⟩,fun x hx hc=>?_,fun x hx=>?_⟩,h2,h4⟩
 ·rcases h3 x hx with g | g
  ·exact h.dis x g hc
  ·have:=hb.is.lt x hc;omega
 ·obtain ⟨o1,o2,o3⟩:=h.own x hx
  refine ⟨fun hc=>?_,o2,Nat.lt_of_lt_of_le o3 h2.size⟩
  rcases h3 x hc with g | g
  ·exact o1 g
  ·omega
theorem Two.stepB {w0 w w':World} {ta tb:Value} {Sa Sb:PSS} {Fa Fb G:List Nat} (h:Two w0 w ta tb Sa Sb Fa Fb G) {n:Nat} {did:Bool} {l:List Sp} (hl:Left w0 w tb Sb Fb n did l w') :
 ∃Sb' Fb',Two w0 w' ta tb Sa Sb' Fa Fb' G∧Upd Fb w w'∧After Sb Sb' n did l:=by
 obtain ⟨S',F',h1,h2,h3,h4⟩:=hl
 have ha:=h.a
 refine ⟨S',F',⟨⟨ha.is.upd h2 (fun x hx hc=>h.dis x hx hc),ha.inv,ha.good,ha.new,h1.upd⟩,h1,fun x hx hc=>?_,fun x hx=>?_⟩,h2,h4⟩
 ·rcases h3 x hc with g | g
  ·exact h.dis x hx g
  ·have:=ha.is.lt x hx;omega
 ·obtain ⟨o1,o2,o3⟩:=h.own x hx
  refine ⟨o1,fun hc=>?_,Nat.lt_of_lt_of_le o3 h2.size⟩
  rcases h3 x hc with g | g
  ·exact o2 g
  ·omega
def fstL (l:List Sp):List Sp:=l.foldl (fun acc s=>if s.id∈acc.map Sp.id then acc else acc++[s]) []
theorem fst_snoc (l:List Sp) (s:Sp):fstL (l++[s])=if s.id∈(fstL l).map Sp.id then fstL l else fstL l++[s]:=by
 unfold fstL
 rw [List.foldl_append]
 rfl
theorem fst_ids (l:List Sp):((fstL l).map Sp.id).Nodup∧(∀y,y∈(fstL l).map Sp.id↔y∈l.map Sp.id)∧(∀s∈fstL l,s∈l)∧(fstL l).length≤l.length:=by
 have key:∀r:List Sp,((fstL r.reverse).map Sp.id).Nodup∧(∀y,y∈(fstL r.reverse).map Sp.id↔y∈r.reverse.map Sp.id)∧(∀s∈fstL r.reverse,s∈r.reverse)∧(fstL r.reverse).length≤r.reverse.length:=by
  intro r
  induction r with
  |nil=>refine ⟨List.nodup_nil,fun y=>Iff.rfl,by simp [fstL],Nat.le_refl _⟩
  |cons s r ih=>
   obtain ⟨h1,h2,h3,h4⟩:=ih
   rw [List.reverse_cons,fst_snoc]
   split
   ·rename_i hc
    refine ⟨h1,fun y=>?_,fun u hu=>List.mem_append_left _ (h3 u hu),by rw [List.length_append];omega⟩
    rw [h2 y,List.map_append,List.mem_append]
    constructor
    ·exact .inl
    ·rintro (h | h)
     ·exact h
     ·simp at h
      subst h
      exact (h2 _).1 hc
   ·rename_i hc
    refine ⟨?_,fun y=>?_,fun u hu=>?_,by rw [List.length_append,List.length_append];simpa using h4⟩
    ·rw [List.map_append,List.nodup_append]
     refine ⟨h1,by simp,fun a ha b hb=>?_⟩
     simp at hb
     subst hb
     exact fun e=>hc (e ▸ ha)
    ·rw [List.map_append,List.mem_append,List.map_append,List.mem_append,h2 y]
    ·rcases List.mem_append.1 hu with g | g
     ·exact List.mem_append_left _ (h3 u g)
     ·exact List.mem_append_right _ g
 have:=key l.reverse
 rwa [List.reverse_reverse] at this
theorem fst_step {l:List Sp} {k:Nat} {s:Sp} (hs:l[k]? = some s):fstL (l.take (k+1))=if ((l.take k).map Sp.id).count s.id=0 then fstL (l.take k)++[s] else fstL (l.take k):=by
 obtain ⟨g1,g2⟩:=List.getElem?_eq_some_iff.1 hs
 rw [List.take_succ_eq_append_getElem g1,g2,fst_snoc]
 have h:=(fst_ids (l.take k)).2.1 s.id
 by_cases hc:s.id∈(l.take k).map Sp.id
 ·rw [if_pos (h.2 hc),if_neg (by rw [List.count_eq_zero];exact fun e=>e hc)]
 ·rw [if_neg (fun e=>hc (h.1 e)),if_pos (List.count_eq_zero.2 hc)]
end Go.Proofs.YtkbaaonchdeneaaGreat.PSp
