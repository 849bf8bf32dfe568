/- Lists of things in the order of their names; plainly. No program. Chapter 26 plainly: what a model has, what each operation does and tells. No program. What chapter 26's laws lean on, plainly: which items lie in 64 bits, which points lie over others, which is the lowest. No program. The tree over some leaves, as the list of its nodes: left, right, the node. No program. A cover, plainly: how often the nodes are covered, what is known of them, which gaps that is. No program. A cover, plainly: how many nodes are entered, at most. No program. -/
import Derived.WalkKit
import Derived.Test.YtkmnbodlciepaaaGreatPk1
import Derived.Test.YtkmnbodlciepaaaGreatPk4
namespace Go.Proofs.YtkmnbodlciepaaaGreat
section
variable {α:Type} (key:α→Nat)
def Asc (l:List α):Prop:=(l.map key).Pairwise (· < ·)
def findK (l:List α) (k:Nat):Option α:=l.find? fun x=>key x==k
def insA (x:α) (l:List α):List α:=(l.filter fun y=>decide (key y<key x))++x::l.filter fun y=>decide (key x<key y)
def delA (k:Nat) (l:List α):List α:=l.filter fun y=>key y != k
variable {key} {l:List α}
theorem Asc.nil:Asc key ([]:List α):=List.Pairwise.nil
theorem findK_some {k:Nat} {x:α} (h:findK key l k=some x):x∈l∧key x=k:=by
 unfold findK at h
 exact ⟨List.mem_of_find?_eq_some h,by have:=List.find?_some h;simpa using this⟩
theorem Asc.inj (h:Asc key l) {x y:α} (hx:x∈l) (hy:y∈l) (e:key x=key y):x=y:=by
 unfold Asc at h
 obtain ⟨i,hi,rfl⟩:=List.getElem_of_mem hx
 obtain ⟨j,hj,rfl⟩:=List.getElem_of_mem hy
 rw [List.pairwise_map,List.pairwise_iff_getElem] at h
 rcases Nat.lt_trichotomy i j with h1 | h1 | h1
 ·have:=h i j hi hj h1;omega
 ·subst h1;rfl
 ·have:=h j i hj hi h1;omega
theorem Asc.find (h:Asc key l) {x:α} (hx:x∈l):findK key l (key x)=some x:=by
 cases e:findK key l (key x) with
 |none=>
  unfold findK at e
  rw [List.find?_eq_none] at e
  exact absurd (by simp) (e x hx)
 |some y=>
  obtain ⟨h1,h2⟩:=findK_some e
  rw [h.inj h1 hx h2]
theorem findK_none {k:Nat}:findK key l k=none↔∀x∈l,key x≠k:=by
 unfold findK
 rw [List.find?_eq_none]
 simp
theorem Asc.filter (h:Asc key l) (p:α→Bool):Asc key (l.filter p):=by
 unfold Asc at h ⊢
 rw [List.pairwise_map] at h ⊢
 exact h.filter p
theorem mem_insA {x y:α} (hn:∀z∈l,key z≠key x):y∈insA key x l↔y=x∨y∈l:=by
 unfold insA
 simp only [List.mem_append,List.mem_filter,List.mem_cons,decide_eq_true_eq]
 constructor
 ·rintro (h | h | h)
  ·exact .inr h.1
  ·exact .inl h
  ·exact .inr h.1
 ·rintro (h | h)
  ·exact .inr (.inl h)
  ·have:=hn y h
   rcases Nat.lt_or_gt_of_ne this with h1 | h1
   ·exact .inl ⟨h,h1⟩
   ·exact .inr (.inr ⟨h,h1⟩)
theorem Asc.ins (h:Asc key l) (x:α):Asc key (insA key x l):=by
 unfold Asc insA at *
 rw [List.pairwise_map] at *
 rw [List.pairwise_append]
 refine ⟨h.filter _,?_,?_⟩
 ·rw [List.pairwise_cons]
  refine ⟨fun y hy=>?_,h.filter _⟩
  have:=(List.mem_filter.1 hy).2
  simpa using this
 ·intro a ha b hb
  have h1:=(List.mem_filter.1 ha).2
  simp at h1
  rcases List.mem_cons.1 hb with rfl | hb
  ·exact h1
  ·have h2:=(List.mem_filter.1 hb).2
   simp at h2
   omega
theorem Asc.del (h:Asc key l) (k:Nat):Asc key (delA key k l):=h.filter _
theorem findK_ins (h:Asc key l) {x:α} (hn:findK key l (key x)=none) (k:Nat):findK key (insA key x l) k=if k=key x then some x else findK key l k:=by
 have hn':=findK_none.1 hn
 by_cases e:k=key x
 ·rw [if_pos e,e]
  exact (h.ins x).find ((mem_insA hn').2 (.inl rfl))
 ·rw [if_neg e]
  cases e2:findK key l k with
  |none=>
   rw [findK_none] at e2 ⊢
   intro y hy
   rcases (mem_insA hn').1 hy with rfl | hy
   ·exact Ne.symm e
   ·exact e2 y hy
  |some y=>
   obtain ⟨h1,rfl⟩:=findK_some e2
   exact (h.ins x).find ((mem_insA hn').2 (.inr h1))
theorem findK_del (h:Asc key l) (k j:Nat):findK key (delA key k l) j=if j=k then none else findK key l j:=by
 by_cases e:j=k
 ·subst e
  rw [if_pos rfl,findK_none]
  intro y hy
  have:=(List.mem_filter.1 hy).2
  simpa using this
 ·rw [if_neg e]
  cases e2:findK key l j with
  |none=>
   rw [findK_none] at e2 ⊢
   exact fun y hy=>e2 y (List.mem_filter.1 hy).1
  |some y=>
   obtain ⟨h1,rfl⟩:=findK_some e2
   exact (h.del k).find (List.mem_filter.2 ⟨h1,by simpa using e⟩)
theorem filter_split (h:Asc key l) (k:Nat):(l.filter fun y=>decide (key y<k))++(l.filter fun y=>decide (k≤key y))=l:=by
 induction l with
 |nil=>rfl
 |cons a l ih=>
  have h':Asc key l:=by unfold Asc at *;exact (List.pairwise_cons.1 h).2
  have hall:∀y∈l,key a<key y:=by
   unfold Asc at h
   rw [List.map_cons,List.pairwise_cons] at h
   exact fun y hy=>h.1 _ (List.mem_map.2 ⟨y,hy,rfl⟩)
  by_cases e:key a<k
  ·rw [List.filter_cons,List.filter_cons,if_pos (by simpa using e),if_neg (by simpa using e),List.cons_append,ih h']
  ·have e1:(l.filter fun y=>decide (key y<k)) = []:=by
    rw [List.filter_eq_nil_iff]
    intro y hy
    have:=hall y hy
    simp;omega
   have e2:(l.filter fun y=>decide (k≤key y))=l:=by
    rw [List.filter_eq_self]
    intro y hy
    have:=hall y hy
    simp;omega
   rw [List.filter_cons,List.filter_cons,if_neg (by simpa using e),if_pos (by simp;omega),e1,e2];rfl
theorem ins_len (h:Asc key l) {x:α} (hn:findK key l (key x)=none):(insA key x l).length=l.length+1:=by
 have hn':=findK_none.1 hn
 unfold insA
 have e:(l.filter fun y=>decide (key x<key y))=l.filter fun y=>decide (key x≤key y):=by
  refine List.filter_congr fun y hy=>?_
  have:=hn' y hy
  rw [decide_eq_decide];omega
 have:=congrArg List.length (filter_split h (key x))
 rw [List.length_append] at this
 rw [List.length_append,List.length_cons,e]
 omega
theorem del_len (h:Asc key l) {x:α} {k:Nat} (hs:findK key l k=some x):(delA key k l).length+1=l.length:=by
 obtain ⟨h1,rfl⟩:=findK_some hs
 unfold delA
 clear hs
 induction l with
 |nil=>cases h1
 |cons a l ih=>
  have h':Asc key l:=by unfold Asc at *;exact (List.pairwise_cons.1 h).2
  have hall:∀y∈l,key a<key y:=by
   unfold Asc at h
   rw [List.map_cons,List.pairwise_cons] at h
   exact fun y hy=>h.1 _ (List.mem_map.2 ⟨y,hy,rfl⟩)
  rcases List.mem_cons.1 h1 with rfl | h1
  ·rw [List.filter_cons,if_neg (by simp),List.filter_eq_self.2 fun y hy=>by have:=hall y hy;simp;omega];rfl
  ·have:=hall x h1
   rw [List.filter_cons,if_pos (by simp;omega),List.length_cons,List.length_cons,ih h' h1]
end
end Go.Proofs.YtkmnbodlciepaaaGreat
namespace Go.Proofs.YtkmnbodlciepaaaGreat
structure Pt where
 x:Int
 y:Int
 id:Nat
structure Sp where
 lo:Int
 hi:Int
 id:Nat
structure OpP where
 code:Nat
 a:Int
 b:Int
 c:Int
 d:Int
 id:Nat
structure RepP where
 err:Nat
 ids:List Nat
 cnt:Nat
 yes:Bool
 wide:Nat
structure Md where
 room:Nat
 ps:List Pt
 ss:List Sp
 bs:List Bx
def stabBM (lo hi x:Int):Bool:=decide (lo≤x)&&decide (x≤hi)
def inBM (b:Bx) (x y:Int):Bool:=stabBM b.x1 b.x2 x&&stabBM b.y1 b.y2 y
def overB (p q:Pt):Bool:=decide (q.x≤p.x)&&(decide (q.y≤p.y)&&(!decide (p.x=q.x)||!decide (p.y=q.y)))
def lowB (p q:Pt):Bool:=decide (p.y<q.y)||(decide (p.y=q.y)&&decide (p.id<q.id))
def meetB (s:Sp) (lo hi:Int):Bool:=decide (max s.lo lo≤min s.hi hi)
def cornB (p:Pt) (a b c:Int):Bool:=
 if c=0 then decide (p.x≤a)&&decide (p.y≤b) else
 if c=1 then decide (a≤p.x)&&decide (p.y≤b) else
 if c=2 then decide (p.x≤a)&&decide (b≤p.y) else
 if c=3 then decide (a≤p.x)&&decide (b≤p.y) else false
def err (e:Nat):RepP:=⟨e,[],0,false,0⟩
def cntR (n:Nat):RepP:=⟨0,[],n,false,0⟩
def idsR (l:List Nat):RepP:=⟨0,l,0,false,0⟩
def yesR (b:Bool):RepP:=⟨0,[],0,b,0⟩
def wideR (n:Nat):RepP:=⟨0,[],0,false,n⟩
section
variable {α:Type} (key:α→Nat)
def comeM (room:Nat) (l:List α) (x:α):List α×RepP:=
 if (findK key l (key x)).isSome then (l,err 262) else if room≤l.length then (l,err 5) else (insA key x l,cntR (l.length+1))
def loseM (l:List α) (k:Nat):List α×RepP:=
 if (findK key l k).isSome then (delA key k l,cntR (l.length - 1)) else (l,err 263)
def namesM (l:List α) (p:α→Bool):List Nat:=(l.filter p).map key
end
def OpP.pt (o:OpP):Pt:=⟨o.a,o.b,o.id⟩
def OpP.sp (o:OpP):Sp:=⟨o.a,o.b,o.id⟩
def OpP.bx (o:OpP):Bx:=⟨o.a,o.b,o.c,o.d,o.id⟩
def changeM (m:Md) (o:OpP):Md×RepP:=
 if o.code=1 then ((({ m with ps:=(comeM Pt.id m.room m.ps o.pt).1 }):Md),(comeM Pt.id m.room m.ps o.pt).2) else
 if o.code=2 then (if o.a≤o.b then ((({ m with ss:=(comeM Sp.id m.room m.ss o.sp).1 }):Md),(comeM Sp.id m.room m.ss o.sp).2) else (m,err 261)) else
 if o.code=3 then (if o.a≤o.b∧o.c≤o.d then ((({ m with bs:=(comeM Bx.id m.room m.bs o.bx).1 }):Md),(comeM Bx.id m.room m.bs o.bx).2) else (m,err 261)) else
 if o.code=4 then ((({ m with ps:=(loseM Pt.id m.ps o.id).1 }):Md),(loseM Pt.id m.ps o.id).2) else
 if o.code=5 then ((({ m with ss:=(loseM Sp.id m.ss o.id).1 }):Md),(loseM Sp.id m.ss o.id).2) else
 ((({ m with bs:=(loseM Bx.id m.bs o.id).1 }):Md),(loseM Bx.id m.bs o.id).2)
def askP (l:List Pt) (o:OpP) (p:Pt):Bool:=
 if o.code=7∨o.code=8 then inBM ⟨o.a,o.b,o.c,o.d,0⟩ p.x p.y else
 if o.code=9∨o.code=10 then inBM ⟨o.a,o.b,-9223372036854775808,o.c,0⟩ p.x p.y else
 if o.code=11∨o.code=12 then cornB p o.a o.b o.c else
 if o.code=13 then (inBM ⟨o.a,o.b,-9223372036854775808,9223372036854775807,0⟩ p.x p.y&&(namesM Pt.id l fun q=>inBM ⟨o.a,o.b,-9223372036854775808,9223372036854775807,0⟩ q.x q.y&&lowB q p).isEmpty) else
 (namesM Pt.id l fun q=>overB q p).isEmpty
def pointM (m:Md) (o:OpP):RepP:=
 let ids:=namesM Pt.id m.ps (askP m.ps o)
 if o.code=8∨o.code=12 then cntR ids.length else if o.code=10 then yesR (decide (0<ids.length)) else idsR ids
def otherM (A R:List Bx→Nat) (m:Md) (o:OpP):RepP:=
 if o.code=15 then idsR (namesM Sp.id m.ss fun s=>stabBM s.lo s.hi o.a) else
 if o.code=16 then cntR (namesM Sp.id m.ss fun s=>stabBM s.lo s.hi o.a).length else
 if o.code=17 then idsR (namesM Sp.id m.ss fun s=>meetB s o.a o.b) else
 if o.code=18 then wideR (A m.bs) else
 if o.code=19 then wideR (R m.bs) else
 idsR (namesM Bx.id m.bs fun b=>inBM b o.a o.b)
def doM (A R:List Bx→Nat) (m:Md) (o:OpP):Md×RepP:=
 if o.code<1∨20<o.code then (m,err 260) else
 if o.code≤6 then changeM m o else
 if o.code≤14 then (m,pointM m o) else (m,otherM A R m o)
structure Md.ok (m:Md):Prop where
 ps:Asc Pt.id m.ps
 ss:Asc Sp.id m.ss
 bs:Asc Bx.id m.bs
 pi:∀x∈m.ps,x.id<4294967296
 si:∀x∈m.ss,x.id<4294967296
 bi:∀x∈m.bs,x.id<4294967296
theorem names_rise {α:Type} {key:α→Nat} {l:List α} (h:Asc key l) (p:α→Bool):(namesM key l p).Pairwise (· < ·):=h.filter p
theorem mem_names {α:Type} {key:α→Nat} {l:List α} (h:Asc key l) (p:α→Bool) (k:Nat):k∈namesM key l p↔∃x,findK key l k=some x∧p x=true:=by
 unfold namesM
 simp only [List.mem_map,List.mem_filter]
 constructor
 ·rintro ⟨x,⟨h1,h2⟩,rfl⟩
  exact ⟨x,h.find h1,h2⟩
 ·rintro ⟨x,h1,h2⟩
  obtain ⟨h3,rfl⟩:=findK_some h1
  exact ⟨x,⟨h3,h2⟩,rfl⟩
section
variable {α:Type} {key:α→Nat} {l:List α}
theorem comeM_asc (h:Asc key l) (room:Nat) (x:α):Asc key (comeM key room l x).1:=by
 unfold comeM;split
 ·exact h
 ·split
  ·exact h
  ·exact h.ins x
theorem loseM_asc (h:Asc key l) (k:Nat):Asc key (loseM key l k).1:=by
 unfold loseM;split
 ·exact h.del k
 ·exact h
theorem comeM_mem (room:Nat) (x:α) {y:α} (hy:y∈(comeM key room l x).1):y=x∨y∈l:=by
 unfold comeM at hy;split at hy
 ·exact .inr hy
 ·rename_i hn
  split at hy
  ·exact .inr hy
  ·exact (mem_insA (findK_none.1 (by simpa using hn))).1 hy
theorem loseM_mem (k:Nat) {y:α} (hy:y∈(loseM key l k).1):y∈l:=by
 unfold loseM at hy;split at hy
 ·exact (List.mem_filter.1 hy).1
 ·exact hy
theorem comeM_len (h:Asc key l) (room:Nat) (x:α):(comeM key room l x).1.length≤l.length+1:=by
 unfold comeM;split
 ·simp
 ·rename_i hn
  split
  ·simp
  ·rw [ins_len h (by simpa using hn)];exact Nat.le_refl _
theorem loseM_len (k:Nat):(loseM key l k).1.length≤l.length:=by
 unfold loseM;split
 ·exact List.length_filter_le _ _
 ·exact Nat.le_refl _
end
theorem doM_ok {A R:List Bx→Nat} {m:Md} (h:m.ok) {o:OpP} (ho:o.id<4294967296):(doM A R m o).1.ok:=by
 have k1:∀x∈(comeM Pt.id m.room m.ps o.pt).1,x.id<4294967296:=fun x hx=>by
  rcases comeM_mem _ _ hx with e | hx
  ·rw [e];exact ho
  ·exact h.pi x hx
 have k2:∀x∈(comeM Sp.id m.room m.ss o.sp).1,x.id<4294967296:=fun x hx=>by
  rcases comeM_mem _ _ hx with e | hx
  ·rw [e];exact ho
  ·exact h.si x hx
 have k3:∀x∈(comeM Bx.id m.room m.bs o.bx).1,x.id<4294967296:=fun x hx=>by
  rcases comeM_mem _ _ hx with e | hx
  ·rw [e];exact ho
  ·exact h.bi x hx
 obtain ⟨r,hr⟩:∃r,doM A R m o=r:=⟨_,rfl⟩
 rw [hr]
 unfold doM changeM at hr
 split at hr
 ·subst hr;exact h
 split at hr
 ·split at hr
  ·subst hr;exact ⟨comeM_asc h.ps _ _,h.ss,h.bs,k1,h.si,h.bi⟩
  split at hr
  ·split at hr
   ·subst hr;exact ⟨h.ps,comeM_asc h.ss _ _,h.bs,h.pi,k2,h.bi⟩
   ·subst hr;exact h
  split at hr
  ·split at hr
   ·subst hr;exact ⟨h.ps,h.ss,comeM_asc h.bs _ _,h.pi,h.si,k3⟩
   ·subst hr;exact h
  split at hr
  ·subst hr;exact ⟨loseM_asc h.ps _,h.ss,h.bs,fun x hx=>h.pi x (loseM_mem _ hx),h.si,h.bi⟩
  split at hr
  ·subst hr;exact ⟨h.ps,loseM_asc h.ss _,h.bs,h.pi,fun x hx=>h.si x (loseM_mem _ hx),h.bi⟩
  ·subst hr;exact ⟨h.ps,h.ss,loseM_asc h.bs _,h.pi,h.si,fun x hx=>h.bi x (loseM_mem _ hx)⟩
 split at hr<;>(subst hr;exact h)
theorem doM_len {A R:List Bx→Nat} {m:Md} (h:m.ok) {o:OpP} {N:Nat} (h1:m.ps.length≤N) (h2:m.ss.length≤N) (h3:m.bs.length≤N) :
 (doM A R m o).1.ps.length≤N+1∧(doM A R m o).1.ss.length≤N+1∧(doM A R m o).1.bs.length≤N+1:=by
 have k1:(comeM Pt.id m.room m.ps o.pt).1.length≤m.ps.length+1:=comeM_len h.ps _ _
 have k2:(comeM Sp.id m.room m.ss o.sp).1.length≤m.ss.length+1:=comeM_len h.ss _ _
 have k3:(comeM Bx.id m.room m.bs o.bx).1.length≤m.bs.length+1:=comeM_len h.bs _ _
 have k4:(loseM Pt.id m.ps o.id).1.length≤m.ps.length:=loseM_len _
 have k5:(loseM Sp.id m.ss o.id).1.length≤m.ss.length:=loseM_len _
 have k6:(loseM Bx.id m.bs o.id).1.length≤m.bs.length:=loseM_len _
 obtain ⟨r,hr⟩:∃r,doM A R m o=r:=⟨_,rfl⟩
 rw [hr]
 unfold doM changeM at hr
 split at hr
 ·subst hr;exact ⟨by dsimp only;omega,by dsimp only;omega,by dsimp only;omega⟩
 split at hr
 ·split at hr
  ·subst hr;exact ⟨by dsimp only;omega,by dsimp only;omega,by dsimp only;omega⟩
  split at hr
  ·split at hr<;>(subst hr;exact ⟨by dsimp only;omega,by dsimp only;omega,by dsimp only;omega⟩)
  split at hr
  ·split at hr<;>(subst hr;exact ⟨by dsimp only;omega,by dsimp only;omega,by dsimp only;omega⟩)
  split at hr
  ·subst hr;exact ⟨by dsimp only;omega,by dsimp only;omega,by dsimp only;omega⟩
  split at hr
  ·subst hr;exact ⟨by dsimp only;omega,by dsimp only;omega,by dsimp only;omega⟩
  ·subst hr;exact ⟨by dsimp only;omega,by dsimp only;omega,by dsimp only;omega⟩
 split at hr<;>(subst hr;exact ⟨by dsimp only;omega,by dsimp only;omega,by dsimp only;omega⟩)
end Go.Proofs.YtkmnbodlciepaaaGreat
namespace Go.Proofs.YtkmnbodlciepaaaGreat
def z64 (x:Int):Prop:=-9223372036854775808≤x∧x≤9223372036854775807
structure Md.in64 (m:Md):Prop where
 ps:∀p∈m.ps,z64 p.x∧z64 p.y
 ss:∀s∈m.ss,z64 s.lo∧z64 s.hi
 bs:∀b∈m.bs,b.in64
def OpP.in64 (o:OpP):Prop:=(z64 o.a∧z64 o.b∧z64 o.c∧z64 o.d)∧o.id<4294967296∧o.code<256
theorem in64_nil (room:Nat):Md.in64 ⟨room,[],[],[]⟩:=⟨by simp,by simp,by simp⟩
theorem doM_in64 {A R:List Bx→Nat} {m:Md} (h:m.in64) {o:OpP} (ho:o.in64):(doM A R m o).1.in64:=by
 obtain ⟨⟨oa,ob,oc,od⟩,_,_⟩:=ho
 have k1:∀x∈(comeM Pt.id m.room m.ps o.pt).1,z64 x.x∧z64 x.y:=fun x hx=>by
  rcases comeM_mem _ _ hx with e | hx
  ·rw [e];exact ⟨oa,ob⟩
  ·exact h.ps x hx
 have k2:∀x∈(comeM Sp.id m.room m.ss o.sp).1,z64 x.lo∧z64 x.hi:=fun x hx=>by
  rcases comeM_mem _ _ hx with e | hx
  ·rw [e];exact ⟨oa,ob⟩
  ·exact h.ss x hx
 have k3:∀x∈(comeM Bx.id m.room m.bs o.bx).1,x.in64:=fun x hx=>by
  rcases comeM_mem _ _ hx with e | hx
  ·rw [e];exact ⟨oa,ob,oc,od⟩
  ·exact h.bs x hx
 obtain ⟨r,hr⟩:∃r,doM A R m o=r:=⟨_,rfl⟩
 rw [hr]
 unfold doM changeM at hr
 split at hr
 ·subst hr;exact h
 split at hr
 ·split at hr
  ·subst hr;exact ⟨k1,h.ss,h.bs⟩
  split at hr
  ·split at hr
   ·subst hr;exact ⟨h.ps,k2,h.bs⟩
   ·subst hr;exact h
  split at hr
  ·split at hr
   ·subst hr;exact ⟨h.ps,h.ss,k3⟩
   ·subst hr;exact h
  split at hr
  ·subst hr;exact ⟨fun x hx=>h.ps x (loseM_mem _ hx),h.ss,h.bs⟩
  split at hr
  ·subst hr;exact ⟨h.ps,fun x hx=>h.ss x (loseM_mem _ hx),h.bs⟩
  ·subst hr;exact ⟨h.ps,h.ss,fun x hx=>h.bs x (loseM_mem _ hx)⟩
 split at hr<;>(subst hr;exact h)
theorem mem_namesM {α:Type} {key:α→Nat} {l:List α} (h:Asc key l) (p:α→Bool) {x:α} (hx:x∈l):key x∈namesM key l p↔p x=true:=by
 rw [mem_names h]
 constructor
 ·rintro ⟨y,hy,hp⟩
  rw [h.find hx] at hy
  cases hy;exact hp
 ·intro hp;exact ⟨x,h.find hx,hp⟩
theorem do_other {A R:List Bx→Nat} {m:Md} {o:OpP} (h:15≤o.code∧o.code≤20):doM A R m o=(m,otherM A R m o):=by
 unfold doM
 rw [if_neg (by omega),if_neg (by omega),if_neg (by omega)]
theorem do_same {A R:List Bx→Nat} {m:Md} {o:OpP} (h:7≤o.code):(doM A R m o).1=m:=by
 unfold doM
 split
 ·rfl
 ·rw [if_neg (by omega)];split<;>rfl
end Go.Proofs.YtkmnbodlciepaaaGreat
namespace Go.Proofs.YtkmnbodlciepaaaGreat
def mid (f t:Nat):Nat:=t - (t - f) / 2
theorem mid_in {f t:Nat} (h:f+1<t):f<mid f t∧mid f t<t:=by unfold mid;omega
section
variable {α:Type}
def postL (g:Nat→Nat→Nat→Nat→Nat→α) (f t pf pt o:Nat):List α:=
 if _h:f+1<t then
  postL g f (mid f t) f t o++(postL g (mid f t) t f t (o+2*(mid f t - f) - 1)++[g f t pf pt (o+2*(t - f) - 2)])
 else [g f t pf pt o]
termination_by t - f
decreasing_by all_goals (have:=mid_in (by assumption);omega)
theorem postL_leaf (g:Nat→Nat→Nat→Nat→Nat→α) {f t:Nat} (pf pt o:Nat) (h:¬f+1<t):postL g f t pf pt o = [g f t pf pt o]:=by
 rw [postL,dif_neg h]
theorem postL_node (g:Nat→Nat→Nat→Nat→Nat→α) {f t:Nat} (pf pt o:Nat) (h:f+1<t) :
 postL g f t pf pt o=postL g f (mid f t) f t o++(postL g (mid f t) t f t (o+2*(mid f t - f) - 1)++[g f t pf pt (o+2*(t - f) - 2)]):=by
 rw [postL,dif_pos h]
theorem postL_len (g:Nat→Nat→Nat→Nat→Nat→α):∀(d f t pf pt o:Nat),t - f≤d→f<t→(postL g f t pf pt o).length=2*(t - f) - 1:=by
 intro d
 induction d with
 |zero=>intro f t pf pt o h1 h2;omega
 |succ d ih=>
  intro f t pf pt o h1 h2
  by_cases h:f+1<t
  ·have:=mid_in h
   rw [postL_node g pf pt o h,List.length_append,List.length_append,ih f (mid f t) f t o (by omega) (by omega),ih (mid f t) t f t _ (by omega) (by omega)]
   simp only [List.length_singleton]
   omega
  ·rw [postL_leaf g pf pt o h]
   simp only [List.length_singleton]
   omega
theorem postL_length (g:Nat→Nat→Nat→Nat→Nat→α) {f t:Nat} (pf pt o:Nat) (h:f<t):(postL g f t pf pt o).length=2*(t - f) - 1:=
 postL_len g (t - f) f t pf pt o (Nat.le_refl _) h
def kidsL (g:Nat→Nat→Nat→Nat→Nat→α) (f t o:Nat):List α:=
 if f+1<t then postL g f (mid f t) f t o++postL g (mid f t) t f t (o+2*(mid f t - f) - 1) else []
theorem postL_kids (g:Nat→Nat→Nat→Nat→Nat→α) {f t:Nat} (pf pt o:Nat) (h:f<t):postL g f t pf pt o=kidsL g f t o++[g f t pf pt (o+2*(t - f) - 2)]:=by
 unfold kidsL
 by_cases h1:f+1<t
 ·rw [postL_node g pf pt o h1,if_pos h1,List.append_assoc]
 ·rw [postL_leaf g pf pt o h1,if_neg h1,show o+2*(t - f) - 2=o by omega]
  rfl
theorem kidsL_length (g:Nat→Nat→Nat→Nat→Nat→α) {f t:Nat} (o:Nat) (h:f<t):(kidsL g f t o).length=2*(t - f) - 2:=by
 have h1:=postL_length g 0 0 o h
 rw [postL_kids g 0 0 o h,List.length_append,List.length_singleton] at h1
 omega
theorem postL_congr (g g':Nat→Nat→Nat→Nat→Nat→α):∀(d f t pf pt o:Nat),t - f≤d→f<t→
 (∀o',g f t pf pt o'=g' f t pf pt o')→(∀f' t' pf' pt' o',f≤f'→f'<t'→t'≤t→f≤pf'→pt'≤t→g f' t' pf' pt' o'=g' f' t' pf' pt' o')→postL g f t pf pt o=postL g' f t pf pt o:=by
 intro d
 induction d with
 |zero=>intro f t pf pt o h1 h2;omega
 |succ d ih=>
  intro f t pf pt o h1 h2 hr hk
  by_cases h:f+1<t
  ·have:=mid_in h
   rw [postL_node g pf pt o h,postL_node g' pf pt o h,hr,
    ih f (mid f t) f t o (by omega) (by omega) (fun o'=>hk _ _ _ _ _ (by omega) (by omega) (by omega) (by omega) (by omega)) (fun f' t' pf' pt' o' a1 a2 a3 a4 a5=>hk _ _ _ _ _ (by omega) (by omega) (by omega) (by omega) (by omega)),
    ih (mid f t) t f t _ (by omega) (by omega) (fun o'=>hk _ _ _ _ _ (by omega) (by omega) (by omega) (by omega) (by omega)) (fun f' t' pf' pt' o' a1 a2 a3 a4 a5=>hk _ _ _ _ _ (by omega) (by omega) (by omega) (by omega) (by omega))]
  ·rw [postL_leaf g pf pt o h,postL_leaf g' pf pt o h,hr]
end
end Go.Proofs.YtkmnbodlciepaaaGreat
namespace Go.Proofs.YtkmnbodlciepaaaGreat
abbrev Cnt:=Nat→Nat→Nat→Nat→Int
structure Part where
 long:Int
 runs:Int
 first:Bool
 last:Bool
deriving DecidableEq
def thenP (p q:Part):Part:=⟨p.long+q.long,p.runs+q.runs - (if p.last&&q.first then 1 else 0),p.first,q.last⟩
def partV (c:Cnt) (M:Nat→Int) (f t pf pt:Nat):Part:=
 if 0<c f t pf pt then ⟨M t - M f,1,true,true⟩
 else if _h:f+1<t then thenP (partV c M f (mid f t) f t) (partV c M (mid f t) t f t)
 else ⟨0,0,false,false⟩
termination_by t - f
decreasing_by all_goals (have:=mid_in (by assumption);omega)
def gapsL (c:Cnt) (f t pf pt:Nat):List Bool:=
 if 0<c f t pf pt then List.replicate (t - f) true
 else if _h:f+1<t then gapsL c f (mid f t) f t++gapsL c (mid f t) t f t
 else [false]
termination_by t - f
decreasing_by all_goals (have:=mid_in (by assumption);omega)
def ent (a b:Nat) (f t:Nat):Nat:=
 if t≤a∨b≤f then 1 else if a≤f∧t≤b then 1
 else if _h:f+1<t then 1+(ent a b f (mid f t)+ent a b (mid f t) t) else 1
termination_by t - f
decreasing_by all_goals (have:=mid_in (by assumption);omega)
theorem partV_pos {c:Cnt} {M:Nat→Int} {f t pf pt:Nat} (h:0<c f t pf pt):partV c M f t pf pt=⟨M t - M f,1,true,true⟩:=by rw [partV,if_pos h]
theorem partV_node {c:Cnt} {M:Nat→Int} {f t pf pt:Nat} (h:¬0<c f t pf pt) (h1:f+1<t):partV c M f t pf pt=thenP (partV c M f (mid f t) f t) (partV c M (mid f t) t f t):=by rw [partV,if_neg h,dif_pos h1]
theorem partV_leaf {c:Cnt} {M:Nat→Int} {f t pf pt:Nat} (h:¬0<c f t pf pt) (h1:¬f+1<t):partV c M f t pf pt=⟨0,0,false,false⟩:=by rw [partV,if_neg h,dif_neg h1]
theorem gapsL_pos {c:Cnt} {f t pf pt:Nat} (h:0<c f t pf pt):gapsL c f t pf pt=List.replicate (t - f) true:=by rw [gapsL,if_pos h]
theorem gapsL_node {c:Cnt} {f t pf pt:Nat} (h:¬0<c f t pf pt) (h1:f+1<t):gapsL c f t pf pt=gapsL c f (mid f t) f t++gapsL c (mid f t) t f t:=by rw [gapsL,if_neg h,dif_pos h1]
theorem gapsL_leaf {c:Cnt} {f t pf pt:Nat} (h:¬0<c f t pf pt) (h1:¬f+1<t):gapsL c f t pf pt = [false]:=by rw [gapsL,if_neg h,dif_neg h1]
theorem ent_out {a b f t:Nat} (h:t≤a∨b≤f):ent a b f t=1:=by rw [ent,if_pos h]
theorem ent_in {a b f t:Nat} (h:a≤f∧t≤b):ent a b f t=1:=by
 rw [ent]
 by_cases h0:t≤a∨b≤f
 ·rw [if_pos h0]
 ·rw [if_neg h0,if_pos h]
theorem ent_node {a b f t:Nat} (h:¬(t≤a∨b≤f)) (h1:¬(a≤f∧t≤b)) (h2:f+1<t):ent a b f t=1+(ent a b f (mid f t)+ent a b (mid f t) t):=by rw [ent,if_neg h,if_neg h1,dif_pos h2]
def SameOn (c c':Cnt) (f t pf pt:Nat):Prop:=
 c f t pf pt=c' f t pf pt∧∀f' t' pf' pt',f≤f'→f'<t'→t'≤t→f≤pf'→pt'≤t→c f' t' pf' pt'=c' f' t' pf' pt'
theorem SameOn.left {c c':Cnt} {f t pf pt:Nat} (h:SameOn c c' f t pf pt) (h1:f+1<t):SameOn c c' f (mid f t) f t:=by
 have:=mid_in h1
 exact ⟨h.2 _ _ _ _ (by omega) (by omega) (by omega) (by omega) (by omega),fun f' t' pf' pt' a1 a2 a3 a4 a5=>h.2 _ _ _ _ (by omega) (by omega) (by omega) (by omega) (by omega)⟩
theorem SameOn.right {c c':Cnt} {f t pf pt:Nat} (h:SameOn c c' f t pf pt) (h1:f+1<t):SameOn c c' (mid f t) t f t:=by
 have:=mid_in h1
 exact ⟨h.2 _ _ _ _ (by omega) (by omega) (by omega) (by omega) (by omega),fun f' t' pf' pt' a1 a2 a3 a4 a5=>h.2 _ _ _ _ (by omega) (by omega) (by omega) (by omega) (by omega)⟩
theorem partV_same {c c':Cnt} {M:Nat→Int}:∀(d f t pf pt:Nat),t - f≤d→SameOn c c' f t pf pt→partV c M f t pf pt=partV c' M f t pf pt:=by
 intro d
 induction d with
 |zero=>
  intro f t pf pt hd h
  by_cases h0:0<c f t pf pt
  ·rw [partV_pos h0,partV_pos (by rw [←h.1];exact h0)]
  ·rw [partV_leaf h0 (by omega),partV_leaf (by rw [←h.1];exact h0) (by omega)]
 |succ d ih=>
  intro f t pf pt hd h
  by_cases h0:0<c f t pf pt
  ·rw [partV_pos h0,partV_pos (by rw [←h.1];exact h0)]
  ·by_cases h1:f+1<t
   ·have:=mid_in h1
    rw [partV_node h0 h1,partV_node (by rw [←h.1];exact h0) h1,ih _ _ _ _ (by omega) (h.left h1),ih _ _ _ _ (by omega) (h.right h1)]
   ·rw [partV_leaf h0 h1,partV_leaf (by rw [←h.1];exact h0) h1]
def can (s:Nat×Nat):Cnt:=fun f t pf pt=>if s.1≤f∧t≤s.2∧¬(s.1≤pf∧pt≤s.2) then 1 else 0
def cntH (H:List (Nat×Nat)):Cnt:=fun f t pf pt=>(H.map fun s=>can s f t pf pt).sum
theorem can_nonneg (s:Nat×Nat) (f t pf pt:Nat):0≤can s f t pf pt:=by unfold can;split<;>simp
theorem cntH_cons (s:Nat×Nat) (H:List (Nat×Nat)) (f t pf pt:Nat):cntH (s::H) f t pf pt=can s f t pf pt+cntH H f t pf pt:=by simp [cntH]
theorem cntH_nonneg (H:List (Nat×Nat)) (f t pf pt:Nat):0≤cntH H f t pf pt:=by
 induction H with
 |nil=>simp [cntH]
 |cons s H ih=>rw [cntH_cons];have:=can_nonneg s f t pf pt;omega
theorem cntH_perm {H H':List (Nat×Nat)} (h:H.Perm H'):cntH H=cntH H':=by
 funext f t pf pt
 unfold cntH
 induction h with
 |nil=>rfl
 |cons _ _ ih=>simp only [List.map_cons,List.sum_cons,ih]
 |swap _ _ _=>simp only [List.map_cons,List.sum_cons];omega
 |trans _ _ ih1 ih2=>exact ih1.trans ih2
theorem cntH_pos {H:List (Nat×Nat)} {f t pf pt:Nat}:0<cntH H f t pf pt↔∃s∈H,s.1≤f∧t≤s.2∧¬(s.1≤pf∧pt≤s.2):=by
 induction H with
 |nil=>simp [cntH]
 |cons s H ih=>
  rw [cntH_cons]
  have h0:=cntH_nonneg H f t pf pt
  by_cases hs:s.1≤f∧t≤s.2∧¬(s.1≤pf∧pt≤s.2)
  ·have h1:can s f t pf pt=1:=by unfold can;rw [if_pos hs]
   rw [h1]
   exact ⟨fun _=>⟨s,by simp,hs⟩,fun _=>by omega⟩
  ·have h1:can s f t pf pt=0:=by unfold can;rw [if_neg hs]
   rw [h1,Int.zero_add,ih]
   constructor
   ·rintro ⟨x,hx,h⟩;exact ⟨x,by simp [hx],h⟩
   ·rintro ⟨x,hx,h⟩
    rcases List.mem_cons.1 hx with rfl | hx
    ·exact (hs h).elim
    ·exact ⟨x,hx,h⟩
theorem can_out {s:Nat×Nat} {f t:Nat} (h:t≤s.1∨s.2≤f) {f' t' pf' pt':Nat} (h1:f≤f') (h2:f'<t') (h3:t'≤t):can s f' t' pf' pt'=0:=by
 unfold can;rw [if_neg (by omega)]
theorem can_below {s:Nat×Nat} {f t:Nat} (h:s.1≤f∧t≤s.2) {f' t' pf' pt':Nat} (h1:f≤pf') (h2:pt'≤t):can s f' t' pf' pt'=0:=by
 unfold can;rw [if_neg (by omega)]
def holdsG (H:List (Nat×Nat)) (i:Nat):Bool:=H.any fun s=>decide (s.1≤i)&&decide (i<s.2)
theorem gapsL_len {c:Cnt}:∀(d f t pf pt:Nat),t - f≤d→f<t→(gapsL c f t pf pt).length=t - f:=by
 intro d
 induction d with
 |zero=>intro f t pf pt h1 h2;omega
 |succ d ih=>
  intro f t pf pt h1 h2
  by_cases h0:0<c f t pf pt
  ·rw [gapsL_pos h0,List.length_replicate]
  ·by_cases h:f+1<t
   ·have:=mid_in h
    rw [gapsL_node h0 h,List.length_append,ih _ _ _ _ (by omega) (by omega),ih _ _ _ _ (by omega) (by omega)]
    omega
   ·rw [gapsL_leaf h0 h]
    simp only [List.length_singleton];omega
theorem gapsL_length {c:Cnt} {f t:Nat} (pf pt:Nat) (h:f<t):(gapsL c f t pf pt).length=t - f:=gapsL_len (t - f) f t pf pt (Nat.le_refl _) h
theorem gapsL_get {H:List (Nat×Nat)}:∀(d f t pf pt i:Nat),t - f≤d→pf≤f→t≤pt→f≤i→i<t→
 (gapsL (cntH H) f t pf pt)[i - f]? = some (H.any fun s=>decide (s.1≤i)&&decide (i<s.2)&&!(decide (s.1≤pf)&&decide (pt≤s.2))):=by
 intro d
 induction d with
 |zero=>intro f t pf pt i h1 h2 h3 h4 h5;omega
 |succ d ih=>
  intro f t pf pt i h1 h2 h3 h4 h5
  by_cases h0:0<cntH H f t pf pt
  ·rw [gapsL_pos h0,List.getElem?_replicate,if_pos (by omega)]
   obtain ⟨s,hs,hs1,hs2,hs3⟩:=cntH_pos.1 h0
   congr 1
   symm
   rw [List.any_eq_true]
   refine ⟨s,hs,?_⟩
   have e1:decide (s.1≤i)=true:=decide_eq_true (by omega)
   have e2:decide (i<s.2)=true:=decide_eq_true (by omega)
   rw [e1,e2]
   by_cases h7:s.1≤pf
   ·have e4:decide (pt≤s.2)=false:=decide_eq_false (by omega)
    rw [e4];simp
   ·have e4:decide (s.1≤pf)=false:=decide_eq_false h7
    rw [e4];simp
  ·have hno:∀s∈H,s.1≤f→t≤s.2→s.1≤pf∧pt≤s.2:=fun s hs a b=>by
    by_cases hc:s.1≤pf∧pt≤s.2
    ·exact hc
    ·exact (h0 (cntH_pos.2 ⟨s,hs,a,b,hc⟩)).elim
   have hsame:(H.any fun s=>decide (s.1≤i)&&decide (i<s.2)&&!(decide (s.1≤f)&&decide (t≤s.2)))=(H.any fun s=>decide (s.1≤i)&&decide (i<s.2)&&!(decide (s.1≤pf)&&decide (pt≤s.2))):=by
    rw [Bool.eq_iff_iff,List.any_eq_true,List.any_eq_true]
    constructor
    ·rintro ⟨s,hs,h⟩
     refine ⟨s,hs,?_⟩
     simp only [Bool.and_eq_true,decide_eq_true_eq,Bool.not_eq_true',Bool.and_eq_false_imp,decide_eq_false_iff_not] at h ⊢
     refine ⟨h.1,fun a b=>?_⟩
     exact h.2 (by omega) (by omega)
    ·rintro ⟨s,hs,h⟩
     refine ⟨s,hs,?_⟩
     simp only [Bool.and_eq_true,decide_eq_true_eq,Bool.not_eq_true',Bool.and_eq_false_imp,decide_eq_false_iff_not] at h ⊢
     refine ⟨h.1,fun a b=>?_⟩
     have:=hno s hs a b
     exact h.2 this.1 this.2
   by_cases h:f+1<t
   ·have hm:=mid_in h
    rw [gapsL_node h0 h,←hsame]
    have hl:=gapsL_length (c:=cntH H) f t hm.1
    by_cases him:i<mid f t
    ·rw [List.getElem?_append_left (by omega)]
     exact ih f (mid f t) f t i (by omega) (by omega) (by omega) h4 him
    ·rw [List.getElem?_append_right (by omega),hl,show i - f - (mid f t - f)=i - mid f t by omega]
     exact ih (mid f t) t f t i (by omega) (by omega) (by omega) (by omega) h5
   ·rw [gapsL_leaf h0 h,←hsame,show i - f=0 by omega]
    simp only [List.getElem?_cons_zero,Option.some.injEq]
    symm
    rw [Bool.eq_false_iff]
    intro hc
    rw [List.any_eq_true] at hc
    obtain ⟨s,hs,h⟩:=hc
    simp only [Bool.and_eq_true,decide_eq_true_eq,Bool.not_eq_true',Bool.and_eq_false_imp,decide_eq_false_iff_not] at h
    exact h.2 (by omega) (by omega)
theorem gaps_all {H:List (Nat×Nat)} {n:Nat} (hn:0<n) (hH:∀s∈H,s.2≤n):gapsL (cntH H) 0 n 0 (n+1)=(List.range n).map (holdsG H):=by
 have hl:=gapsL_length (c:=cntH H) 0 (n+1) hn
 refine List.ext_getElem? fun i=>?_
 by_cases hi:i<n
 ·have:=gapsL_get (H:=H) n 0 n 0 (n+1) i (by omega) (by omega) (by omega) (by omega) hi
  rw [Nat.sub_zero] at this
  rw [this,List.getElem?_map,List.getElem?_range hi,Option.map_some]
  congr 1
  unfold holdsG
  rw [Bool.eq_iff_iff,List.any_eq_true,List.any_eq_true]
  constructor
  ·rintro ⟨s,hs,h⟩
   refine ⟨s,hs,?_⟩
   simp only [Bool.and_eq_true] at h ⊢
   exact h.1
  ·rintro ⟨s,hs,h⟩
   refine ⟨s,hs,?_⟩
   have h2:=hH s hs
   have e:decide (n+1≤s.2)=false:=decide_eq_false (by omega)
   rw [e]
   simpa using h
 ·rw [List.getElem?_eq_none (by omega),List.getElem?_eq_none (by simp;omega)]
def longG (M:Nat→Int):Nat→List Bool→Int
 |_,[]=>0
 |f,b::G=>(if b then M (f+1) - M f else 0)+longG M (f+1) G
def runsG:Bool→List Bool→Nat
 |_,[]=>0
 |p,b::G=>(if b&&!p then 1 else 0)+runsG b G
theorem longG_app (M:Nat→Int) (A B:List Bool):∀f,longG M f (A++B)=longG M f A+longG M (f+A.length) B:=by
 induction A with
 |nil=>intro f;simp [longG]
 |cons a A ih=>
  intro f
  simp only [List.cons_append,longG,ih,List.length_cons]
  rw [show f+1+A.length=f+(A.length+1) by omega]
  omega
theorem longG_true (M:Nat→Int) (k:Nat):∀f,longG M f (List.replicate k true)=M (f+k) - M f:=by
 induction k with
 |zero=>intro f;simp [longG]
 |succ k ih=>
  intro f
  rw [List.replicate_succ,longG,ih,if_pos rfl,show f+1+k=f+(k+1) by omega]
  omega
theorem runsG_app (A B:List Bool):∀p,runsG p (A++B)=runsG p A+runsG (A.getLastD p) B:=by
 induction A with
 |nil=>intro p;simp [runsG]
 |cons a A ih=>
  intro p
  rw [List.cons_append,runsG,runsG,ih,List.getLastD_cons]
  omega
theorem runsG_true (B:List Bool):runsG true B+(if B.headD false then 1 else 0)=runsG false B:=by
 cases B with
 |nil=>rfl
 |cons b B=>cases b<;>simp [runsG]<;>omega
theorem runsG_ones (k:Nat):∀p,runsG p (List.replicate k true)=if 0<k∧p=false then 1 else 0:=by
 induction k with
 |zero=>intro p;simp [runsG]
 |succ k ih=>
  intro p
  rw [List.replicate_succ,runsG,ih]
  cases p<;>simp
def partG (M:Nat→Int) (f:Nat) (G:List Bool):Part:=⟨longG M f G,runsG false G,G.headD false,G.getLastD false⟩
theorem getLastD_app (A B:List Bool) (hB:B≠[]) (d:Bool):(A++B).getLastD d=B.getLastD d:=by
 rw [List.getLastD_eq_getLast?,List.getLastD_eq_getLast?,List.getLast?_append]
 cases h:B.getLast? with
 |none=>exact (hB (List.getLast?_eq_none_iff.1 h)).elim
 |some x=>rfl
theorem headD_app (A B:List Bool) (hA:A≠[]) (d:Bool):(A++B).headD d=A.headD d:=by
 cases A with
 |nil=>exact (hA rfl).elim
 |cons a A=>rfl
theorem partG_app (M:Nat→Int) (f:Nat) (A B:List Bool) (hA:A≠[]) (hB:B≠[]):partG M f (A++B)=thenP (partG M f A) (partG M (f+A.length) B):=by
 unfold partG thenP
 have h2:=runsG_true B
 simp only [longG_app,runsG_app,headD_app A B hA,getLastD_app A B hB,Part.mk.injEq,true_and,and_true]
 cases hl:A.getLastD false
 ·simp
 ·cases hh:B.headD false
  ·rw [hh] at h2
   simp at h2 ⊢;omega
  ·rw [hh] at h2
   simp at h2 ⊢;omega
theorem partV_gaps {c:Cnt} {M:Nat→Int}:∀(d f t pf pt:Nat),t - f≤d→f<t→partV c M f t pf pt=partG M f (gapsL c f t pf pt):=by
 intro d
 induction d with
 |zero=>intro f t pf pt h1 h2;omega
 |succ d ih=>
  intro f t pf pt h1 h2
  by_cases h0:0<c f t pf pt
  ·rw [partV_pos h0,gapsL_pos h0]
   unfold partG
   obtain ⟨k,hk⟩:∃k,t - f=k+1:=⟨t - f - 1,by omega⟩
   rw [longG_true,runsG_ones,show f+(t - f)=t by omega,hk,if_pos ⟨by omega,rfl⟩]
   simp only [Part.mk.injEq,true_and]
   refine ⟨rfl,rfl,?_⟩
   rw [List.replicate_succ',getLastD_app _ _ (by simp)]
   rfl
  ·by_cases h:f+1<t
   ·have hm:=mid_in h
    have l1:=gapsL_length (c:=c) f t hm.1
    have l2:=gapsL_length (c:=c) f t hm.2
    rw [partV_node h0 h,gapsL_node h0 h,ih _ _ _ _ (by omega) (by omega),ih _ _ _ _ (by omega) (by omega),partG_app,l1,show f+(mid f t - f)=mid f t by omega]
    ·intro e;rw [e] at l1;simp at l1;omega
    ·intro e;rw [e] at l2;simp at l2;omega
   ·rw [partV_leaf h0 h,gapsL_leaf h0 h]
    rfl
end Go.Proofs.YtkmnbodlciepaaaGreat
namespace Go.Proofs.YtkmnbodlciepaaaGreat
def lg (n:Nat):Nat:=bitsN (n - 1)
theorem bits_halfL (d e:Nat) (hd:0<d) (he:e≤d / 2):bitsN e+1≤bitsN d:=by
 have h1:=bitsN_lt d
 have hb:bitsN d≠0:=fun h=>by rw [h] at h1;omega
 obtain ⟨b,hbb⟩:∃b,bitsN d=b+1:=⟨bitsN d - 1,by omega⟩
 rw [hbb] at h1 ⊢
 have:bitsN e≤b:=bitsN_le e b (by rw [Nat.pow_succ] at h1;omega)
 omega
theorem lg_left {f t:Nat} (h:f+1<t):lg (mid f t - f)+1≤lg (t - f):=bits_halfL _ _ (by omega) (by unfold mid;omega)
theorem lg_right {f t:Nat} (h:f+1<t):lg (t - mid f t)+1≤lg (t - f):=bits_halfL _ _ (by omega) (by unfold mid;omega)
theorem ent_pos (a b f t:Nat):0<ent a b f t:=by
 rw [ent];split
 ·omega
 ·split
  ·omega
  ·split<;>omega
theorem ent_leaf {a b f t:Nat} (h:¬f+1<t):ent a b f t=1:=by
 rw [ent]
 by_cases h0:t≤a∨b≤f
 ·rw [if_pos h0]
 ·rw [if_neg h0]
  by_cases h1:a≤f∧t≤b
  ·rw [if_pos h1]
  ·rw [if_neg h1,dif_neg h]
theorem ent_pre {a b:Nat}:∀(d f t:Nat),t - f≤d→a≤f→ent a b f t≤2*lg (t - f)+1:=by
 intro d
 induction d with
 |zero=>intro f t hd ha;rw [ent_leaf (by omega)];omega
 |succ d ih=>
  intro f t hd ha
  by_cases h1:t≤a∨b≤f
  ·rw [ent_out h1];omega
  ·by_cases h2:a≤f∧t≤b
   ·rw [ent_in h2];omega
   ·by_cases h:f+1<t
    ·have hm:=mid_in h
     have g1:=lg_left h
     have g2:=lg_right h
     rw [ent_node h1 h2 h]
     by_cases hb:mid f t≤b
     ·rw [ent_in (t:=mid f t) ⟨ha,hb⟩]
      have:=ih (mid f t) t (by omega) (by omega)
      omega
     ·rw [ent_out (f:=mid f t) (.inr (by omega))]
      have:=ih f (mid f t) (by omega) ha
      omega
    ·rw [ent_leaf h];omega
theorem ent_suf {a b:Nat}:∀(d f t:Nat),t - f≤d→t≤b→ent a b f t≤2*lg (t - f)+1:=by
 intro d
 induction d with
 |zero=>intro f t hd ha;rw [ent_leaf (by omega)];omega
 |succ d ih=>
  intro f t hd ha
  by_cases h1:t≤a∨b≤f
  ·rw [ent_out h1];omega
  ·by_cases h2:a≤f∧t≤b
   ·rw [ent_in h2];omega
   ·by_cases h:f+1<t
    ·have hm:=mid_in h
     have g1:=lg_left h
     have g2:=lg_right h
     rw [ent_node h1 h2 h]
     by_cases hb:a≤mid f t
     ·rw [ent_in (f:=mid f t) ⟨hb,ha⟩]
      have:=ih f (mid f t) (by omega) (by omega)
      omega
     ·rw [ent_out (t:=mid f t) (.inl (by omega))]
      have:=ih (mid f t) t (by omega) ha
      omega
    ·rw [ent_leaf h];omega
theorem ent_any {a b:Nat}:∀(d f t:Nat),t - f≤d→ent a b f t≤4*lg (t - f)+1:=by
 intro d
 induction d with
 |zero=>intro f t hd;rw [ent_leaf (by omega)];omega
 |succ d ih=>
  intro f t hd
  by_cases h1:t≤a∨b≤f
  ·rw [ent_out h1];omega
  ·by_cases h2:a≤f∧t≤b
   ·rw [ent_in h2];omega
   ·by_cases h:f+1<t
    ·have hm:=mid_in h
     have g1:=lg_left h
     have g2:=lg_right h
     rw [ent_node h1 h2 h]
     by_cases hb:b≤mid f t
     ·rw [ent_out (f:=mid f t) (.inr hb)]
      have:=ih f (mid f t) (by omega)
      omega
     ·by_cases hb2:mid f t≤a
      ·rw [ent_out (t:=mid f t) (.inl hb2)]
       have:=ih (mid f t) t (by omega)
       omega
      ·have e1:=ent_suf (a:=a) (b:=b) (mid f t - f) f (mid f t) (Nat.le_refl _) (by omega)
       have e2:=ent_pre (a:=a) (b:=b) (t - mid f t) (mid f t) t (Nat.le_refl _) (by omega)
       omega
    ·rw [ent_leaf h];omega
end Go.Proofs.YtkmnbodlciepaaaGreat
