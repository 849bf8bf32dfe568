/- A region that draws its order: some of its operations come up in whatever order, by an invariant over those that have. No program. A region that draws its order: those operations of it that act come up in any order; of each it is said what its value is, in words that the others keep. No program. A region that draws its order: those operations of it that act come up in any order; some take over the blocks of others' values and write into them. Of each it is said what its value is as long as no other has taken it over. No program. -/
import Derived.Test.YtkmnbodlciepaaaGreatPk17
import Derived.Test.YtkmnbodlciepaaaGreatPk2
namespace Go.Proofs.YtkmnbodlciepaaaGreat
open Go.RowKit
def updD (D:Nat→Bool) (i:Nat):Nat→Bool:=fun k=>if k=i then true else D k
def putIf (D:Nat→Bool) (i d:Nat) (v:Value) (a:Act):Act:={ a with tmps:=a.tmps.setIfInBounds d (cond (D i) v (a.tmps.getD d undef)) }
section
variable {P:Program} {ops:Array Oper} {Q:Exit→Act→World→Prop} {S:World→Prop} {T:List Nat}
def lateOk (ops:Array Oper) (A:List Nat) (f:Nat) (L0:Array Bool):Bool:=
 (List.range ops.size).all fun j=>L0.getD j false||A.contains j||A.all fun i=>(reach .any ops f j).contains i
def ordOk (ops:Array Oper) (L0:Array Bool):List Nat→List Nat→Bool
 |_,[]=>true
 |dn,i::r=>(match ops[i]? with | none=>false | some o=>o.after.all fun e=>!Region.binds .any e||L0.getD e.on false||dn.contains e.on)&&ordOk ops L0 (i::dn) r
def waits (ops:Array Oper) (i d:Nat):Bool:=match ops[i]? with | none=>false | some o=>o.after.any fun e=>Region.binds .any e&&e.on==d
theorem getD_lt {L:Array Bool} {i:Nat} (h:L.getD i true=false):i<L.size:=by
 rcases Nat.lt_or_ge i L.size with h' | h'
 ·exact h'
 ·rw [Array.getD_eq_getD_getElem?,Array.getElem?_eq_none h'] at h;simp at h
theorem getD_ft {L:Array Bool} {i:Nat} (hi:i<L.size):L.getD i true=L.getD i false:=by
 rw [Array.getD_eq_getD_getElem?,Array.getD_eq_getD_getElem?];simp [hi]
theorem ord_ready {L L0:Array Bool} (h0:∀k,L0.getD k false=true→L.getD k false=true):∀(r dn:List Nat),ordOk ops L0 dn r=true→(∀d∈dn,L.getD d false=true)→(∀i∈r,i<L.size)→(∃i∈r,L.getD i false=false)→∃i∈r,i∈Region.ready .any ops L
 | [],_,_,_,_,h=>by obtain ⟨i,hi,_⟩:=h;simp at hi
 |i::r,dn,ho,hd,hs,h=>by
  unfold ordOk at ho
  rw [Bool.and_eq_true] at ho
  cases hL:L.getD i false with
  |false=>
   refine ⟨i,by simp,?_⟩
   rw [mem_ready]
   refine ⟨by rw [getD_ft (hs i (by simp))];exact hL,?_⟩
   cases hop:ops[i]? with
   |none=>rw [hop] at ho;simp at ho
   |some o=>
    rw [hop] at ho
    refine ⟨o,rfl,fun e he hb=>?_⟩
    have h1:=ho.1
    simp only [Array.all_eq_true'] at h1
    have h2:=h1 e he
    rw [hb] at h2
    simp only [Bool.not_true,Bool.false_or,Bool.or_eq_true] at h2
    rcases h2 with h2 | h2
    ·exact h0 _ h2
    ·exact hd _ (by simpa using h2)
  |true=>
   obtain ⟨j,hj,hjr⟩:=ord_ready h0 r (i::dn) ho.2 (fun d hd'=>by rcases List.mem_cons.1 hd' with rfl | h';exact hL;exact hd d h') (fun k hk=>hs k (List.mem_cons_of_mem _ hk)) (by
    obtain ⟨j,hj,hf⟩:=h
    rcases List.mem_cons.1 hj with rfl | hj
    ·rw [hL] at hf;cases hf
    ·exact ⟨j,hj,hf⟩)
   exact ⟨j,List.mem_cons_of_mem _ hj,hjr⟩
theorem countP_one {p p':Nat→Bool} {i:Nat} (h1:p i=true) (h2:p' i=false) (h3:∀k,k≠i→p' k=p k):∀{A:List Nat},A.Nodup→i∈A→A.countP p=A.countP p'+1
 | [],_,hi=>by simp at hi
 |a::A,hn,hi=>by
  rw [List.nodup_cons] at hn
  rw [List.countP_cons,List.countP_cons]
  by_cases ha:a=i
  ·subst ha
   rw [h1,h2]
   have e:A.countP p=A.countP p':=List.countP_congr fun k hk=>by rw [h3 k (fun e=>hn.1 (e ▸ hk))]
   rw [e];simp
  ·have:=countP_one h1 h2 h3 hn.2 (by rcases List.mem_cons.1 hi with e | e;exact absurd e.symm ha;exact e)
   rw [this,h3 a ha];omega
theorem getD_set_at {L:Array Bool} {i:Nat} (hi:i<L.size):(fun k=>(L.setIfInBounds i true).getD k false)=updD (fun k=>L.getD k false) i:=by
 funext k
 unfold updD
 by_cases hk:k=i
 ·subst hk
  rw [if_pos rfl,Array.getD_eq_getD_getElem?]
  simp [hi]
 ·rw [if_neg hk,getD_set_ne false (Ne.symm hk)]
theorem ext_getD {L M:Array Bool} (hs:L.size=M.size) (h:∀k,L.getD k false=M.getD k false):L=M:=by
 refine Array.ext hs fun k h1 h2=>?_
 have:=h k
 rw [Array.getD_eq_getD_getElem?,Array.getD_eq_getD_getElem?] at this
 simpa [h1,h2] using this
theorem wpAnyT_phase {A:List Nat} {L0 L1:Array Bool} {m f:Nat} (J:(Nat→Bool)→Act→World→Prop) (hn:A.Nodup) (hs1:L1.size=ops.size)
 (hA:∀i∈A,i<ops.size∧L0.getD i false=false) (hL1:∀k,L1.getD k false=(L0.getD k false||A.contains k)) (hlate:lateOk ops A f L0=true) (hord:ordOk ops L0 [] A=true)
 (step:∀i∈A,∀(D:Nat→Bool) (a:Act) (w:World),J D a w→(∀k,k∉A→D k=L0.getD k false)→D i=false→(∀d,waits ops i d=true→D d=true)→wpOp P ops Q i (fun a' w'=>(S w→S w')∧J (updD D i) a' w') a w)
 (rest:∀a w,J (fun k=>L1.getD k false) a w→Down .any ops L1→wpAnyT P .any ops Q S T m L1 a w) :
 ∀(c:Nat) (L:Array Bool) (a:Act) (w:World),L.size=ops.size→Down .any ops L→(∀k,k∉A→L.getD k false=L0.getD k false)→A.countP (fun i=>!L.getD i false)=c→J (fun k=>L.getD k false) a w→wpAnyT P .any ops Q S T (c+m) L a w:=by
 intro c
 induction c with
 |zero=>
  intro L a w hs hd hout hc hJ
  have hall:∀i∈A,L.getD i false=true:=fun i hi=>by
   cases h:L.getD i false with
   |true=>rfl
   |false=>
    have:0<A.countP (fun i=>!L.getD i false):=List.countP_pos_iff.2 ⟨i,hi,by rw [h];rfl⟩
    omega
  have e:L=L1:=ext_getD (by rw [hs,hs1]) fun k=>by
   rw [hL1]
   by_cases hk:k∈A
   ·rw [hall k hk]
    have:A.contains k=true:=by simpa using hk
    rw [this];simp
   ·rw [hout k hk]
    have:A.contains k=false:=by simpa using hk
    rw [this];simp
  subst e
  rw [Nat.zero_add]
  exact rest a w hJ hd
 |succ c ih=>
  intro L a w hs hd hout hc hJ
  have hex:∃i∈A,L.getD i false=false:=by
   have:0<A.countP (fun i=>!L.getD i false):=by omega
   obtain ⟨i,hi,h⟩:=List.countP_pos_iff.1 this
   exact ⟨i,hi,by simpa using h⟩
  have h0:∀k,L0.getD k false=true→L.getD k false=true:=fun k hk=>by
   by_cases h:k∈A
   ·rw [(hA k h).2] at hk;cases hk
   ·rw [hout k h];exact hk
  rw [show c+1+m=(c+m)+1 by omega]
  refine ⟨fun hr=>?_,fun i hi=>?_⟩
  ·obtain ⟨j,_,hj⟩:=ord_ready h0 A [] hord (by simp) (fun i hi=>by rw [hs];exact (hA i hi).1) hex
   rw [hr] at hj;simp at hj
  ·obtain ⟨hi0,o,ho,hdeps⟩:=mem_ready.1 hi
   have hlt:=getD_lt hi0
   have hif:L.getD i false=false:=by rw [←getD_ft hlt];exact hi0
   have hiA:i∈A:=by
    refine Classical.byContradiction fun hni=>?_
    have h1:L0.getD i false=false:=by rw [←hout i hni];exact hif
    unfold lateOk at hlate
    rw [List.all_eq_true] at hlate
    have h2:=hlate i (by rw [List.mem_range,←hs];exact hlt)
    rw [h1] at h2
    have h3:A.contains i=false:=by simpa using hni
    rw [h3] at h2
    simp only [Bool.false_or] at h2
    rw [List.all_eq_true] at h2
    obtain ⟨j,hj,hjf⟩:=hex
    have h4:=reach_spec hd f i (fun o' ho'=>by rw [ho] at ho';cases ho';exact hdeps) j (by simpa using h2 j hj)
    rw [hjf] at h4;cases h4
   have hst:=step i hiA _ a w hJ hout hif (fun d hw=>by
    unfold waits at hw
    rw [ho] at hw
    simp only [Array.any_eq_true'] at hw
    obtain ⟨e,he,hw⟩:=hw
    rw [Bool.and_eq_true] at hw
    have:=hdeps e he hw.1
    have he2:e.on=d:=by simpa using hw.2
    rw [he2] at this
    exact this)
   refine wpOp_mono (fun a' w' h=>⟨fun _ hS=>h.1 hS,ih (L.setIfInBounds i true) a' w' (by simpa using hs) (hd.set hi) (fun k hk=>?_) ?_ (by rw [getD_set_at hlt];exact h.2)⟩) hst
   ·rw [getD_set_ne false (fun e=>hk (by rw [←e];exact hiA))];exact hout k hk
   ·have:=countP_one (p:=fun k=>!L.getD k false) (p':=fun k=>!(L.setIfInBounds i true).getD k false) (i:=i) (by rw [hif];rfl)
     (by have:=congrFun (getD_set_at hlt) i;rw [this];unfold updD;simp) (fun k hk=>by rw [getD_set_ne false (Ne.symm hk)]) hn hiA
    omega
theorem wpOp_hid {i:Nat} {o:Oper} {K:Act→World→Prop} {a:Act} {w:World} (ho:ops[i]? = some o)
 (h:∀K':Act→World→Prop,Hid (∀a w,K a w→K' a w)→if Region.wanted o (yielded ops a.tmps)=true then Oper.wp P o a w K' Q else K' (a.put o.dst undef) w):wpOp P ops Q i K a w:=
 wpOp_step ho fun K' hK=>h K' (Lib.hid hK)
theorem GoT.phase (A:List Nat) (f:Nat) {L0 L1:Array Bool} {n m:Nat} {a:Act} {w:World} (J:Act→(Nat→Bool)→Act→World→Prop) (hm:A.countP (fun i=>!L0.getD i false)+m=n) (hn:A.Nodup) (hs0:L0.size=ops.size)
 (_hL1:A.foldl (fun L i=>L.setIfInBounds i true) L0=L1) (hA:A.all (fun i=>decide (i<ops.size)&&!L0.getD i false)=true) (hsz:L1.size=ops.size) (hall:(List.range ops.size).all (fun k=>L1.getD k false==(L0.getD k false||A.contains k))=true)
 (hlate:lateOk ops A f L0=true) (hord:ordOk ops L0 [] A=true) (start:J a (fun k=>L0.getD k false) a w)
 (step:∀i∈A,∀(D:Nat→Bool) (a':Act) (w':World),J a D a' w'→(∀k,k∉A→D k=L0.getD k false)→D i=false→(∀d,waits ops i d=true→D d=true)→wpOp P ops Q i (fun a'' w''=>(S w'→S w'')∧J a (updD D i) a'' w'') a' w')
 (rest:∀a' w',J a (fun k=>L1.getD k false) a' w'→GoT P ops Q S T m L1 a' w'):GoT P ops Q S T n L0 a w:=fun hd=>by
 rw [List.all_eq_true] at hA
 have hA':∀i∈A,i<ops.size∧L0.getD i false=false:=fun i hi=>by have:=hA i hi;simp at this;exact ⟨this.1,by rw [Array.getD_eq_getD_getElem?];simpa using this.2⟩
 subst hm
 refine wpAnyT_phase (J a) hn hsz hA' (fun k=>?_) hlate hord step rest _ L0 a w hs0 hd (fun _ _=>rfl) rfl start
 rw [List.all_eq_true] at hall
 rcases Nat.lt_or_ge k ops.size with hk | hk
 ·have:=hall k (List.mem_range.2 hk)
  simpa using this
 ·have h1:L1.getD k false=false:=by rw [Array.getD_eq_getD_getElem?,Array.getElem?_eq_none (by omega)];rfl
  have h2:L0.getD k false=false:=by rw [Array.getD_eq_getD_getElem?,Array.getElem?_eq_none (by omega)];rfl
  have h3:A.contains k=false:=by
   cases h:A.contains k with
   |false=>rfl
   |true=>have:=(hA' k (by simpa using h)).1;omega
  rw [h1,h2,h3];rfl
end
def fills (D:Nat→Bool) (v:Nat→Value):List (Nat×Nat)→Act→Act
 | [],a=>a
 |(i,d)::r,a=>putIf D i d (v i) (fills D v r a)
def atV (v:Nat→Value) (i:Nat) (x:Value):Nat→Value:=fun k=>if k=i then x else v k
theorem updD_ne {D:Nat→Bool} {i k:Nat} (h:k≠i):updD D i k=D k:=by unfold updD;rw [if_neg h]
theorem atV_ne {v:Nat→Value} {i k:Nat} {x:Value} (h:k≠i):atV v i x k=v k:=by unfold atV;rw [if_neg h]
theorem updD_self (D:Nat→Bool) (i:Nat):updD D i i=true:=by unfold updD;rw [if_pos rfl]
theorem atV_self (v:Nat→Value) (i:Nat) (x:Value):atV v i x i=x:=by unfold atV;rw [if_pos rfl]
theorem fills_same {D D':Nat→Bool} {v v':Nat→Value} {a:Act}:∀{A:List (Nat×Nat)},(∀e∈A,D e.1=D' e.1∧v e.1=v' e.1)→fills D v A a=fills D' v' A a
 | [],_=>rfl
 |(i,d)::r,h=>by
  have h1:=h (i,d) (by simp)
  have h2:=fills_same (a:=a) (A:=r) (fun e he=>h e (List.mem_cons_of_mem _ he))
  simp only [fills]
  rw [h2]
  unfold putIf
  rw [h1.1,h1.2]
theorem set_self (t:Array Value) (d:Nat):t.setIfInBounds d (t.getD d undef)=t:=by
 refine Array.ext (by simp) fun k h1 h2=>?_
 rw [Array.getElem_setIfInBounds]
 split
 ·rename_i e
  subst e
  rw [Array.getD_eq_getD_getElem?]
  simp [h2]
 ·rfl
theorem fills_put {D:Nat→Bool} {v:Nat→Value} {a:Act} {i d:Nat} (x:Value) (hD:D i=false):∀{A:List (Nat×Nat)},(A.map (·.1)).Nodup→(A.map (·.2)).Nodup→(i,d)∈A→(fills D v A a).put (some d) x=fills (updD D i) (atV v i x) A a
 | [],_,_,h=>by simp at h
 |(j,e)::r,h1,h2,h=>by
  rw [List.map_cons,List.nodup_cons] at h1 h2
  rcases List.mem_cons.1 h with h | h
  ·cases h
   have h3:fills (updD D i) (atV v i x) r a=fills D v r a:=fills_same fun e he=>by
    have hne:e.1≠i:=fun c=>h1.1 (by have:=List.mem_map_of_mem (f:=fun e:Nat×Nat=>e.1) he;rw [←c];exact this)
    exact ⟨updD_ne hne,atV_ne hne⟩
   simp only [fills]
   rw [h3]
   unfold putIf Act.put
   rw [hD,updD_self,atV_self]
   dsimp only [cond_true,cond_false]
   rw [set_self]
  ·have hji:j≠i:=fun c=>h1.1 (by rw [c];exact List.mem_map_of_mem (f:=(·.1)) h)
   have hed:e≠d:=fun c=>h2.1 (by rw [c];exact List.mem_map_of_mem (f:=(·.2)) h)
   have ih:=fills_put (v:=v) (a:=a) x hD h1.2 h2.2 h
   simp only [fills]
   rw [←ih]
   unfold putIf Act.put
   rw [updD_ne hji,atV_ne hji]
   dsimp only
   rw [Array.setIfInBounds_comm _ _ hed]
   congr 3
   rw [Array.getD_eq_getD_getElem?,Array.getD_eq_getD_getElem?,Array.getElem?_setIfInBounds_ne (Ne.symm hed)]
section
variable {P:Program} {ops:Array Oper} {Q:Exit→Act→World→Prop} {S:World→Prop} {T:List Nat}
structure Rely (A:List (Nat×Nat)) (R:World→World→Prop) (F:Nat→Value→World→Prop) (N:List Nat) (W:World) (D:Nat→Bool) (v:Nat→Value) (w:World):Prop where
 up:R W w
 said:∀e∈A,D e.1=true→F e.1 (v e.1) w
 news:∀i∈N,D i=true→∀k∈blk (v i),W.heap.size≤k∧k<w.heap.size
 far:∀i∈N,∀j∈N,i≠j→D i=true→D j=true→∀k∈blk (v i),k∉blk (v j)
theorem GoT.rely (A:List (Nat×Nat)) (f:Nat) (R:World→World→Prop) (F:Nat→Value→World→Prop) (N:List Nat) {L0 L1:Array Bool} {n m:Nat} {a:Act} {w:World}
 (hm:(A.map (·.1)).countP (fun i=>!L0.getD i false)+m=n) (hn:(A.map (·.1)).Nodup) (hn2:(A.map (·.2)).Nodup) (hs0:L0.size=ops.size)
 (hL1:(A.map (·.1)).foldl (fun L i=>L.setIfInBounds i true) L0=L1) (hA:(A.map (·.1)).all (fun i=>decide (i<ops.size)&&!L0.getD i false)=true) (hsz:L1.size=ops.size) (hall:(List.range ops.size).all (fun k=>L1.getD k false==(L0.getD k false||(A.map (·.1)).contains k))=true)
 (hlate:lateOk ops (A.map (·.1)) f L0=true) (hord:ordOk ops L0 [] (A.map (·.1))=true) (hNA:∀i∈N,i∈A.map (·.1))
 (hr:∀w,R w w) (ht:∀a b c,R a b→R b c→R a c) (hsize:∀a b,R a b→a.heap.size≤b.heap.size) (hS:∀a b,R a b→S a→S b) (hF:∀i x a b,F i x a→R a b→F i x b)
 (step:∀e∈A,∀(D:Nat→Bool) (v:Nat→Value) (w':World),Rely A R F N w D v w'→D e.1=false→(∀d,waits ops e.1 d=true→d∈A.map (·.1)→D d=true)→
  wpOp P ops Q e.1 (fun a'' w''=>∃x,a''=(fills D v A a).put (some e.2) x∧R w' w''∧F e.1 x w''∧(e.1∈N→∀k∈blk x,w'.heap.size≤k∧k<w''.heap.size)) (fills D v A a) w')
 (rest:∀(v:Nat→Value) (w':World),Rely A R F N w (fun _=>true) v w'→GoT P ops Q S T m L1 (fills (fun _=>true) v A a) w'):GoT P ops Q S T n L0 a w:=by
 have hA':=hA
 rw [List.all_eq_true] at hA'
 have h0:∀i∈A.map (·.1),L0.getD i false=false:=fun i hi=>by
  have:=hA' i hi
  simp at this
  rw [Array.getD_eq_getD_getElem?];simpa using this.2
 have h1:∀i∈A.map (·.1),L1.getD i false=true:=fun i hi=>by
  rw [List.all_eq_true] at hall
  have hlt:i<ops.size:=by have:=hA' i hi;simp at this;exact this.1
  have:=hall i (List.mem_range.2 hlt)
  have hc:(A.map (·.1)).contains i=true:=by simpa using hi
  rw [hc] at this
  simpa using this
 refine GoT.phase (A.map (·.1)) f (L1:=L1) (m:=m) (fun a0 D a' w'=>∃v,a'=fills D v A a0∧Rely A R F N w D v w') hm hn hs0 hL1 hA hsz hall hlate hord ?_ ?_ ?_
 ·refine ⟨fun _=>undef,?_,hr _,fun e he h=>?_,fun i hi h=>?_,fun i hi j hj _ h=>?_⟩
  ·have:∀B:List (Nat×Nat),(∀e∈B,L0.getD e.1 false=false)→fills (fun k=>L0.getD k false) (fun _=>undef) B a=a:=by
    intro B
    induction B with
    |nil=>intro _;rfl
    |cons e B ih=>
     intro hB
     simp only [fills]
     rw [ih fun e he=>hB e (List.mem_cons_of_mem _ he)]
     unfold putIf
     dsimp only
     rw [hB e (by simp)]
     dsimp only [cond_false]
     rw [set_self]
   exact (this A fun e he=>h0 e.1 (List.mem_map_of_mem he)).symm
  ·rw [h0 _ (List.mem_map_of_mem he)] at h;cases h
  ·rw [h0 i (hNA i hi)] at h;cases h
  ·rw [h0 i (hNA i hi)] at h;cases h
 ·rintro i hi D a' w' ⟨v,rfl,hv⟩ _ hDi hdep
  obtain ⟨e,he,rfl⟩:=List.mem_map.1 hi
  refine wpOp_mono ?_ (step e he D v w' hv hDi fun d hd _=>hdep d hd)
  rintro a'' w'' ⟨x,rfl,g1,g2,g3⟩
  have hgrow:=hsize _ _ g1
  have hW:=hsize _ _ hv.up
  refine ⟨hS _ _ g1,atV v e.1 x,fills_put x hDi hn hn2 he,ht _ _ _ hv.up g1,fun e' he' h=>?_,fun j hj h k hk=>?_,fun j hj j' hj' hne h h' k hk=>?_⟩
  ·by_cases c:e'.1=e.1
   ·rw [c,atV_self];exact g2
   ·rw [atV_ne c]
    rw [updD_ne c] at h
    exact hF _ _ _ _ (hv.said e' he' h) g1
  ·by_cases c:j=e.1
   ·subst c
    rw [atV_self] at hk
    have:=g3 hj k hk
    exact ⟨by omega,this.2⟩
   ·rw [atV_ne c] at hk
    rw [updD_ne c] at h
    have:=hv.news j hj h k hk
    exact ⟨this.1,by omega⟩
  ·by_cases c:j=e.1
   ·subst c
    rw [atV_self] at hk
    rw [atV_ne (Ne.symm hne)]
    rw [updD_ne (Ne.symm hne)] at h'
    intro hk'
    have:=g3 hj k hk
    have:=hv.news j' hj' h' k hk'
    omega
   ·rw [atV_ne c] at hk
    rw [updD_ne c] at h
    by_cases c':j'=e.1
    ·subst c'
     rw [atV_self]
     intro hk'
     have:=g3 hj' k hk'
     have:=hv.news j hj h k hk
     omega
    ·rw [atV_ne c']
     rw [updD_ne c'] at h'
     exact hv.far j hj j' hj' hne h h' k hk
 ·rintro a' w' ⟨v,rfl,hv⟩
  have e:fills (fun k=>L1.getD k false) v A a=fills (fun _=>true) v A a:=fills_same fun e he=>⟨h1 e.1 (List.mem_map_of_mem he),rfl⟩
  rw [e]
  exact rest v w' ⟨hv.up,fun e he _=>hv.said e he (h1 _ (List.mem_map_of_mem he)),fun i hi _=>hv.news i hi (h1 i (hNA i hi)),fun i hi j hj hne _ _=>hv.far i hi j hj hne (h1 i (hNA i hi)) (h1 j (hNA j hj))⟩
end
section
variable {P:Program} {ops:Array Oper} {Q:Exit→Act→World→Prop} {S:World→Prop} {T:List Nat}
end
end Go.Proofs.YtkmnbodlciepaaaGreat
