/- A region that draws its order and ends in operations that wait for all others: what is loaded -/
import Derived.WalkKit
import Derived.OrdersHeld
import Derived.Lib.Hide
namespace Go.Proofs.YtkbaaonchdeneaaGreat
open Go.RowKit
theorem sA {α:Type _} {xs:List α} {i:Nat} {a:α}:xs.toArray.setIfInBounds i a=(xs.set i a).toArray:=List.setIfInBounds_toArray _ _ _
theorem sZ {α:Type _} {x y:α} {l:List α}:(x::l).set 0 y=y::l:=rfl
theorem sS {α:Type _} {x y:α} {l:List α} {n:Nat}:(x::l).set (n+1) y=x::l.set n y:=rfl
section
variable {P:Program} {ops:Array Oper} {Q:Exit->Act->World->Prop} {md:Region.Mode} {S:World->Prop} {T:List Nat}
def Down (md:Region.Mode) (ops:Array Oper) (L:Array Bool):Prop:=
 ∀j o,ops[j]? = some o->L.getD j false=true->∀e∈o.after,Region.binds md e=true->L.getD e.on false=true
theorem Tz {L:Array Bool} {i k:Nat} (h:(L.setIfInBounds i true).getD k false=true):k=i\/L.getD k false=true:=by
 by_cases hk:i=k
 ·exact .inl hk.symm
 ·rw [getD_set_ne false hk] at h;exact .inr h
theorem Down.set {L:Array Bool} (h:Down md ops L) {i:Nat} (hi:i∈Region.ready md ops L):Down md ops (L.setIfInBounds i true):=by
 intro j o ho hj e he hb;obtain ⟨_,o',ho',hall⟩:=mem_ready.1 hi;rcases Tz hj with rfl | hj
 ·rw [ho] at ho'
  cases ho'
  exact getD_set_true (hall e he hb)
 ·exact getD_set_true (h j o ho hj e he hb)
theorem Down.start (n:Nat):Down md ops (Array.replicate n false):=by
 intro j o _ hj;exfalso
 rw [Array.getD_eq_getD_getElem?,Array.getElem?_replicate] at hj;split at hj<;>simp at hj
def reach (md:Region.Mode) (ops:Array Oper):Nat->Nat->List Nat
 |0,_=>[]
 |n+1,j=>match ops[j]? with
  |none=>[]
  |some o=>(o.after.toList.filter λe=>Region.binds md e).flatMap λe=>e.on::reach md ops n e.on
theorem ZQ {L:Array Bool} (h:Down md ops L):∀(n j:Nat),(∀o,ops[j]? = some o->∀e∈o.after,Region.binds md e=true->L.getD e.on false=true)->∀k∈reach md ops n j,L.getD k false=true:=by
 intro n;induction n with
 |zero=>intro j _ k hk;simp [reach] at hk
 |succ n ih=>
  intro j hj k hk;unfold reach at hk
  cases ho:ops[j]? with
  |none=>rw [ho] at hk;simp at hk
  |some o=>
   rw [ho] at hk;simp only [List.mem_flatMap,List.mem_filter,List.mem_cons] at hk;obtain ⟨e,⟨he,hb⟩,hk⟩:=hk;have hl:=hj o ho e (by simpa using he) hb;rcases hk with rfl | hk
   ·exact hl
   ·exact ih e.on (λo' ho'=>h e.on o' ho' hl) k hk
def N7 (md:Region.Mode) (ops:Array Oper) (T:List Nat) (n i:Nat):Bool:=T.all λj=>(reach md ops n j).contains i
theorem jF {n i:Nat} (ht:N7 md ops T n i=true) {L:Array Bool} (h:Down md ops L) {j:Nat} (hj:j∈Region.ready md ops L) (hT:T.contains j=true):L.getD i false=true:=by
 unfold N7 at ht;rw [List.all_eq_true] at ht;have h1:=ht j (by simpa using hT);obtain ⟨_,o,ho,hall⟩:=mem_ready.1 hj;exact ZQ h n j (λo' ho'=>by rw [ho] at ho';cases ho';exact hall) i (by simpa using h1)
theorem jG {n i:Nat} (ht:N7 md ops T n i=true) {L:Array Bool} (hd:Down md ops L) (ZR:i∈Region.ready md ops L) {j:Nat} (hj:j∈Region.ready md ops L):T.contains j=false:=by
 cases hc:T.contains j with
 |false=>rfl
 |true=>
  exfalso
  have h1:=jF ht hd hj hc;have h0:=(mem_ready.1 ZR).1;rw [Array.getD_eq_getD_getElem?] at h0 h1
  cases hL:L[i]? with
  |none=>rw [hL] at h1;simp at h1
  |some b=>rw [hL] at h0 h1;simp at h0 h1;rw [h0] at h1;cases h1
def TD (P:Program) (md:Region.Mode) (ops:Array Oper) (Q:Exit->Act->World->Prop) (S:World->Prop) (T:List Nat):Nat->Array Bool->Act->World->Prop
 |0,L,a,w=>Region.ready md ops L = []/\Q .normal a w
 |n+1,L,a,w=>(Region.ready md ops L = []->Q .normal a w)/\
  ∀i∈Region.ready md ops L,wpOp P ops Q i (λa' w'=>(T.contains i=false->S w->S w')/\TD P md ops Q S T n (L.setIfInBounds i true) a' w') a w
theorem N8:∀(n:Nat) (L:Array Bool) (a:Act) (w:World),TD P md ops Q S T n L a w->wpAny P md ops Q n L a w
 |0,_,_,_,h=>h
 |n+1,_,_,_,h=>⟨h.1,λi hi=>wpOp_mono (λa' w' h'=>N8 n _ a' w' h'.2) (h.2 i hi)⟩
theorem OQ {S':World->Prop} {i:Nat} {oi:Oper} {v:Value} (hi:ops[i]? = some oi) (hsel:∀(j:Nat) (o:Oper) cs b,ops[j]? = some o->o.op≠.select cs b)
 (a3J:∀(L:Array Bool) (j:Nat) (w w':World),Down md ops L->i∈Region.ready md ops L->j∈Region.ready md ops L->S' w->(T.contains j=false->S w->S w')->S' w')
 (hQ:∀c a w,Q (.panic c) (a.put oi.dst v) w->Q (.panic c) a w):∀(n:Nat) (L:Array Bool) (a:Act) (w:World),Down md ops L->
 (∀j oj,ops[j]? = some oj->j≠i->L.getD j true=false->(∀e∈oj.after,Region.binds md e=true->e.on≠i)->oi.apart ops oj=true)->
 i∈Region.ready md ops L->YieldsIf P ops S' oi v a->S' w->TD P md ops Q S T n (L.setIfInBounds i true) (a.put oi.dst v) w->TD P md ops Q S T (n+1) L a w:=by
 intro n;induction n with
 |zero=>
  intro L a w _ _ hr hy hS H;refine ⟨λh=>(by rw [h] at hr;cases hr),λj hj=>?_⟩
  by_cases hji:j=i
  ·subst hji;exact hy.wpOp hi hS ⟨λ_ h=>h,H⟩
  ·have:=ready_mono hj hji;rw [H.1] at this
   cases this
 |succ n ih=>
  intro L a w hd hfree hr hy hS H;refine ⟨λh=>(by rw [h] at hr;cases hr),λj hj=>?_⟩
  by_cases hji:j=i
  ·subst hji;exact hy.wpOp hi hS ⟨λ_ h=>h,H⟩
  ·have h1:=H.2 j (ready_mono hj hji);obtain ⟨hjun,oj,hoj,hall⟩:=mem_ready.1 hj
   have hnot:∀e∈oj.after,Region.binds md e=true->e.on≠i:=λe he hb heq=>by
    have h1:=hall e he hb;have h0:=(mem_ready.1 hr).1;rw [heq] at h1;rw [Array.getD_eq_getD_getElem?] at h0 h1
    cases hL:L[i]? with
    |none=>rw [hL] at h1;simp at h1
    |some b=>rw [hL] at h0 h1;simp at h0 h1;rw [h0] at h1;cases h1
   have h2:=wpOp_putIf hoj (hfree j oj hoj hji hjun hnot) (λcs b=>hsel i oi cs b hi) (λcs b=>hsel j oj cs b hoj) hQ hy h1;refine wpOp_mono (λa' w' h3=>⟨h3.2.1,ih (L.setIfInBounds j true) a' w' (hd.set hj) ?_ (ready_mono hr (Ne.symm hji)) h3.1 (a3J L j w w' hd hr hj hS h3.2.1) ?_⟩) h2
   ·intro k ok hk hki hun hno;refine hfree k ok hk hki ?_ hno
    by_cases hjk:j=k
    ·rw [<-hjk];exact hjun
    ·rw [getD_set_ne true hjk] at hun;exact hun
   ·rw [Array.setIfInBounds_comm _ _ hji];exact h3.2.2
def Bo (P:Program) (ops:Array Oper) (Q:Exit->Act->World->Prop) (S:World->Prop) (T:List Nat) (n:Nat) (L:Array Bool) (a:Act) (w:World):Prop:=
 Down .any ops L->TD P .any ops Q S T n L a w
theorem Bo.start {id:Nat} {a:Act} {w:World} (T:List Nat) (S:World->Prop) (hm:P.follows .mixedOrders=true) (hS:S w.drew) (h:S w.drew->Bo P ops Q S T ops.size (Array.replicate ops.size false) a w.drew):(Code.region id ops true).wp P Q a w:=
 wp_region_any hm (N8 _ _ _ _ (h hS (Down.start _)))
theorem Bo.take (m:Nat) {i:Nat} {oi:Oper} {v:Value} {n:Nat} {L:Array Bool} {a:Act} {w:World} (hi:ops[i]? = some oi) (ht:N7 .any ops T m i=true)
 (hs:Region.noSelect ops=true) (hf:Region.free .any ops L i=true) (hr:(Region.ready .any ops L).contains i=true)
 (hQ:∀c a w,Q (.panic c) (a.put oi.dst v) w->Q (.panic c) a w) (hy:YieldsIf P ops S oi v a) (hS:S w)
 (h:Bo P ops Q S T n (L.setIfInBounds i true) (a.put oi.dst v) w):Bo P ops Q S T (n+1) L a w:=λhd=>
 OQ (S':=S) hi (Region.noSelect_spec hs) (λ_ _ _ _ hd' ZR hrj hw hk=>hk (jG ht hd' ZR hrj) hw) hQ n L a w hd (Region.free_spec hi hf) (by simpa using hr) hy hS (h (hd.set (by simpa using hr)))
theorem Bo.move {i:Nat} {oi:Oper} {v:Value} {n:Nat} {L:Array Bool} {a:Act} {w:World} (hi:ops[i]? = some oi)
 (hs:Region.noSelect ops=true) (hf:Region.free .any ops L i=true) (hr:(Region.ready .any ops L).contains i=true)
 (hQ:∀c a w,Q (.panic c) (a.put oi.dst v) w->Q (.panic c) a w) (hy:Yields P ops oi v a)
 (h:Bo P ops Q S T n (L.setIfInBounds i true) (a.put oi.dst v) w):Bo P ops Q S T (n+1) L a w:=λhd=>
 OQ (S':=λ_=>True) hi (Region.noSelect_spec hs) (λ_ _ _ _ _ _ _ _ _=>trivial) hQ n L a w hd (Region.free_spec hi hf) (by simpa using hr) (hy.yieldsIf) trivial (h (hd.set (by simpa using hr)))
theorem Bo.one {i:Nat} {o:Oper} {n:Nat} {L:Array Bool} {a:Act} {w:World} (ho:ops[i]? = some o) (hr:Region.ready .any ops L = [i])
 (h:∀K':Act->World->Prop,Hid (∀a w',(T.contains i=false->S w->S w')->Bo P ops Q S T n (L.setIfInBounds i true) a w'->K' a w')->if Region.wanted o (yielded ops a.tmps)=true then Oper.wp P o a w K' Q else K' (a.put o.dst undef) w) :
 Bo P ops Q S T (n+1) L a w:=λhd=>by
 refine ⟨λh0=>(by rw [hr] at h0;cases h0),λj hj=>?_⟩
 have hji:j=i:=by rw [hr] at hj;simpa using hj
 subst hji;exact wpOp_step ho λK' hK=>h K' (Lib.hid λa' w' hS hG=>hK a' w' ⟨hS,hG (hd.set hj)⟩)
theorem Bo.pair {i k:Nat} {o o':Oper} {n:Nat} {L:Array Bool} {a:Act} {w:World} (ho:ops[i]? = some o) (ho':ops[k]? = some o') (hr:Region.ready .any ops L = [i,k])
 (h:∀K':Act->World->Prop,Hid (∀a w',(T.contains i=false->S w->S w')->Bo P ops Q S T n (L.setIfInBounds i true) a w'->K' a w')->if Region.wanted o (yielded ops a.tmps)=true then Oper.wp P o a w K' Q else K' (a.put o.dst undef) w)
 (h':∀K':Act->World->Prop,Hid (∀a w',(T.contains k=false->S w->S w')->Bo P ops Q S T n (L.setIfInBounds k true) a w'->K' a w')->if Region.wanted o' (yielded ops a.tmps)=true then Oper.wp P o' a w K' Q else K' (a.put o'.dst undef) w) :
 Bo P ops Q S T (n+1) L a w:=λhd=>by
 refine ⟨λh0=>(by rw [hr] at h0;cases h0),λj hj=>?_⟩
 have hji:j=i\/j=k:=by rw [hr] at hj;simpa using hj
 rcases hji with rfl | rfl
 ·exact wpOp_step ho λK' hK=>h K' (Lib.hid λa' w' hS hG=>hK a' w' ⟨hS,hG (hd.set hj)⟩)
 ·exact wpOp_step ho' λK' hK=>h' K' (Lib.hid λa' w' hS hG=>hK a' w' ⟨hS,hG (hd.set hj)⟩)
theorem Bo.mv {i:Nat} {oi:Oper} {v:Value} {n:Nat} {L:Array Bool} {a:Act} {w:World} (hi:ops[i]? = some oi) (hw:Region.wanted oi (yielded ops a.tmps)=true) (hy:∀w,(execOp a.eval oi).run P w=.ok (.value v) w) (h:Bo P ops Q S T n (L.setIfInBounds i true) (a.put oi.dst v) w)
 (hs:Region.noSelect ops=true:=by kernel_rfl) (hf:Region.free .any ops L i=true:=by kernel_rfl) (hr:(Region.ready .any ops L).contains i=true:=by kernel_rfl) (hQ:∀c a w,Q (.panic c) (a.put oi.dst v) w->Q (.panic c) a w:=by exact λ_ _ _ h=>h):Bo P ops Q S T (n+1) L a w:=
 Bo.move hi hs hf hr hQ (Or.inl ⟨hw,hy⟩) h
theorem Bo.tk (m:Nat) {i:Nat} {oi:Oper} {v:Value} {n:Nat} {L:Array Bool} {a:Act} {w:World} (hi:ops[i]? = some oi) (hw:Region.wanted oi (yielded ops a.tmps)=true) (hy:∀w,S w->(execOp a.eval oi).run P w=.ok (.value v) w) (h:Bo P ops Q S T n (L.setIfInBounds i true) (a.put oi.dst v) w)
 (ht:N7 .any ops T m i=true:=by kernel_rfl) (hs:Region.noSelect ops=true:=by kernel_rfl) (hf:Region.free .any ops L i=true:=by kernel_rfl) (hr:(Region.ready .any ops L).contains i=true:=by kernel_rfl) (hQ:∀c a w,Q (.panic c) (a.put oi.dst v) w->Q (.panic c) a w:=by exact λ_ _ _ h=>h) (hS:S w:=by assumption):Bo P ops Q S T (n+1) L a w:=
 Bo.take m hi ht hs hf hr hQ (Or.inl ⟨hw,hy⟩) hS h
theorem Bo.mw (i : Nat) {oi : Oper} {v : Value} {n : Nat} {L : Array Bool} {a : Act} {w : World} (h : Bo P ops Q S T n (L.setIfInBounds i true) (a.put oi.dst v) w) (hi : ops[i]? = some oi := by rfl) (hw : Region.wanted oi (yielded ops a.tmps) = true := by rfl) (hy : ∀ w, (execOp a.eval oi).run P w = .ok (.value v) w := by intro w; go_simp <;> with_reducible rfl) (hs : Region.noSelect ops = true := by kernel_rfl) (hf : Region.free .any ops L i = true := by kernel_rfl) (hr : (Region.ready .any ops L).contains i = true := by kernel_rfl) (hQ : ∀ c a w, Q (.panic c) (a.put oi.dst v) w -> Q (.panic c) a w := by exact λ_ _ _ h => h) : Bo P ops Q S T (n + 1) L a w := Bo.mv hi hw hy h hs hf hr hQ
theorem Bo.tl (m i : Nat) {oi : Oper} {v : Value} {n : Nat} {L : Array Bool} {a : Act} {w : World} (h : Bo P ops Q S T n (L.setIfInBounds i true) (a.put oi.dst v) w) (hi : ops[i]? = some oi := by rfl) (hw : Region.wanted oi (yielded ops a.tmps) = true := by rfl) (hy : ∀ w, S w -> (execOp a.eval oi).run P w = .ok (.value v) w := by intro w hSw; go_simp <;> with_reducible rfl) (ht : N7 .any ops T m i = true := by kernel_rfl) (hs : Region.noSelect ops = true := by kernel_rfl) (hf : Region.free .any ops L i = true := by kernel_rfl) (hr : (Region.ready .any ops L).contains i = true := by kernel_rfl) (hQ : ∀ c a w, Q (.panic c) (a.put oi.dst v) w -> Q (.panic c) a w := by exact λ_ _ _ h => h) (hS : S w := by assumption) : Bo P ops Q S T (n + 1) L a w := Bo.tk m hi hw hy h ht hs hf hr hQ hS

theorem Bo.mx (i d : Nat) {o1 o2 o3 o4 o5} {v : Value} {n : Nat} {L : Array Bool} {a a' : Act} {w : World} (h : Bo P ops Q S T n (L.setIfInBounds i true) a' w) (hi : ops[i]? = some ⟨some d,o1,o2,o3,o4,o5⟩ := by rfl) (hw : Region.wanted ⟨some d,o1,o2,o3,o4,o5⟩ (yielded ops a.tmps) = true := by rfl) (hy : ∀ w, (execOp a.eval ⟨some d,o1,o2,o3,o4,o5⟩).run P w = .ok (.value v) w := by intro w; go_simp <;> with_reducible rfl) (ha : a.put (some d) v = a' := by simp only [Act.put, sA, sZ, sS]; exact rfl) (hs : Region.noSelect ops = true := by kernel_rfl) (hf : Region.free .any ops L i = true := by kernel_rfl) (hr : (Region.ready .any ops L).contains i = true := by kernel_rfl) (hQ : ∀ c a w, Q (.panic c) (a.put (some d) v) w -> Q (.panic c) a w := by exact λ_ _ _ h => h) : Bo P ops Q S T (n + 1) L a w := by
  subst ha;exact Bo.move hi hs hf hr hQ (Or.inl ⟨hw, hy⟩) h
theorem Bo.ty (m i d : Nat) {o1 o2 o3 o4 o5} {v : Value} {n : Nat} {L : Array Bool} {a a' : Act} {w : World} (h : Bo P ops Q S T n (L.setIfInBounds i true) a' w) (hi : ops[i]? = some ⟨some d,o1,o2,o3,o4,o5⟩ := by rfl) (hw : Region.wanted ⟨some d,o1,o2,o3,o4,o5⟩ (yielded ops a.tmps) = true := by rfl) (hy : ∀ w, S w -> (execOp a.eval ⟨some d,o1,o2,o3,o4,o5⟩).run P w = .ok (.value v) w := by intro w hSw; go_simp <;> with_reducible rfl) (ha : a.put (some d) v = a' := by simp only [Act.put, sA, sZ, sS]; exact rfl) (ht : N7 .any ops T m i = true := by kernel_rfl) (hs : Region.noSelect ops = true := by kernel_rfl) (hf : Region.free .any ops L i = true := by kernel_rfl) (hr : (Region.ready .any ops L).contains i = true := by kernel_rfl) (hQ : ∀ c a w, Q (.panic c) (a.put (some d) v) w -> Q (.panic c) a w := by exact λ_ _ _ h => h) (hS : S w := by assumption) : Bo P ops Q S T (n + 1) L a w := by
  subst ha;exact Bo.take m hi ht hs hf hr hQ (Or.inl ⟨hw, hy⟩) hS h
theorem Bo.done {n:Nat} {L:Array Bool} {a:Act} {w:World} (hr:Region.ready .any ops L = []) (h:Q .normal a w):Bo P ops Q S T n L a w:=λ_=>by
 cases n with
 |zero=>exact ⟨hr,h⟩
 |succ n=>exact ⟨λ_=>h,by rw [hr];simp⟩
end
