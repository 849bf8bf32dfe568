/- A region that draws its order and ends in operations that wait for all others: what is loaded -/
import Derived.WalkKit
import Derived.OrdersHeld
import Derived.Lib.Hide
namespace Go.Proofs.YtkbaaonchdeneaaGreat
open Go.RowKit
theorem sA {α:Type _} {xs:List α} {i:Nat} {a:α}:xs.toArray.setIfInBounds i a=(xs.set i a).toArray:=List.setIfInBounds_toArray _ _ _
theorem sZ {α:Type _} {x y:α} {l:List α}:(x::l).set 0 y=y::l:=rfl
theorem sS {α:Type _} {x y:α} {l:List α} {n:Nat}:(x::l).set (n+1) y=x::l.set n y:=rfl
section
variable {P:Program} {ops:Array Oper} {Q:Exit→Act→World→Prop} {md:Region.Mode} {S:World→Prop} {T:List Nat}
def Down (md:Region.Mode) (ops:Array Oper) (L:Array Bool):Prop:=
 ∀j o,ops[j]? = some o→L.getD j false=true→∀e∈o.after,Region.binds md e=true→L.getD e.on false=true
theorem WX {L:Array Bool} {i k:Nat} (h:(L.setIfInBounds i true).getD k false=true):k=i∨L.getD k false=true:=by
 by_cases hk:i=k
 ·exact .inl hk.symm
 ·rw [getD_set_ne false hk] at h;exact .inr h
theorem Down.set {L:Array Bool} (h:Down md ops L) {i:Nat} (hi:i∈Region.ready md ops L):Down md ops (L.setIfInBounds i true):=by
 intro j o ho hj e he hb;obtain ⟨_,o',ho',hall⟩:=mem_ready.1 hi;rcases WX hj with rfl | hj
 ·rw [ho] at ho'
  cases ho'
  exact getD_set_true (hall e he hb)
 ·exact getD_set_true (h j o ho hj e he hb)
theorem Down.start (n:Nat):Down md ops (Array.replicate n false):=by
 intro j o _ hj;exfalso
 rw [Array.getD_eq_getD_getElem?,Array.getElem?_replicate] at hj;split at hj<;>simp at hj
def reach (md:Region.Mode) (ops:Array Oper):Nat→Nat→List Nat
 |0,_=>[]
 |n+1,j=>match ops[j]? with
  |none=>[]
  |some o=>(o.after.toList.filter fun e=>Region.binds md e).flatMap fun e=>e.on::reach md ops n e.on
theorem iR {L:Array Bool} (h:Down md ops L):∀(n j:Nat),(∀o,ops[j]? = some o→∀e∈o.after,Region.binds md e=true→L.getD e.on false=true)→∀k∈reach md ops n j,L.getD k false=true:=by
 intro n;induction n with
 |zero=>intro j _ k hk;simp [reach] at hk
 |succ n ih=>
  intro j hj k hk;unfold reach at hk
  cases ho:ops[j]? with
  |none=>rw [ho] at hk;simp at hk
  |some o=>
   rw [ho] at hk;simp only [List.mem_flatMap,List.mem_filter,List.mem_cons] at hk;obtain ⟨e,⟨he,hb⟩,hk⟩:=hk;have hl:=hj o ho e (by simpa using he) hb;rcases hk with rfl | hk
   ·exact hl
   ·exact ih e.on (fun o' ho'=>h e.on o' ho' hl) k hk
def UJ (md:Region.Mode) (ops:Array Oper) (T:List Nat) (n i:Nat):Bool:=T.all fun j=>(reach md ops n j).contains i
theorem oZ {n i:Nat} (ht:UJ md ops T n i=true) {L:Array Bool} (h:Down md ops L) {j:Nat} (hj:j∈Region.ready md ops L) (hT:T.contains j=true):L.getD i false=true:=by
 unfold UJ at ht;rw [List.all_eq_true] at ht;have h1:=ht j (by simpa using hT);obtain ⟨_,o,ho,hall⟩:=mem_ready.1 hj;exact iR h n j (fun o' ho'=>by rw [ho] at ho';cases ho';exact hall) i (by simpa using h1)
theorem o7 {n i:Nat} (ht:UJ md ops T n i=true) {L:Array Bool} (hd:Down md ops L) (iU:i∈Region.ready md ops L) {j:Nat} (hj:j∈Region.ready md ops L):T.contains j=false:=by
 cases hc:T.contains j with
 |false=>rfl
 |true=>
  exfalso
  have h1:=oZ ht hd hj hc;have h0:=(mem_ready.1 iU).1;rw [Array.getD_eq_getD_getElem?] at h0 h1
  cases hL:L[i]? with
  |none=>rw [hL] at h1;simp at h1
  |some b=>rw [hL] at h0 h1;simp at h0 h1;rw [h0] at h1;cases h1
def WY (P:Program) (md:Region.Mode) (ops:Array Oper) (Q:Exit→Act→World→Prop) (S:World→Prop) (T:List Nat):Nat→Array Bool→Act→World→Prop
 |0,L,a,w=>Region.ready md ops L = []∧Q .normal a w
 |n+1,L,a,w=>(Region.ready md ops L = []→Q .normal a w)∧
  ∀i∈Region.ready md ops L,wpOp P ops Q i (fun a' w'=>(T.contains i=false→S w→S w')∧WY P md ops Q S T n (L.setIfInBounds i true) a' w') a w
theorem KQ:∀(n:Nat) (L:Array Bool) (a:Act) (w:World),WY P md ops Q S T n L a w→wpAny P md ops Q n L a w
 |0,_,_,_,h=>h
 |n+1,_,_,_,h=>⟨h.1,fun i hi=>wpOp_mono (fun a' w' h'=>KQ n _ a' w' h'.2) (h.2 i hi)⟩
theorem Td {S':World→Prop} {i:Nat} {oi:Oper} {v:Value} (hi:ops[i]? = some oi) (hsel:∀(j:Nat) (o:Oper) cs b,ops[j]? = some o→o.op≠.select cs b)
 (a5U:∀(L:Array Bool) (j:Nat) (w w':World),Down md ops L→i∈Region.ready md ops L→j∈Region.ready md ops L→S' w→(T.contains j=false→S w→S w')→S' w')
 (hQ:∀c a w,Q (.panic c) (a.put oi.dst v) w→Q (.panic c) a w):∀(n:Nat) (L:Array Bool) (a:Act) (w:World),Down md ops L→
 (∀j oj,ops[j]? = some oj→j≠i→L.getD j true=false→(∀e∈oj.after,Region.binds md e=true→e.on≠i)→oi.apart ops oj=true)→
 i∈Region.ready md ops L→YieldsIf P ops S' oi v a→S' w→WY P md ops Q S T n (L.setIfInBounds i true) (a.put oi.dst v) w→WY P md ops Q S T (n+1) L a w:=by
 intro n;induction n with
 |zero=>
  intro L a w _ _ hr hy hS H;refine ⟨fun h=>(by rw [h] at hr;cases hr),fun j hj=>?_⟩
  by_cases hji:j=i
  ·subst hji;exact hy.wpOp hi hS ⟨fun _ h=>h,H⟩
  ·have:=ready_mono hj hji;rw [H.1] at this
   cases this
 |succ n ih=>
  intro L a w hd hfree hr hy hS H;refine ⟨fun h=>(by rw [h] at hr;cases hr),fun j hj=>?_⟩
  by_cases hji:j=i
  ·subst hji;exact hy.wpOp hi hS ⟨fun _ h=>h,H⟩
  ·have h1:=H.2 j (ready_mono hj hji);obtain ⟨hjun,oj,hoj,hall⟩:=mem_ready.1 hj
   have hnot:∀e∈oj.after,Region.binds md e=true→e.on≠i:=fun e he hb heq=>by
    have h1:=hall e he hb;have h0:=(mem_ready.1 hr).1;rw [heq] at h1;rw [Array.getD_eq_getD_getElem?] at h0 h1
    cases hL:L[i]? with
    |none=>rw [hL] at h1;simp at h1
    |some b=>rw [hL] at h0 h1;simp at h0 h1;rw [h0] at h1;cases h1
   have h2:=wpOp_putIf hoj (hfree j oj hoj hji hjun hnot) (fun cs b=>hsel i oi cs b hi) (fun cs b=>hsel j oj cs b hoj) hQ hy h1;refine wpOp_mono (fun a' w' h3=>⟨h3.2.1,ih (L.setIfInBounds j true) a' w' (hd.set hj) ?_ (ready_mono hr (Ne.symm hji)) h3.1 (a5U L j w w' hd hr hj hS h3.2.1) ?_⟩) h2
   ·intro k ok hk hki hun hno;refine hfree k ok hk hki ?_ hno
    by_cases hjk:j=k
    ·rw [←hjk];exact hjun
    ·rw [getD_set_ne true hjk] at hun;exact hun
   ·rw [Array.setIfInBounds_comm _ _ hji];exact h3.2.2
def Bj (P:Program) (ops:Array Oper) (Q:Exit→Act→World→Prop) (S:World→Prop) (T:List Nat) (n:Nat) (L:Array Bool) (a:Act) (w:World):Prop:=
 Down .any ops L→WY P .any ops Q S T n L a w
theorem Bj.start {id:Nat} {a:Act} {w:World} (T:List Nat) (S:World→Prop) (hm:P.follows .mixedOrders=true) (hS:S w.drew) (h:S w.drew→Bj P ops Q S T ops.size (Array.replicate ops.size false) a w.drew):(Code.region id ops true).wp P Q a w:=
 wp_region_any hm (KQ _ _ _ _ (h hS (Down.start _)))
theorem Bj.take (m:Nat) {i:Nat} {oi:Oper} {v:Value} {n:Nat} {L:Array Bool} {a:Act} {w:World} (hi:ops[i]? = some oi) (ht:UJ .any ops T m i=true)
 (hs:Region.noSelect ops=true) (hf:Region.free .any ops L i=true) (hr:(Region.ready .any ops L).contains i=true)
 (hQ:∀c a w,Q (.panic c) (a.put oi.dst v) w→Q (.panic c) a w) (hy:YieldsIf P ops S oi v a) (hS:S w)
 (h:Bj P ops Q S T n (L.setIfInBounds i true) (a.put oi.dst v) w):Bj P ops Q S T (n+1) L a w:=fun hd=>
 Td (S':=S) hi (Region.noSelect_spec hs) (fun _ _ _ _ hd' iU hrj hw hk=>hk (o7 ht hd' iU hrj) hw) hQ n L a w hd (Region.free_spec hi hf) (by simpa using hr) hy hS (h (hd.set (by simpa using hr)))
theorem Bj.move {i:Nat} {oi:Oper} {v:Value} {n:Nat} {L:Array Bool} {a:Act} {w:World} (hi:ops[i]? = some oi)
 (hs:Region.noSelect ops=true) (hf:Region.free .any ops L i=true) (hr:(Region.ready .any ops L).contains i=true)
 (hQ:∀c a w,Q (.panic c) (a.put oi.dst v) w→Q (.panic c) a w) (hy:Yields P ops oi v a)
 (h:Bj P ops Q S T n (L.setIfInBounds i true) (a.put oi.dst v) w):Bj P ops Q S T (n+1) L a w:=fun hd=>
 Td (S':=fun _=>True) hi (Region.noSelect_spec hs) (fun _ _ _ _ _ _ _ _ _=>trivial) hQ n L a w hd (Region.free_spec hi hf) (by simpa using hr) (hy.yieldsIf) trivial (h (hd.set (by simpa using hr)))
theorem Bj.one {i:Nat} {o:Oper} {n:Nat} {L:Array Bool} {a:Act} {w:World} (ho:ops[i]? = some o) (hr:Region.ready .any ops L = [i])
 (h:∀K':Act→World→Prop,Hid (∀a w',(T.contains i=false→S w→S w')→Bj P ops Q S T n (L.setIfInBounds i true) a w'→K' a w')→if Region.wanted o (yielded ops a.tmps)=true then Oper.wp P o a w K' Q else K' (a.put o.dst undef) w) :
 Bj P ops Q S T (n+1) L a w:=fun hd=>by
 refine ⟨fun h0=>(by rw [hr] at h0;cases h0),fun j hj=>?_⟩
 have hji:j=i:=by rw [hr] at hj;simpa using hj
 subst hji;exact wpOp_step ho fun K' hK=>h K' (Lib.hid fun a' w' hS hG=>hK a' w' ⟨hS,hG (hd.set hj)⟩)
theorem Bj.pair {i k:Nat} {o o':Oper} {n:Nat} {L:Array Bool} {a:Act} {w:World} (ho:ops[i]? = some o) (ho':ops[k]? = some o') (hr:Region.ready .any ops L = [i,k])
 (h:∀K':Act→World→Prop,Hid (∀a w',(T.contains i=false→S w→S w')→Bj P ops Q S T n (L.setIfInBounds i true) a w'→K' a w')→if Region.wanted o (yielded ops a.tmps)=true then Oper.wp P o a w K' Q else K' (a.put o.dst undef) w)
 (h':∀K':Act→World→Prop,Hid (∀a w',(T.contains k=false→S w→S w')→Bj P ops Q S T n (L.setIfInBounds k true) a w'→K' a w')→if Region.wanted o' (yielded ops a.tmps)=true then Oper.wp P o' a w K' Q else K' (a.put o'.dst undef) w) :
 Bj P ops Q S T (n+1) L a w:=fun hd=>by
 refine ⟨fun h0=>(by rw [hr] at h0;cases h0),fun j hj=>?_⟩
 have hji:j=i∨j=k:=by rw [hr] at hj;simpa using hj
 rcases hji with rfl | rfl
 ·exact wpOp_step ho fun K' hK=>h K' (Lib.hid fun a' w' hS hG=>hK a' w' ⟨hS,hG (hd.set hj)⟩)
 ·exact wpOp_step ho' fun K' hK=>h' K' (Lib.hid fun a' w' hS hG=>hK a' w' ⟨hS,hG (hd.set hj)⟩)
theorem Bj.mv {i:Nat} {oi:Oper} {v:Value} {n:Nat} {L:Array Bool} {a:Act} {w:World} (hi:ops[i]? = some oi) (hw:Region.wanted oi (yielded ops a.tmps)=true) (hy:∀w,(execOp a.eval oi).run P w=.ok (.value v) w) (h:Bj P ops Q S T n (L.setIfInBounds i true) (a.put oi.dst v) w)
 (hs:Region.noSelect ops=true:=by kernel_rfl) (hf:Region.free .any ops L i=true:=by kernel_rfl) (hr:(Region.ready .any ops L).contains i=true:=by kernel_rfl) (hQ:∀c a w,Q (.panic c) (a.put oi.dst v) w→Q (.panic c) a w:=by exact fun _ _ _ h=>h):Bj P ops Q S T (n+1) L a w:=
 Bj.move hi hs hf hr hQ (Or.inl ⟨hw,hy⟩) h
theorem Bj.tk (m:Nat) {i:Nat} {oi:Oper} {v:Value} {n:Nat} {L:Array Bool} {a:Act} {w:World} (hi:ops[i]? = some oi) (hw:Region.wanted oi (yielded ops a.tmps)=true) (hy:∀w,S w→(execOp a.eval oi).run P w=.ok (.value v) w) (h:Bj P ops Q S T n (L.setIfInBounds i true) (a.put oi.dst v) w)
 (ht:UJ .any ops T m i=true:=by kernel_rfl) (hs:Region.noSelect ops=true:=by kernel_rfl) (hf:Region.free .any ops L i=true:=by kernel_rfl) (hr:(Region.ready .any ops L).contains i=true:=by kernel_rfl) (hQ:∀c a w,Q (.panic c) (a.put oi.dst v) w→Q (.panic c) a w:=by exact fun _ _ _ h=>h) (hS:S w:=by assumption):Bj P ops Q S T (n+1) L a w:=
 Bj.take m hi ht hs hf hr hQ (Or.inl ⟨hw,hy⟩) hS h
theorem Bj.mw (i : Nat) {oi : Oper} {v : Value} {n : Nat} {L : Array Bool} {a : Act} {w : World} (h : Bj P ops Q S T n (L.setIfInBounds i true) (a.put oi.dst v) w) (hi : ops[i]? = some oi := by rfl) (hw : Region.wanted oi (yielded ops a.tmps) = true := by rfl) (hy : ∀ w, (execOp a.eval oi).run P w = .ok (.value v) w := by intro w; go_simp <;> with_reducible rfl) (hs : Region.noSelect ops = true := by kernel_rfl) (hf : Region.free .any ops L i = true := by kernel_rfl) (hr : (Region.ready .any ops L).contains i = true := by kernel_rfl) (hQ : ∀ c a w, Q (.panic c) (a.put oi.dst v) w → Q (.panic c) a w := by exact fun _ _ _ h => h) : Bj P ops Q S T (n + 1) L a w := Bj.mv hi hw hy h hs hf hr hQ
theorem Bj.tl (m i : Nat) {oi : Oper} {v : Value} {n : Nat} {L : Array Bool} {a : Act} {w : World} (h : Bj P ops Q S T n (L.setIfInBounds i true) (a.put oi.dst v) w) (hi : ops[i]? = some oi := by rfl) (hw : Region.wanted oi (yielded ops a.tmps) = true := by rfl) (hy : ∀ w, S w → (execOp a.eval oi).run P w = .ok (.value v) w := by intro w hSw; go_simp <;> with_reducible rfl) (ht : UJ .any ops T m i = true := by kernel_rfl) (hs : Region.noSelect ops = true := by kernel_rfl) (hf : Region.free .any ops L i = true := by kernel_rfl) (hr : (Region.ready .any ops L).contains i = true := by kernel_rfl) (hQ : ∀ c a w, Q (.panic c) (a.put oi.dst v) w → Q (.panic c) a w := by exact fun _ _ _ h => h) (hS : S w := by assumption) : Bj P ops Q S T (n + 1) L a w := Bj.tk m hi hw hy h ht hs hf hr hQ hS
theorem Bj.done {n:Nat} {L:Array Bool} {a:Act} {w:World} (hr:Region.ready .any ops L = []) (h:Q .normal a w):Bj P ops Q S T n L a w:=fun _=>by
 cases n with
 |zero=>exact ⟨hr,h⟩
 |succ n=>exact ⟨fun _=>h,by rw [hr];simp⟩
end
