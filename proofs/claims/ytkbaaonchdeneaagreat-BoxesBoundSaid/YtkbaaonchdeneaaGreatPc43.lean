/- A map whose keys are two places: how often each pair is held. -/
import Derived.Test.YtkbaaonchdeneaaGreatRows
import Derived.WideKeyEntry
import Derived.DeepKeys4
import Derived.Test.YtkbaaonchdeneaaGreatPc1
set_option maxRecDepth 100000
namespace Go.Proofs.YtkbaaonchdeneaaGreat
open Go.RowKit
open Go.Maps (Keyed Tidy IsMap)
open Go.ChangeMaps (setBlock heap_setBlock_same heap_setBlock_other)
open Go.WideElems (Fit)
section
variable {H:Type} {P:Program} {w:World} {t k e:TypeId} {R:Value->Option (DataW H×List MemPlace)} {b:Nat} {es:Array MapEntry} {clock:Nat}
theorem bZ (K:WideMaps.KeyLaw P k) (ht:P.underlying t=some (.map k e)) {z:Value} (hz:∀u:World,(zeroValue e).run P u=.ok z u) (hb:w.heap[b]? = some (.map es clock)) (F:Fit P k R es clock)
 {key:Value} {kl:Lit} (hkey:keyOf P k key=some kl) :
 ∃(v0:Value) (st:Nat) (es1:Array MapEntry) (clock1:Nat),(Instr.mapEntry t (.map (some b)) key).run P w=.ok (.tuple #[v0,goInt st]) (setBlock w b (.map es1 clock1))/\
  (Instr.lookup t (.map (some b)) key false).run P w=.ok v0 w/\
  ∀(w2:World),w2.heap[b]? = some (.map es1 clock1)->(Instr.lookup t (.map (some b)) key false).run P w2=.ok v0 w2/\
   ∀val,∃es' clock',(Instr.entryStore t (.map (some b)) (goInt st) val).run P w2=.ok () (setBlock w2 b (.map es' clock'))/\
   (Instr.mapUpdate t (.map (some b)) key val).run P w=.ok () (setBlock w b (.map es' clock')):=by
 obtain ⟨v0,st,es1,clock1,h1,h2,h3⟩:=WideElems.entry_then_store K ht hz hb F hkey
 have hlook:(Instr.lookup t (.map (some b)) key false).run P w=.ok v0 w:=by
  rcases K.find w hkey es.toList F.keys with ⟨g1,g2⟩ | ⟨j,e0,g1,g2,g3⟩
  ·rcases h2 with ⟨e1,he1,he2,_⟩ | ⟨_,rfl⟩
   ·exact (g2 e1 he1 he2).elim
   ·simp [Instr.lookup,run_underlying ht,MapKept.run_getObj_map hb,K.check w _ hkey,g1,hz,Result.andThen]
  ·have hj:es[j]? = some e0:=by simpa using g2
   have hv:v0=e0.val:=by
    have hr:(Instr.mapEntry t (.map (some b)) key).run P w=.ok (.tuple #[e0.val,goInt e0.born]) (setBlock w b (.map (es.modify j λe=>{ e with key:=key }) clock)):=by
     simp [Instr.mapEntry,run_underlying ht,MapKept.run_getObj_map hb,K.check w false hkey,g1,hj,g3,K.stays w hkey,MapKept.run_setObj_map _ hb,Result.andThen,setBlock]
    rw [h1] at hr;simp at hr;exact hr.1.1
   subst hv;simp [Instr.lookup,run_underlying ht,MapKept.run_getObj_map hb,K.check w _ hkey,g1,Result.andThen]
 refine ⟨v0,st,es1,clock1,h1,hlook,λw2 hw2=>⟨?_,λval=>h3 w2 val hw2⟩⟩
 rcases K.find w hkey es.toList F.keys with ⟨g1,g2⟩ | ⟨j,e0,g1,g2,g3⟩
 ·have hr:(Instr.mapEntry t (.map (some b)) key).run P w=.ok (.tuple #[z,goInt clock]) (setBlock w b (.map (es.push ⟨key,z,clock⟩) (clock+1))):=by
   simp [Instr.mapEntry,run_underlying ht,MapKept.run_getObj_map hb,K.check w false hkey,g1,hz,MapKept.run_setObj_map _ hb,Result.andThen,setBlock]
  rw [h1] at hr;obtain ⟨hr1,hr2⟩:=Result.ok.inj hr
  have hv:v0=z:=by
   have:=congrArg (λa:Array Value=>a[0]?) (Value.tuple.inj hr1);simpa using this
  have he:Obj.map es1 clock1=.map (es.push ⟨key,z,clock⟩) (clock+1):=by
   have e1:=heap_setBlock_same hb (.map es1 clock1);rw [hr2,heap_setBlock_same hb] at e1;exact (Option.some.inj e1).symm
  obtain ⟨he1,he2⟩:=Obj.map.inj he;subst he1 hv
  rcases K.find w2 hkey (es.push ⟨key,v0,clock⟩).toList (by
   intro x hx;rw [Array.toList_push,List.mem_append] at hx;rcases hx with hx | hx
   ·exact F.keys x hx
   ·simp at hx;subst hx;exact ⟨kl,hkey⟩) with ⟨q1,q2⟩ | ⟨j,e1,q1,q2,q3⟩
  ·exact (q2 ⟨key,v0,clock⟩ (by simp) rfl).elim
  ·have hj1:e1=⟨key,v0,clock⟩:=by
    have hm:=List.mem_of_getElem? q2;rw [Array.toList_push,List.mem_append] at hm;rcases hm with hm | hm
    ·exact (g2 e1 hm q3).elim
    ·simpa using hm
   subst hj1;simp [Instr.lookup,run_underlying ht,MapKept.run_getObj_map hw2,K.check w2 _ hkey];rw [Array.toList_push] at q1;simp [q1,Result.andThen]
 ·have hj:es[j]? = some e0:=by simpa using g2
  have hsame:es.modify j (λe=>{ e with key:=key })=es:=by
   apply Array.ext'
   rw [Array.toList_modify,ChangeMaps.modify_eq_set _ _ _ _ g2];have:({ e0 with key:=key }:MapEntry)=e0:=by rw [<-g3]
   rw [this];exact WideElems.set_self _ _ _ g2
  have hr:(Instr.mapEntry t (.map (some b)) key).run P w=.ok (.tuple #[e0.val,goInt e0.born]) (setBlock w b (.map es clock)):=by
   simp [Instr.mapEntry,run_underlying ht,MapKept.run_getObj_map hb,K.check w false hkey,g1,hj,g3,K.stays w hkey,hsame,MapKept.run_setObj_map _ hb,Result.andThen,setBlock]
  rw [h1] at hr;obtain ⟨hr1,hr2⟩:=Result.ok.inj hr
  have hv:v0=e0.val:=by
   have:=congrArg (λa:Array Value=>a[0]?) (Value.tuple.inj hr1);simpa using this
  have he:Obj.map es1 clock1=.map es clock:=by
   have e1:=heap_setBlock_same hb (.map es1 clock1);rw [hr2,heap_setBlock_same hb] at e1;exact (Option.some.inj e1).symm
  obtain ⟨he1,he2⟩:=Obj.map.inj he;subst he1 he2 hv;rcases K.find w2 hkey es1.toList F.keys with ⟨q1,q2⟩ | ⟨j2,e2,q1,q2,q3⟩
  ·exact (q2 e0 (List.mem_of_getElem? g2) g3).elim
  ·have hk1:∀x,x∈es1.toList->x.key=key->(WideElems.rg P k R x).1=kl:=λx hx hxk=>by
    obtain ⟨y,hy⟩:=F.reads x hx;have m:=WideElems.rd_key hy;rw [hxk,hkey] at m;rw [WideElems.rg_of hy];exact (Option.some.inj m).symm
   have:e2=e0:=by
    obtain ⟨l1,e1'⟩:=AZ q2;obtain ⟨l2,e2'⟩:=AZ g2;have hap:=List.pairwise_iff_getElem.1 (F.apart K);rcases Nat.lt_trichotomy j2 j with h | h | h
    ·exact (hap j2 j (by simpa using l1) (by simpa using l2) h (by rw [List.getElem_map,List.getElem_map,e1',e2',hk1 _ (List.mem_of_getElem? q2) q3,hk1 _ (List.mem_of_getElem? g2) g3])).elim
    ·subst h;rw [<-e1',<-e2']
    ·exact (hap j j2 (by simpa using l2) (by simpa using l1) h (by rw [List.getElem_map,List.getElem_map,e1',e2',hk1 _ (List.mem_of_getElem? q2) q3,hk1 _ (List.mem_of_getElem? g2) g3])).elim
   subst this;simp [Instr.lookup,run_underlying ht,MapKept.run_getObj_map hw2,K.check w2 _ hkey,q1,Result.andThen]
end
def pk (s:Nat×Nat):Value:=.agg #[(s.1:Int),(s.2:Int)]
theorem a2L {s u:Nat×Nat} (h:pk s=pk u):s=u:=by
 obtain ⟨a,b⟩:=s;obtain ⟨c,d⟩:=u;unfold pk at h;simp at h;obtain ⟨h1,h2⟩:=h;have e1:a=c:=by omega
 have e2:b=d:=by omega
 rw [e1,e2]
theorem a2M:(match Tryz.prog.underlying 230 with | some (.array _ _) | some (.struct _)=>true | _=>false)=true:=by rw [Tryz.underlying230]
theorem a2N:laidOutB Tryz.prog=true:=by kernel_rfl
theorem a1k:(230:TypeId)<Tryz.prog.types.size:=of_decide_eq_true (by kernel_rfl)
theorem vI:WideMaps.KeyLaw Tryz.prog 230:=deep_law_laid a2N (m:=2) (by omega) a1k (by kernel_rfl) a2M
theorem SB:Keyed Tryz.prog 230:=Keyed.of_law vI
theorem a2O:(230:Nat)<Tryz.prog.types.size:=a1k
theorem iQ:Tryz.prog.cellsOf 230=2:=by kernel_rfl
theorem vJ:Tryz.prog.cellsOf 3=1:=by kernel_rfl
theorem a2P:Tryz.prog.keyType 230=true:=by kernel_rfl
theorem vK {n:Nat} (h:n<1000000):(Lit.int .i64 (n:Int)).wf=true:=by
 simp [Lit.wf,IntKind.min,IntKind.max,IntKind.signed,IntKind.bits];omega
theorem a5O (s:Nat×Nat) (h1:s.1<1000000) (h2:s.2<1000000):∃kl,keyOf Tryz.prog 230 (pk s)=some kl:=by
 have w1:=vK h1;have w2:=vK h2;obtain ⟨d,hd⟩:∃d,Tryz.prog.types.size+1=d+1+1:=⟨Tryz.prog.types.size - 1,Ac a2O⟩
 have hl:∃L,Tryz.prog.keyLits (Tryz.prog.types.size+1) 230 [.int .i64 (s.1:Int),.int .i64 (s.2:Int)]=some L:=by
  rw [hd];refine ⟨[.int .i64 (s.1:Int),.int .i64 (s.2:Int)],?_⟩
  unfold Program.keyLits;rw [Tryz.underlying230];simp only [iQ,vJ,List.length_cons,List.length_nil,List.range_succ,List.range_zero];simp [Program.keyLits,Tryz.underlying3,w1,w2]
 obtain ⟨L,hL⟩:=hl;refine ⟨.string (keyBytes L),?_⟩
 unfold keyOf;rw [Tryz.underlying230];simp only [a2P,Bool.true_and];have hfm:(pk s).formed Tryz.prog 230=true:=by simp [pk,Value.formed,Tryz.underlying230,iQ]
 rw [if_pos hfm];have hcs:(pk s).cells.toList = [.int .i64 (s.1:Int),.int .i64 (s.2:Int)]:=rfl;rw [hcs,hL];rfl
def DN (w:World) (b N:Nat) (q:Nat×Nat->Int):Prop:=
 ∃D:DataW Nat,w.ownsMap Tryz.prog 230 (plainElem Tryz.prog 3) b N D/\Tidy D/\∀s kl,keyOf Tryz.prog 230 (pk s)=some kl->D.atKey kl (.lit (.int .i64 0))=.lit (.int .i64 (q s))
theorem DN.lt {w:World} {b N:Nat} {q:Nat×Nat->Int} (h:DN w b N q):b<w.heap.size:=by
 obtain ⟨D,h1,_⟩:=h;exact h1.lt
theorem DN.upd {F:List Nat} {w w':World} {b N:Nat} {q:Nat×Nat->Int} (h:DN w b N q) (hu:Bj F w w') (hb:b∉F):DN w' b N q:=by
 obtain ⟨D,h1,h2⟩:=h;have hlt:=h1.lt;obtain ⟨es,clock,hb',hr⟩:=h1;exact ⟨D,⟨es,clock,(hu.block b hlt hb).trans hb',hr⟩,h2⟩
theorem DN.made (w:World):DN (w.alloc (.map #[] 0)) w.heap.size 0 (λ_=>0):=
 ⟨.map [],World.ownsMap_made _ _ _ _,Maps.tidy_empty,λs kl _=>by simp [DataW.atKey]⟩
theorem DN.look {w:World} {b N:Nat} {q:Nat×Nat->Int} (h:DN w b N q) (s:Nat×Nat) (h1:s.1<1000000) (h2:s.2<1000000) :
 (Instr.lookup 226 (.map (some b)) (pk s) false).run Tryz.prog w=.ok (.int .i64 (q s)) w:=by
 obtain ⟨kl,hkl⟩:=a5O s h1 h2;obtain ⟨D,d1,d2,d3⟩:=h;obtain ⟨c,hrun,hat,_⟩:=d1.lookup_int SB Tryz.underlying226 Tryz.underlying3 (by kernel_rfl) hkl;have:=d3 s kl hkl;rw [hat] at this;simp at this;rw [hrun,this]
theorem DN.move {w:World} {b N:Nat} {q:Nat×Nat->Int} (h:DN w b N q) (hN:N<1000000) (s:Nat×Nat) (h1:s.1<1000000) (h2:s.2<1000000) (y:Int) (hy:(Lit.int .i64 (q s+y)).wf=true) :
 ∃(st:Nat) (o1:Obj),(Instr.mapEntry 226 (.map (some b)) (pk s)).run Tryz.prog w=.ok (.tuple #[.int .i64 (q s),(st:Int)]) (setBlock w b o1)/\
  (Instr.lookup 226 (.map (some b)) (pk s) false).run Tryz.prog w=.ok (.int .i64 (q s)) w/\
  ∀w2:World,w2.heap[b]? = some o1->(Instr.lookup 226 (.map (some b)) (pk s) false).run Tryz.prog w2=.ok (.int .i64 (q s)) w2/\
   ∃o2,(Instr.entryStore 226 (.map (some b)) (.int .i64 (st:Int)) (.int .i64 (q s+y))).run Tryz.prog w2=.ok () (setBlock w2 b o2)/\
    ∀w3:World,w3.heap[b]? = some o2->DN w3 b (N+1) (λu=>if u=s then q s+y else q u):=by
 obtain ⟨kl,hkl⟩:=a5O s h1 h2;have hlk:=h.look s h1 h2;obtain ⟨D,d1,d2,d3⟩:=h;obtain ⟨es,clock,hb,F,hs,hD⟩:=d1;obtain ⟨v0,st,es1,clock1,e1,e2,e3⟩:=bZ vI Tryz.underlying226 (z:=.int .i64 0) (λu=>by kernel_rfl) hb F hkl;rw [hlk] at e2;obtain ⟨e2,_⟩:=Result.ok.inj e2;subst e2;refine ⟨st,.map es1 clock1,e1,hlk,λw2 hw2=>?_⟩
 obtain ⟨g1,g2⟩:=e3 w2 hw2;obtain ⟨es',clock',g3,g4⟩:=g2 (.int .i64 (q s+y));refine ⟨g1,.map es' clock',g3,λw3 hw3=>?_⟩
 have d1:w.ownsMap Tryz.prog 230 (plainElem Tryz.prog 3) b N D:=⟨es,clock,hb,F,hs,hD⟩;obtain ⟨w',hr,ho,hg⟩:=d1.update SB Tryz.underlying226 (by unfold maxLen;omega) hkl (plainElem_int (H:=Nat) Tryz.underlying3 hy);rw [g4] at hr;obtain ⟨_,hr⟩:=Result.ok.inj hr;obtain ⟨es2,clock2,hb2,F2,hs2,hD2⟩:=ho;rw [<-hr,heap_setBlock_same hb] at hb2;obtain ⟨rfl,rfl⟩:=Obj.map.inj (Option.some.inj hb2);refine ⟨_,⟨es',clock',hw3,F2,hs2,hD2⟩,d2.put (SB.key hkl) _,λu ku hku=>?_⟩
 by_cases hus:u=s
 ·subst hus;dsimp only;rw [if_pos rfl];rw [hkl] at hku
  cases hku
  rw [Maps.atKey_put_same d2.isMap (SB.key hkl)]
 ·dsimp only;rw [if_neg hus];have hne:ku≠kl:=λe=>hus (a2L (vI.inj (by rw [hku,e]) hkl))
  rw [Maps.atKey_put_other hne];exact d3 u ku hku
