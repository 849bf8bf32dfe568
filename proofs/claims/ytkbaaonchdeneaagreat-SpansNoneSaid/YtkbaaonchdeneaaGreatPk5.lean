/- Buckets, plainly: what is added to things that were set stands as if all had been set. Lists of things in the order of their names; plainly. No program. Chapter 26 plainly: what a model has, what each operation does and tells. No program. What chapter 26's laws lean on, plainly: which items lie in 64 bits, which points lie over others, which is the lowest. No program. A block of cells, as it stands. No program. A directory of names, plainly. -/
import Derived.Test.YtkbaaonchdeneaaGreatPk3
import Derived.Test.YtkbaaonchdeneaaGreatPk1
import Derived.Test.YtkbaaonchdeneaaGreatPk4
namespace Go.Proofs.YtkbaaonchdeneaaGreat
section
variable {α:Type}
theorem setB_len (l:List α):(setB l).length=bitsN l.length:=by simp [setB]
theorem setB_get (l:List α) (i:Nat) (h:i<bitsN l.length):(setB l)[i]? = some (bucketOf l i):=by simp [setB,h]
theorem bucketOf_len (l:List α) (i:Nat):(bucketOf l i).length=if l.length.testBit i then 2 ^ i else 0:=by
 unfold bucketOf
 split
 ·rename_i h
  rw [List.length_take,List.length_drop,rest_is,rest_yes _ _ h]
  omega
 ·rfl
theorem bucketOf_nil (l:List α) (i:Nat):bucketOf l i = []↔l.length.testBit i=false:=by
 rw [←List.length_eq_zero_iff,bucketOf_len]
 split
 ·rename_i h
  have:=Nat.two_pow_pos i
  simp [h]
 ·rename_i h
  simpa using h
theorem setB_tail (l:List α) (m:Nat) (h:m≤bitsN l.length):((setB l).take m).reverse.flatten=l.drop (l.length / 2 ^ m*2 ^ m):=by
 induction m with
 |zero=>simp
 |succ m ih=>
  have h1:=setB_get l m (by omega)
  obtain ⟨hlt,he⟩:=List.getElem?_eq_some_iff.1 h1
  rw [List.take_succ_eq_append_getElem hlt,he,List.reverse_append,List.reverse_singleton,List.singleton_append,List.flatten_cons,ih (by omega)]
  unfold bucketOf
  split
  ·rename_i hb
   rw [top_yes _ _ hb,←List.drop_drop]
   exact List.take_append_drop _ _
  ·rename_i hb
   rw [top_no _ _ (by simpa using hb)]
   rfl
theorem bits_next (n t:Nat) (h1:∀j,j<t→n.testBit j=true) (h2:n.testBit t=false) :
 n % 2 ^ (t+1)=2 ^ t - 1∧(n+1) / 2 ^ (t+1)=n / 2 ^ (t+1)∧(∀i,(n+1).testBit i=if i<t then false else if i=t then true else n.testBit i):=by
 have hp:=Nat.two_pow_pos t
 have hm:n % 2 ^ t=2 ^ t - 1:=by
  apply Nat.eq_of_testBit_eq
  intro i
  rw [Nat.testBit_mod_two_pow,Nat.testBit_two_pow_sub_one]
  by_cases hi:i<t
  ·simp [hi,h1 i hi]
  ·simp [hi]
 have hm1:n % 2 ^ (t+1)=2 ^ t - 1:=by rw [rest_no n t h2,hm]
 have hd:=Nat.div_add_mod n (2 ^ (t+1))
 have hpt:2 ^ t<2 ^ (t+1):=Nat.pow_lt_pow_right (by omega) (by omega)
 have hn1:n+1=2 ^ (t+1)*(n / 2 ^ (t+1))+2 ^ t:=by omega
 have hn0:n=2 ^ (t+1)*(n / 2 ^ (t+1))+(2 ^ t - 1):=by omega
 refine ⟨hm1,?_,fun i=>?_⟩
 ·rw [hn1]
  rw [Nat.mul_add_div (Nat.two_pow_pos _),Nat.div_eq_of_lt hpt]
  exact Nat.add_zero _
 ·generalize n / 2 ^ (t+1)=q at *
  have e1:(n+1).testBit i=(2 ^ (t+1)*q+2 ^ t).testBit i:=by rw [hn1]
  have e0:n.testBit i=(2 ^ (t+1)*q+(2 ^ t - 1)).testBit i:=by rw [←hn0]
  rw [e1,e0,Nat.testBit_two_pow_mul_add _ hpt,Nat.testBit_two_pow_mul_add _ (by omega)]
  by_cases hi:i<t+1
  ·simp only [hi,if_true,Nat.testBit_two_pow,Nat.testBit_two_pow_sub_one]
   by_cases hi':i<t
   ·simp [hi'];omega
   ·have:i=t:=by omega
    subst this;simp
  ·have h3:¬i<t:=by omega
   have h4:i≠t:=by omega
   simp [hi,h3,h4]
theorem firstE_bits (l:List α):(∀j,j<firstE (setB l)→l.length.testBit j=true)∧l.length.testBit (firstE (setB l))=false:=by
 have hle:=firstE_le (setB l)
 rw [setB_len] at hle
 constructor
 ·intro j hj
  have h1:=setB_get l j (by omega)
  have h2:=firstE_full (setB l) j _ hj h1
  rw [ne_eq,bucketOf_nil] at h2
  simpa using h2
 ·by_cases h:firstE (setB l)<bitsN l.length
  ·have h1:=setB_get l _ h
   have h2:=firstE_empty (setB l) _ h1
   rwa [bucketOf_nil] at h2
  ·have h3:firstE (setB l)=bitsN l.length:=by omega
   rw [h3]
   exact Nat.testBit_lt_two_pow (bitsN_lt _)
theorem gath_set (l:List α) (x:α):gath (setB l) x=l.drop (l.length / 2 ^ (firstE (setB l)+1)*2 ^ (firstE (setB l)+1))++[x]∧(gath (setB l) x).length=2 ^ firstE (setB l):=by
 obtain ⟨h1,h2⟩:=firstE_bits l
 obtain ⟨h3,h4,h5⟩:=bits_next _ _ h1 h2
 have hle:=firstE_le (setB l)
 rw [setB_len] at hle
 have hp:=Nat.two_pow_pos (firstE (setB l))
 have e:gath (setB l) x=l.drop (l.length / 2 ^ (firstE (setB l)+1)*2 ^ (firstE (setB l)+1))++[x]:=by
  unfold gath
  rw [setB_tail l _ hle,top_no _ _ h2]
 refine ⟨e,?_⟩
 rw [e,List.length_append,List.length_drop,rest_is,h3]
 simp only [List.length_singleton]
 omega
theorem add_set (l:List α) (x:α):addB (setB l) x=setB (l++[x]):=by
 obtain ⟨h1,h2⟩:=firstE_bits l
 obtain ⟨h3,h4,h5⟩:=bits_next _ _ h1 h2
 obtain ⟨hg,hgl⟩:=gath_set l x
 have hle:=firstE_le (setB l)
 rw [setB_len] at hle
 have hlen:(l++[x]).length=l.length+1:=by simp
 have hb1:=bitsN_lt l.length
 have hb2:=bitsN_lt (l.length+1)
 generalize ht:firstE (setB l)=t at *
 have hmax:bitsN (l.length+1)=max (bitsN l.length) (t+1):=by
  apply Nat.le_antisymm
  ·apply bitsN_le
   apply Nat.lt_of_not_le
   intro hge
   have hbig:∀i,max (bitsN l.length) (t+1)≤i→(l.length+1).testBit i=false:=by
    intro i hi
    rw [h5 i,if_neg (by omega),if_neg (by omega)]
    exact Nat.testBit_lt_two_pow (Nat.lt_of_lt_of_le hb1 (Nat.pow_le_pow_right (by omega) (by omega)))
   obtain ⟨i,hi,hbit⟩:=Nat.exists_ge_and_testBit_of_ge_two_pow hge
   rw [hbig i hi] at hbit
   cases hbit
  ·apply Nat.max_le.2
   constructor
   ·exact bitsN_le _ _ (by omega)
   ·apply Nat.le_of_not_lt
    intro hlt
    have:=h5 t
    rw [if_neg (by omega),if_pos rfl] at this
    have h6:(l.length+1)<2 ^ t:=Nat.lt_of_lt_of_le hb2 (Nat.pow_le_pow_right (by omega) (by omega))
    rw [Nat.testBit_lt_two_pow h6] at this
    cases this
 apply List.ext_getElem?
 intro i
 unfold addB
 rw [ht]
 by_cases hi:i<bitsN (l++[x]).length
 ·rw [setB_get _ _ hi]
  rw [hlen] at hi
  rcases Nat.lt_trichotomy i t with hit | hit | hit
  ·rw [List.getElem?_append_left (by simpa using hit)]
   have:bucketOf (l++[x]) i = []:=by
    rw [bucketOf_nil,hlen,h5 i,if_pos hit]
   rw [this]
   simp [hit]
  ·subst hit
   rw [List.getElem?_append_right (by simp)]
   simp only [List.length_replicate,Nat.sub_self,List.getElem?_cons_zero]
   congr 1
   have hbit:(l++[x]).length.testBit i=true:=by rw [hlen,h5 i,if_neg (by omega),if_pos rfl]
   unfold bucketOf
   rw [if_pos hbit,hlen,h4,List.drop_append_of_le_length (Nat.div_mul_le_self _ _),←hg,List.take_of_length_le (by omega)]
  ·rw [List.getElem?_append_right (by simp;omega)]
   simp only [List.length_replicate]
   obtain ⟨j,hj⟩:∃j,i - t=j+1:=⟨i - t - 1,by omega⟩
   rw [hj,List.getElem?_cons_succ,List.getElem?_drop,show t+1+j=i from by omega]
   rw [setB_get l i (by omega)]
   congr 1
   have hbit:(l++[x]).length.testBit i=l.length.testBit i:=by rw [hlen,h5 i,if_neg (by omega),if_neg (by omega)]
   have hdiv:(l.length+1) / 2 ^ (i+1)=l.length / 2 ^ (i+1):=by
    have e:(2:Nat) ^ (i+1)=2 ^ (t+1)*2 ^ (i - t):=by rw [←Nat.pow_add];congr 1;omega
    rw [e,←Nat.div_div_eq_div_mul,←Nat.div_div_eq_div_mul,h4]
   unfold bucketOf
   rw [hbit,hlen,hdiv]
   split
   ·rename_i hb
    rw [List.drop_append_of_le_length (Nat.div_mul_le_self _ _),List.take_append_of_le_length]
    rw [List.length_drop,rest_is,rest_yes _ _ hb]
    omega
   ·rfl
 ·have hr:(setB (l++[x]))[i]? = none:=List.getElem?_eq_none (by rw [setB_len];omega)
  rw [hr]
  apply List.getElem?_eq_none
  rw [hlen,hmax] at hi
  have h7:(List.replicate t []++gath (setB l) x::List.drop (t+1) (setB l)).length=t+((bitsN l.length - (t+1))+1):=by simp [setB_len]
  rw [h7]
  omega
theorem setB_nil:setB ([]:List α) = []:=by simp [setB,bitsN]
theorem setB_all (l:List α):(setB l).reverse.flatten=l:=by
 have:=setB_tail l (bitsN l.length) (Nat.le_refl _)
 rw [List.take_of_length_le (by rw [setB_len];exact Nat.le_refl _),Nat.div_eq_of_lt (bitsN_lt _)] at this
 simpa using this
theorem setB_flat (l:List α):(setB l).flatten.length=l.length:=by
 have h:=congrArg List.length (setB_all l)
 have h1:∀(L:List (List α)),L.reverse.flatten.length=L.flatten.length:=by
  intro L
  induction L with
  |nil=>rfl
  |cons a L ih=>simp [ih];omega
 rw [h1] at h
 exact h
end
end Go.Proofs.YtkbaaonchdeneaaGreat
namespace Go.Proofs.YtkbaaonchdeneaaGreat
section
variable {α:Type} (key:α→Nat)
variable {key} {l:List α}
end
end Go.Proofs.YtkbaaonchdeneaaGreat
namespace Go.Proofs.YtkbaaonchdeneaaGreat
structure Sp where
 lo:Int
 hi:Int
 id:Nat
def stabBM (lo hi x:Int):Bool:=decide (lo≤x)&&decide (x≤hi)
section
variable {α:Type} (key:α→Nat)
end
section
variable {α:Type} {key:α→Nat} {l:List α}
end
end Go.Proofs.YtkbaaonchdeneaaGreat
namespace Go.Proofs.YtkbaaonchdeneaaGreat
def z64 (x:Int):Prop:=-9223372036854775808≤x∧x≤9223372036854775807
open Go.RowKit
def HcC (w:World) (q:Nat) (l:Array Value) (t:TypeId):Prop:=w.heap[q]? = some (.cells l t (0,0))
theorem HcC.cell {w:World} {q:Nat} {l:Array Value} {t:TypeId} (h:HcC w q l t) (k:Nat):w.cell? ⟨q,k,none⟩=l[k]?:=by
 unfold HcC at h;simp only [World.cell?,h];rfl
theorem HcC.frozen {w:World} {q:Nat} {l:Array Value} {t:TypeId} (h:HcC w q l t) (k:Nat):w.frozen? ⟨q,k,none⟩=false:=by
 unfold HcC at h;simp [World.frozen?,h]
theorem HcC.lt {w:World} {q:Nat} {l:Array Value} {t:TypeId} (h:HcC w q l t):q<w.heap.size:=lt_of_block h
theorem HcC.upd {F:List Nat} {w w':World} {q:Nat} {l:Array Value} {t:TypeId} (h:HcC w q l t) (hu:Upd F w w') (hq:q∉F):HcC w' q l t:=by
 unfold HcC at h ⊢;rw [hu.block q (lt_of_block h) hq,h]
theorem HcC.upd0 {w w':World} {q:Nat} {l:Array Value} {t:TypeId} (h:HcC w q l t) (hu:Upd [] w w'):HcC w' q l t:=h.upd hu (by simp)
theorem HcC.set {w:World} {q:Nat} {l:Array Value} {t:TypeId} (h:HcC w q l t) (k:Nat) (u:Value):HcC (w.setCell ⟨q,k,none⟩ u) q (l.setIfInBounds k u) t:=heap_setCell_same w q k l t u h
theorem HcC.cells2 {w:World} {q:Nat} {a b:Value} {t:TypeId} (h:HcC w q #[a,b] t):w.cell? ⟨q,0,none⟩=some a∧w.cell? ⟨q,1,none⟩=some b:=⟨h.cell 0,h.cell 1⟩
theorem HcC.cells3 {w:World} {q:Nat} {a b c:Value} {t:TypeId} (h:HcC w q #[a,b,c] t):w.cell? ⟨q,0,none⟩=some a∧w.cell? ⟨q,1,none⟩=some b∧w.cell? ⟨q,2,none⟩=some c:=⟨h.cell 0,h.cell 1,h.cell 2⟩
theorem HcC.cells5 {w:World} {q:Nat} {a b c d e:Value} {t:TypeId} (h:HcC w q #[a,b,c,d,e] t):w.cell? ⟨q,0,none⟩=some a∧w.cell? ⟨q,1,none⟩=some b∧w.cell? ⟨q,2,none⟩=some c∧w.cell? ⟨q,3,none⟩=some d∧w.cell? ⟨q,4,none⟩=some e:=⟨h.cell 0,h.cell 1,h.cell 2,h.cell 3,h.cell 4⟩
theorem one_newC (w:World) (a:Array Value) (t:TypeId):∃W,W=w.alloc (.cells a t)∧Upd [] w W∧HcC W w.heap.size a t:=
 ⟨_,rfl,(Upd.refl _ _).alloc _,heap_alloc_new w _⟩
theorem two_newC (w:World) (a b:Array Value) (t u:TypeId):∃W,W=(w.alloc (.cells a t)).alloc (.cells b u)∧Upd [] w W∧HcC W w.heap.size a t∧HcC W (w.heap.size+1) b u:=by
 refine ⟨_,rfl,((Upd.refl _ _).alloc _).alloc _,(show HcC (w.alloc (.cells a t)) w.heap.size a t from heap_alloc_new w _).upd ((Upd.refl [] _).alloc _) (by simp),?_⟩
 have:=heap_alloc_new (w.alloc (.cells a t)) (.cells b u)
 unfold HcC
 simpa using this
end Go.Proofs.YtkbaaonchdeneaaGreat
namespace Go.Proofs.YtkbaaonchdeneaaGreat.Nm
structure NS where
 cs:List (Nat×Nat)
 al:List Bool
 pl:List Nat
 n:Nat
 wk:Nat
def place (S:NS) (x:Nat):Option Nat:=match S.cs.lookup x with
 |some k=>if S.al.getD k false then some (S.pl.getD k 0) else none
 |none=>none
def numV (o:Option Nat):Int:=match o with | some k=>(k:Int) | none=>-1
structure NInv (S:NS):Prop where
 ids:(S.cs.map (·.1)).Nodup
 nums:(S.cs.map (·.2)).Nodup
 lt:∀y∈S.cs,y.2<S.al.length
 pll:S.pl.length=S.al.length
 cnt:S.n=S.al.count true
 all:∀k:Nat,S.al[k]? = some true→∃y∈S.cs,y.2=k
theorem lookup_iff {cs:List (Nat×Nat)} (h:(cs.map (·.1)).Nodup) (x k:Nat):cs.lookup x=some k↔(x,k)∈cs:=by
 induction cs with
 |nil=>simp
 |cons a cs ih=>
  rcases a with ⟨y,m⟩
  rw [List.map_cons,List.nodup_cons] at h
  rw [List.lookup_cons]
  by_cases e:x=y
  ·subst e
   simp only [beq_self_eq_true,List.mem_cons,Prod.mk.injEq,true_and,Option.some.injEq]
   constructor
   ·intro e;exact .inl e.symm
   ·rintro (e | e)
    ·exact e.symm
    ·exact (h.1 (List.mem_map.2 ⟨_,e,rfl⟩)).elim
  ·have:(x==y)=false:=by simpa using e
   rw [this]
   simp only [List.mem_cons,Prod.mk.injEq,e,false_and,false_or]
   exact ih h.2
theorem lookup_none {cs:List (Nat×Nat)} (x:Nat):cs.lookup x=none↔∀y∈cs,y.1≠x:=by
 rw [List.lookup_eq_none_iff]
 constructor
 ·intro h y hy e;have:=h y hy;simp [e] at this
 ·intro h y hy;have:=h y hy;simp;exact fun e=>this e.symm
def BkOk (bs bk:List (List (Nat×Nat))):Prop:=bk.length=bs.length∧∀(i:Nat) (l m:List (Nat×Nat)),bk[i]? = some l→bs[i]? = some m→l.Perm m∧l.Pairwise fun a b=>a.1≤b.1
theorem BkOk.mem {bs bk:List (List (Nat×Nat))} (h:BkOk bs bk) (y:Nat×Nat):y∈bk.flatten↔y∈bs.flatten:=by
 simp only [List.mem_flatten]
 constructor
 ·rintro ⟨l,hl,hy⟩
  obtain ⟨i,hi⟩:=List.mem_iff_getElem?.1 hl
  have hlt:=(List.getElem?_eq_some_iff.1 hi).1
  have hm:bs[i]? = some (bs[i]'(by rw [←h.1];exact hlt)):=List.getElem?_eq_getElem _
  exact ⟨_,List.mem_of_getElem? hm,(h.2 i l _ hi hm).1.mem_iff.1 hy⟩
 ·rintro ⟨m,hm,hy⟩
  obtain ⟨i,hi⟩:=List.mem_iff_getElem?.1 hm
  have hlt:=(List.getElem?_eq_some_iff.1 hi).1
  have hl:bk[i]? = some (bk[i]'(by rw [h.1];exact hlt)):=List.getElem?_eq_getElem _
  exact ⟨_,List.mem_of_getElem? hl,(h.2 i _ m hl hi).1.mem_iff.2 hy⟩
theorem setB_mem (cs:List (Nat×Nat)) (y:Nat×Nat):y∈(setB cs).flatten↔y∈cs:=by
 conv=>rhs;rw [←setB_all cs]
 simp [List.mem_flatten]
theorem split_below {l:List (Nat×Nat)} (h:l.Pairwise fun a b=>a.1≤b.1) (x:Nat):l=l.filter (fun s=>decide (s.1<x))++l.filter (fun s=>!decide (s.1<x)):=by
 induction l with
 |nil=>rfl
 |cons a l ih=>
  rw [List.pairwise_cons] at h
  by_cases hx:a.1<x
  ·simp only [List.filter_cons,hx,decide_true,if_true,Bool.not_true,Bool.false_eq_true,if_false,List.cons_append]
   exact congrArg _ (ih h.2)
  ·have e1:l.filter (fun s=>decide (s.1<x)) = []:=List.filter_eq_nil_iff.2 fun s hs hc=>by have:=h.1 s hs;simp at hc;omega
   have e2:l.filter (fun s=>!decide (s.1<x))=l:=List.filter_eq_self.2 fun s hs=>by have:=h.1 s hs;simp;omega
   simp only [List.filter_cons,hx,decide_false,Bool.false_eq_true,if_false,Bool.not_false,if_true,e1,e2,List.nil_append]
theorem at_below {l:List (Nat×Nat)} (h:l.Pairwise fun a b=>a.1≤b.1) {x:Nat} (hx:∃y∈l,y.1=x):∃y,l[(l.filter fun s=>decide (s.1<x)).length]? = some y∧y.1=x:=by
 obtain ⟨y,hy,e⟩:=hx
 have hs:=split_below h x
 obtain ⟨D,hD⟩:∃D,l.filter (fun s=>!decide (s.1<x))=D:=⟨_,rfl⟩
 have hyD:y∈D:=by rw [←hD,List.mem_filter];exact ⟨hy,by simp;omega⟩
 have hDg:∀z∈D,x≤z.1:=fun z hz=>by rw [←hD,List.mem_filter] at hz;have:=hz.2;simp at this;exact this
 rw [hD] at hs
 have hp:=h
 rw [hs,List.pairwise_append] at hp
 cases D with
 |nil=>simp at hyD
 |cons d D=>
  refine ⟨d,?_,?_⟩
  ·conv=>lhs;rw [hs]
   have:l.filter (fun s=>decide (s.1<x))++d::D=l:=hs.symm
   rw [this]
   conv=>lhs;lhs;rw [hs]
   rw [List.getElem?_append_right (Nat.le_refl _),Nat.sub_self]
   rfl
  ·have h1:=hDg d (by simp)
   rcases List.mem_cons.1 hyD with e2 | hyD
   ·rw [←e2,e]
   ·have:=(List.pairwise_cons.1 hp.2.1).1 y hyD
    omega
end Go.Proofs.YtkbaaonchdeneaaGreat.Nm
