/- Buckets, plainly: what Set makes; how it goes bucket by bucket. Buckets, plainly: what is added to things that were set stands as if all had been set. Run equations of single operations, in a form that a walk can take: slices cut, shifts, bits. No program. Lists of things in the order of their names; plainly. No program. Chapter 26 plainly: what a model has, what each operation does and tells. No program. What chapter 26's laws lean on, plainly: which items lie in 64 bits, which points lie over others, which is the lowest. No program. A list of lists in memory that a call has made. The tree over some leaves, as the list of its nodes: left, right, the node. No program. A cover, plainly: how often the nodes are covered, what is known of them, which gaps that is. No program. A cover, plainly: how many nodes are entered, at most. No program. A block of cells, as it stands. No program. A directory of names, plainly. -/
import Derived.IntWalk
import Derived.WalkKit
import Derived.Test.YtkbaaonchdeneaaGreatPkSpansTellP1
import Derived.Test.YtkbaaonchdeneaaGreatPk4
namespace Go.Proofs.YtkbaaonchdeneaaGreat
def bitsN (n:Nat):Nat:=if n=0 then 0 else n.log2+1
theorem bitsN_lt (n:Nat):n<2 ^ bitsN n:=by
 unfold bitsN
 split
 ·omega
 ·exact Nat.lt_log2_self
theorem bitsN_le (n k:Nat) (h:n<2 ^ k):bitsN n≤k:=by
 unfold bitsN
 split
 ·omega
 ·rename_i hn
  have:=(Nat.log2_lt hn).2 h
  omega
theorem bitsN_eq (n k:Nat) (h:n<2 ^ k) (h1:k=0∨2 ^ (k - 1)≤n):bitsN n=k:=by
 refine Nat.le_antisymm (bitsN_le n k h) ?_
 rcases h1 with rfl | h1
 ·omega
 ·refine Nat.le_of_not_lt fun hlt=>?_
  have h2:=bitsN_lt n
  have h3:2 ^ bitsN n≤2 ^ (k - 1):=Nat.pow_le_pow_right (by omega) (by omega)
  omega
section
variable {α:Type}
def bucketOf (l:List α) (i:Nat):List α:=if l.length.testBit i then (l.drop (l.length / 2 ^ (i+1)*2 ^ (i+1))).take (2 ^ i) else []
def setFrom (l:List α) (m:Nat):List (List α):=(List.range (bitsN l.length)).map fun i=>if i<m then [] else bucketOf l i
def setB (l:List α):List (List α):=(List.range (bitsN l.length)).map (bucketOf l)
theorem setFrom_zero (l:List α):setFrom l 0=setB l:=by simp [setFrom,setB]
theorem setFrom_top (l:List α):setFrom l (bitsN l.length)=List.replicate (bitsN l.length) []:=by
 unfold setFrom
 apply List.ext_getElem?
 intro i
 by_cases h:i<bitsN l.length
 ·simp [h]
 ·simp [h]
theorem setFrom_step (l:List α) (m:Nat):(setFrom l (m+1)).set m (bucketOf l m)=setFrom l m:=by
 unfold setFrom
 apply List.ext_getElem?
 intro i
 rw [List.getElem?_set]
 by_cases h:i<bitsN l.length
 ·by_cases hm:m=i
  ·subst hm;simp [h]
  ·have e:(i<m+1)↔i<m:=by omega
   simp [hm,h,e]
 ·simp [h];intro hm;subst hm;omega
theorem setFrom_same (l:List α) (m:Nat) (h:l.length.testBit m=false):setFrom l (m+1)=setFrom l m:=by
 rw [←setFrom_step l m]
 symm
 apply List.ext_getElem?
 intro i
 rw [List.getElem?_set]
 split
 ·rename_i hm
  subst hm
  split
  ·rename_i h'
   simp [setFrom,bucketOf,h] at h' ⊢
   simp [h']
  ·rename_i h'
   rw [List.getElem?_eq_none (by omega)]
 ·rfl
theorem bit_div (n m:Nat):n / 2 ^ m=2*(n / 2 ^ (m+1))+(n.testBit m).toNat:=by
 have h1:n / 2 ^ (m+1)=n / 2 ^ m / 2:=by rw [Nat.pow_succ,Nat.div_div_eq_div_mul]
 have h2:(n.testBit m).toNat=n / 2 ^ m % 2:=by
  rw [Nat.testBit_eq_decide_div_mod_eq]
  rcases Nat.mod_two_eq_zero_or_one (n / 2 ^ m) with h | h<;>simp [h]
 rw [h1,h2]
 omega
theorem top_yes (n m:Nat) (h:n.testBit m=true):n / 2 ^ m*2 ^ m=n / 2 ^ (m+1)*2 ^ (m+1)+2 ^ m:=by
 rw [bit_div n m,h,Nat.pow_succ]
 simp only [Bool.toNat_true,Nat.add_mul,Nat.one_mul]
 rw [Nat.mul_comm 2,Nat.mul_assoc,Nat.mul_comm 2]
theorem top_no (n m:Nat) (h:n.testBit m=false):n / 2 ^ m*2 ^ m=n / 2 ^ (m+1)*2 ^ (m+1):=by
 rw [bit_div n m,h,Nat.pow_succ]
 simp only [Bool.toNat_false,Nat.add_zero]
 rw [Nat.mul_comm 2,Nat.mul_assoc,Nat.mul_comm 2]
theorem rest_is (n m:Nat):n - n / 2 ^ m*2 ^ m=n % 2 ^ m:=by
 have:=Nat.div_add_mod n (2 ^ m)
 rw [Nat.mul_comm] at this
 omega
theorem rest_yes (n m:Nat) (h:n.testBit m=true):n % 2 ^ (m+1)=2 ^ m+n % 2 ^ m:=by
 have h1:=rest_is n m
 have h2:=rest_is n (m+1)
 have h3:=top_yes n m h
 have h4:n / 2 ^ m*2 ^ m≤n:=Nat.div_mul_le_self n (2 ^ m)
 omega
theorem rest_no (n m:Nat) (h:n.testBit m=false):n % 2 ^ (m+1)=n % 2 ^ m:=by
 have h1:=rest_is n m
 have h2:=rest_is n (m+1)
 have h3:=top_no n m h
 omega
end
end Go.Proofs.YtkbaaonchdeneaaGreat
namespace Go.Proofs.YtkbaaonchdeneaaGreat
section
variable {α:Type}
theorem setB_len (l:List α):(setB l).length=bitsN l.length:=by simp [setB]
theorem setB_get (l:List α) (i:Nat) (h:i<bitsN l.length):(setB l)[i]? = some (bucketOf l i):=by simp [setB,h]
theorem bucketOf_len (l:List α) (i:Nat):(bucketOf l i).length=if l.length.testBit i then 2 ^ i else 0:=by
 unfold bucketOf
 split
 ·rename_i h
  rw [List.length_take,List.length_drop,rest_is,rest_yes _ _ h]
  omega
 ·rfl
theorem bucketOf_nil (l:List α) (i:Nat):bucketOf l i = []↔l.length.testBit i=false:=by
 rw [←List.length_eq_zero_iff,bucketOf_len]
 split
 ·rename_i h
  have:=Nat.two_pow_pos i
  simp [h]
 ·rename_i h
  simpa using h
theorem setB_tail (l:List α) (m:Nat) (h:m≤bitsN l.length):((setB l).take m).reverse.flatten=l.drop (l.length / 2 ^ m*2 ^ m):=by
 induction m with
 |zero=>simp
 |succ m ih=>
  have h1:=setB_get l m (by omega)
  obtain ⟨hlt,he⟩:=List.getElem?_eq_some_iff.1 h1
  rw [List.take_succ_eq_append_getElem hlt,he,List.reverse_append,List.reverse_singleton,List.singleton_append,List.flatten_cons,ih (by omega)]
  unfold bucketOf
  split
  ·rename_i hb
   rw [top_yes _ _ hb,←List.drop_drop]
   exact List.take_append_drop _ _
  ·rename_i hb
   rw [top_no _ _ (by simpa using hb)]
   rfl
theorem bits_next (n t:Nat) (h1:∀j,j<t→n.testBit j=true) (h2:n.testBit t=false) :
 n % 2 ^ (t+1)=2 ^ t - 1∧(n+1) / 2 ^ (t+1)=n / 2 ^ (t+1)∧(∀i,(n+1).testBit i=if i<t then false else if i=t then true else n.testBit i):=by
 have hp:=Nat.two_pow_pos t
 have hm:n % 2 ^ t=2 ^ t - 1:=by
  apply Nat.eq_of_testBit_eq
  intro i
  rw [Nat.testBit_mod_two_pow,Nat.testBit_two_pow_sub_one]
  by_cases hi:i<t
  ·simp [hi,h1 i hi]
  ·simp [hi]
 have hm1:n % 2 ^ (t+1)=2 ^ t - 1:=by rw [rest_no n t h2,hm]
 have hd:=Nat.div_add_mod n (2 ^ (t+1))
 have hpt:2 ^ t<2 ^ (t+1):=Nat.pow_lt_pow_right (by omega) (by omega)
 have hn1:n+1=2 ^ (t+1)*(n / 2 ^ (t+1))+2 ^ t:=by omega
 have hn0:n=2 ^ (t+1)*(n / 2 ^ (t+1))+(2 ^ t - 1):=by omega
 refine ⟨hm1,?_,fun i=>?_⟩
 ·rw [hn1]
  rw [Nat.mul_add_div (Nat.two_pow_pos _),Nat.div_eq_of_lt hpt]
  exact Nat.add_zero _
 ·generalize n / 2 ^ (t+1)=q at *
  have e1:(n+1).testBit i=(2 ^ (t+1)*q+2 ^ t).testBit i:=by rw [hn1]
  have e0:n.testBit i=(2 ^ (t+1)*q+(2 ^ t - 1)).testBit i:=by rw [←hn0]
  rw [e1,e0,Nat.testBit_two_pow_mul_add _ hpt,Nat.testBit_two_pow_mul_add _ (by omega)]
  by_cases hi:i<t+1
  ·simp only [hi,if_true,Nat.testBit_two_pow,Nat.testBit_two_pow_sub_one]
   by_cases hi':i<t
   ·simp [hi'];omega
   ·have:i=t:=by omega
    subst this;simp
  ·have h3:¬i<t:=by omega
   have h4:i≠t:=by omega
   simp [hi,h3,h4]
theorem firstE_bits (l:List α):(∀j,j<firstE (setB l)→l.length.testBit j=true)∧l.length.testBit (firstE (setB l))=false:=by
 have hle:=firstE_le (setB l)
 rw [setB_len] at hle
 constructor
 ·intro j hj
  have h1:=setB_get l j (by omega)
  have h2:=firstE_full (setB l) j _ hj h1
  rw [ne_eq,bucketOf_nil] at h2
  simpa using h2
 ·by_cases h:firstE (setB l)<bitsN l.length
  ·have h1:=setB_get l _ h
   have h2:=firstE_empty (setB l) _ h1
   rwa [bucketOf_nil] at h2
  ·have h3:firstE (setB l)=bitsN l.length:=by omega
   rw [h3]
   exact Nat.testBit_lt_two_pow (bitsN_lt _)
theorem gath_set (l:List α) (x:α):gath (setB l) x=l.drop (l.length / 2 ^ (firstE (setB l)+1)*2 ^ (firstE (setB l)+1))++[x]∧(gath (setB l) x).length=2 ^ firstE (setB l):=by
 obtain ⟨h1,h2⟩:=firstE_bits l
 obtain ⟨h3,h4,h5⟩:=bits_next _ _ h1 h2
 have hle:=firstE_le (setB l)
 rw [setB_len] at hle
 have hp:=Nat.two_pow_pos (firstE (setB l))
 have e:gath (setB l) x=l.drop (l.length / 2 ^ (firstE (setB l)+1)*2 ^ (firstE (setB l)+1))++[x]:=by
  unfold gath
  rw [setB_tail l _ hle,top_no _ _ h2]
 refine ⟨e,?_⟩
 rw [e,List.length_append,List.length_drop,rest_is,h3]
 simp only [List.length_singleton]
 omega
theorem add_set (l:List α) (x:α):addB (setB l) x=setB (l++[x]):=by
 obtain ⟨h1,h2⟩:=firstE_bits l
 obtain ⟨h3,h4,h5⟩:=bits_next _ _ h1 h2
 obtain ⟨hg,hgl⟩:=gath_set l x
 have hle:=firstE_le (setB l)
 rw [setB_len] at hle
 have hlen:(l++[x]).length=l.length+1:=by simp
 have hb1:=bitsN_lt l.length
 have hb2:=bitsN_lt (l.length+1)
 generalize ht:firstE (setB l)=t at *
 have hmax:bitsN (l.length+1)=max (bitsN l.length) (t+1):=by
  apply Nat.le_antisymm
  ·apply bitsN_le
   apply Nat.lt_of_not_le
   intro hge
   have hbig:∀i,max (bitsN l.length) (t+1)≤i→(l.length+1).testBit i=false:=by
    intro i hi
    rw [h5 i,if_neg (by omega),if_neg (by omega)]
    exact Nat.testBit_lt_two_pow (Nat.lt_of_lt_of_le hb1 (Nat.pow_le_pow_right (by omega) (by omega)))
   obtain ⟨i,hi,hbit⟩:=Nat.exists_ge_and_testBit_of_ge_two_pow hge
   rw [hbig i hi] at hbit
   cases hbit
  ·apply Nat.max_le.2
   constructor
   ·exact bitsN_le _ _ (by omega)
   ·apply Nat.le_of_not_lt
    intro hlt
    have:=h5 t
    rw [if_neg (by omega),if_pos rfl] at this
    have h6:(l.length+1)<2 ^ t:=Nat.lt_of_lt_of_le hb2 (Nat.pow_le_pow_right (by omega) (by omega))
    rw [Nat.testBit_lt_two_pow h6] at this
    cases this
 apply List.ext_getElem?
 intro i
 unfold addB
 rw [ht]
 by_cases hi:i<bitsN (l++[x]).length
 ·rw [setB_get _ _ hi]
  rw [hlen] at hi
  rcases Nat.lt_trichotomy i t with hit | hit | hit
  ·rw [List.getElem?_append_left (by simpa using hit)]
   have:bucketOf (l++[x]) i = []:=by
    rw [bucketOf_nil,hlen,h5 i,if_pos hit]
   rw [this]
   simp [hit]
  ·subst hit
   rw [List.getElem?_append_right (by simp)]
   simp only [List.length_replicate,Nat.sub_self,List.getElem?_cons_zero]
   congr 1
   have hbit:(l++[x]).length.testBit i=true:=by rw [hlen,h5 i,if_neg (by omega),if_pos rfl]
   unfold bucketOf
   rw [if_pos hbit,hlen,h4,List.drop_append_of_le_length (Nat.div_mul_le_self _ _),←hg,List.take_of_length_le (by omega)]
  ·rw [List.getElem?_append_right (by simp;omega)]
   simp only [List.length_replicate]
   obtain ⟨j,hj⟩:∃j,i - t=j+1:=⟨i - t - 1,by omega⟩
   rw [hj,List.getElem?_cons_succ,List.getElem?_drop,show t+1+j=i from by omega]
   rw [setB_get l i (by omega)]
   congr 1
   have hbit:(l++[x]).length.testBit i=l.length.testBit i:=by rw [hlen,h5 i,if_neg (by omega),if_neg (by omega)]
   have hdiv:(l.length+1) / 2 ^ (i+1)=l.length / 2 ^ (i+1):=by
    have e:(2:Nat) ^ (i+1)=2 ^ (t+1)*2 ^ (i - t):=by rw [←Nat.pow_add];congr 1;omega
    rw [e,←Nat.div_div_eq_div_mul,←Nat.div_div_eq_div_mul,h4]
   unfold bucketOf
   rw [hbit,hlen,hdiv]
   split
   ·rename_i hb
    rw [List.drop_append_of_le_length (Nat.div_mul_le_self _ _),List.take_append_of_le_length]
    rw [List.length_drop,rest_is,rest_yes _ _ hb]
    omega
   ·rfl
 ·have hr:(setB (l++[x]))[i]? = none:=List.getElem?_eq_none (by rw [setB_len];omega)
  rw [hr]
  apply List.getElem?_eq_none
  rw [hlen,hmax] at hi
  have h7:(List.replicate t []++gath (setB l) x::List.drop (t+1) (setB l)).length=t+((bitsN l.length - (t+1))+1):=by simp [setB_len]
  rw [h7]
  omega
theorem setB_nil:setB ([]:List α) = []:=by simp [setB,bitsN]
theorem setB_all (l:List α):(setB l).reverse.flatten=l:=by
 have:=setB_tail l (bitsN l.length) (Nat.le_refl _)
 rw [List.take_of_length_le (by rw [setB_len];exact Nat.le_refl _),Nat.div_eq_of_lt (bitsN_lt _)] at this
 simpa using this
theorem setB_flat (l:List α):(setB l).flatten.length=l.length:=by
 have h:=congrArg List.length (setB_all l)
 have h1:∀(L:List (List α)),L.reverse.flatten.length=L.flatten.length:=by
  intro L
  induction L with
  |nil=>rfl
  |cons a L ih=>simp [ih];omega
 rw [h1] at h
 exact h
end
open Go.RowKit
section
variable {P:Program}
theorem wrap_nat (p:Nat) (h:p<9223372036854775808):IntKind.i64.wrap (p:Int)=(p:Int):=IntWalk.i64_in _ (by omega)
theorem and_wrap (a b:Nat) (ha:a<2 ^ 62) (hb:b<2 ^ 62):IntKind.i64.wrap ((BitVec.ofInt IntKind.i64.bits (a:Int) &&& BitVec.ofInt IntKind.i64.bits (b:Int)).toNat:Int)=((a &&& b:Nat):Int):=by
 have h1:(BitVec.ofInt IntKind.i64.bits (a:Int) &&& BitVec.ofInt IntKind.i64.bits (b:Int)).toNat=a &&& b:=by
  rw [BitVec.toNat_and]
  simp only [BitVec.ofInt_natCast,BitVec.toNat_ofNat]
  rw [Nat.mod_eq_of_lt (by simp only [IntKind.bits];omega),Nat.mod_eq_of_lt (by simp only [IntKind.bits];omega)]
 rw [h1]
 have h2:a &&& b≤a:=Nat.and_le_left
 exact wrap_nat _ (by omega)
theorem and_two_pow (a m:Nat):(a &&& 2 ^ m)=if a.testBit m then 2 ^ m else 0:=by
 apply Nat.eq_of_testBit_eq
 intro i
 rw [Nat.testBit_and,Nat.testBit_two_pow]
 by_cases h:m=i
 ·subst h
  cases hb:a.testBit m<;>simp
 ·cases hb:a.testBit m<;>simp [h]
theorem shl_spelt (m p:Nat) (hm:m<62) (hp:2 ^ m=p):wrap64 ((2:Int) ^ m)=(p:Int):=by
 have h1:(2:Int) ^ m=(p:Int):=by rw [←hp];simp
 have h2:(2:Nat) ^ m<2 ^ 62:=Nat.pow_lt_pow_right (by omega) hm
 rw [h1]
 exact IntWalk.wrap64_in _ ⟨by omega,by omega⟩
theorem and_spelt (a b c:Nat) (ha:a<2 ^ 62) (hb:b<2 ^ 62) (hc:a &&& b=c):bits .and .i64 (a:Int) (b:Int)=(c:Int):=by
 rw [←hc]
 exact and_wrap a b ha hb
variable {w:World} {size:Nat} {v:Value} {n:Nat} {xs:List Value}
theorem elem_of {P:Program} {t e:TypeId} (ht:P.underlying t=some (.slice e)):P.underlying t=some (.slice (P.elem t)):=by
 have:P.elem t=e:=by simp [Program.elem,ht]
 rw [this];exact ht
theorem cut_to {t e:TypeId} {i:TypeInfo} (ht:P.underlying t=some (.slice e)) (hi:P.info? e=some i) (hsize:i.size=size) (h:Sees w size v n xs) (k:Nat) (hk:k≤n) :
 ∃A C,(∀w',(Instr.slice t v none (some (.int .i64 (k:Int))) none).run P w'=.ok (.slice A k C) w')∧
  (∀w',Sees w' size v n xs→Sees w' size (.slice A k C) k (xs.take (k*size)))∧blk (.slice A k C)=blk v:=by
 subst hsize
 have hel:P.elem t=e:=by simp [Program.elem,ht]
 rcases h.2 with ⟨rfl,rfl⟩ | ⟨b,o,s,cap,rfl,h3,h4,h5,h6⟩
 ·have hk0:k=0:=by omega
  subst hk0
  refine ⟨none,0,fun w'=>?_,fun w' hs=>?_,rfl⟩
  ·rw [run_slice_h w' t none 0 0 (elem_of ht) .i64 _ (by omega) (by omega)]
   simp [hel,sizeOf,typeInfo,hi,sliced]
  ·exact ⟨by simp,.inl ⟨rfl,rfl⟩⟩
 ·refine ⟨some ⟨b,o,s⟩,cap,fun w'=>?_,fun w' hs=>?_,rfl⟩
  ·rw [run_slice_h w' t _ n cap (elem_of ht) .i64 _ (by omega) (by omega)]
   simp [hel,sizeOf,typeInfo,hi,sliced,Addr.add]
  ·refine ⟨by rw [List.length_take,hs.1];exact Nat.min_eq_left (Nat.mul_le_mul_right _ hk),.inr ⟨b,o,s,cap,rfl,h3,by omega,h5,fun j u hu=>?_⟩⟩
   rw [List.getElem?_take] at hu
   split at hu
   ·rcases hs.2 with ⟨hc,_⟩ | ⟨b',o',s',cap',hc,_,_,_,h5'⟩
    ·cases hc
    ·cases hc;exact h5' j u hu
   ·cases hu
theorem cut_from {t e:TypeId} {i:TypeInfo} (ht:P.underlying t=some (.slice e)) (hi:P.info? e=some i) (hsize:i.size=size) (h:Sees w size v n xs) (k:Nat) (hk:k≤n) :
 ∃A C,(∀w',(Instr.slice t v (some (.int .i64 (k:Int))) none none).run P w'=.ok (.slice A (n - k) C) w')∧
  (∀w',Sees w' size v n xs→Sees w' size (.slice A (n - k) C) (n - k) (xs.drop (k*size)))∧blk (.slice A (n - k) C)=blk v:=by
 subst hsize
 have hel:P.elem t=e:=by simp [Program.elem,ht]
 rcases h.2 with ⟨rfl,rfl⟩ | ⟨b,o,s,cap,rfl,h3,h4,h5,h6⟩
 ·have hk0:k=0:=by omega
  subst hk0
  refine ⟨none,0,fun w'=>?_,fun w' hs=>?_,rfl⟩
  ·rw [run_slice_l w' t none 0 0 (elem_of ht) .i64 _ (by omega) (by omega)]
   simp [hel,sizeOf,typeInfo,hi,sliced]
  ·exact ⟨by simpa using hs.1,.inl ⟨rfl,rfl⟩⟩
 ·refine ⟨if cap=k then some ⟨b,o,s⟩ else some ⟨b,o+k*i.size,none⟩,cap - k,fun w'=>?_,fun w' hs=>?_,?_⟩
  ·rw [run_slice_l w' t _ n cap (elem_of ht) .i64 _ (by omega) (by omega)]
   by_cases hck:cap=k
   ·simp [hel,sizeOf,typeInfo,hi,sliced,hck]
   ·have hs0:=h3 (by omega)
    subst hs0
    simp [hel,sizeOf,typeInfo,hi,sliced,addr_add,hck]
  ·refine ⟨by rw [List.length_drop,hs.1,Nat.sub_mul],.inr ⟨b,if cap=k then o else o+k*i.size,if cap=k then s else none,cap - k,?_,?_,by omega,by omega,fun j u hu=>?_⟩⟩
   ·split<;>rfl
   ·intro hp;rw [if_neg (by omega)]
   ·rcases hs.2 with ⟨hc,_⟩ | ⟨b',o',s',cap',hc,_,_,_,h5'⟩
    ·cases hc
    ·cases hc
     rw [List.getElem?_drop] at hu
     have hlt:k*i.size+j<n*i.size:=by
      rcases Nat.lt_or_ge (k*i.size+j) (n*i.size) with h' | h'
      ·exact h'
      ·rw [List.getElem?_eq_none (by rw [hs.1];exact h')] at hu;cases hu
     have hkc:cap≠k:=by
      intro e;subst e
      have:n=cap:=by omega
      subst this;omega
     rw [if_neg hkc]
     have:=h5' _ u hu
     rwa [show o+(k*i.size+j)=o+k*i.size+j from by omega] at this
  ·split<;>rfl
theorem cut_mid {t e:TypeId} {i:TypeInfo} (ht:P.underlying t=some (.slice e)) (hi:P.info? e=some i) (hsize:i.size=size) (h:Sees w size v n xs) (lo hi':Nat) (hlo:lo≤hi') (hhi:hi'≤n) :
 ∃A C,(∀w',(Instr.slice t v (some (.int .i64 (lo:Int))) (some (.int .i64 (hi':Int))) none).run P w'=.ok (.slice A (hi' - lo) C) w')∧
  (∀w',Sees w' size v n xs→Sees w' size (.slice A (hi' - lo) C) (hi' - lo) ((xs.drop (lo*size)).take ((hi' - lo)*size)))∧blk (.slice A (hi' - lo) C)=blk v:=by
 subst hsize
 have hel:P.elem t=e:=by simp [Program.elem,ht]
 rcases h.2 with ⟨rfl,rfl⟩ | ⟨b,o,s,cap,rfl,h3,h4,h5,h6⟩
 ·have hk0:hi'=0:=by omega
  have hl0:lo=0:=by omega
  subst hk0 hl0
  refine ⟨none,0,fun w'=>?_,fun w' hs=>?_,rfl⟩
  ·rw [run_slice_lh w' t none 0 0 (elem_of ht) .i64 .i64 _ _ (by omega) (by omega) (by omega)]
   simp [hel,sizeOf,typeInfo,hi,sliced]
  ·exact ⟨by simp,.inl ⟨rfl,rfl⟩⟩
 ·refine ⟨if cap=lo then some ⟨b,o,s⟩ else some ⟨b,o+lo*i.size,none⟩,cap - lo,fun w'=>?_,fun w' hs=>?_,?_⟩
  ·rw [run_slice_lh w' t _ n cap (elem_of ht) .i64 .i64 _ _ (by omega) (by omega) (by omega)]
   by_cases hck:cap=lo
   ·simp [hel,sizeOf,typeInfo,hi,sliced,hck]
   ·have hs0:=h3 (by omega)
    subst hs0
    simp [hel,sizeOf,typeInfo,hi,sliced,addr_add,hck]
  ·refine ⟨?_,.inr ⟨b,if cap=lo then o else o+lo*i.size,if cap=lo then s else none,cap - lo,?_,?_,by omega,by omega,fun j u hu=>?_⟩⟩
   ·rw [List.length_take,List.length_drop,hs.1,←Nat.sub_mul]
    exact Nat.min_eq_left (Nat.mul_le_mul_right _ (by omega))
   ·split<;>rfl
   ·intro hp;rw [if_neg (by omega)]
   ·rcases hs.2 with ⟨hc,_⟩ | ⟨b',o',s',cap',hc,_,_,_,h5'⟩
    ·cases hc
    ·cases hc
     rw [List.getElem?_take] at hu
     split at hu
     ·rename_i hj
      rw [List.getElem?_drop] at hu
      have hlt:lo*i.size+j<hi'*i.size:=by
       have:=Nat.sub_mul hi' lo i.size
       have h6:lo*i.size≤hi'*i.size:=Nat.mul_le_mul_right _ hlo
       omega
      have hkc:cap≠lo:=by
       intro e;subst e
       have:hi'=cap:=by omega
       subst this;omega
      rw [if_neg hkc]
      have:=h5' _ u hu
      rwa [show o+(lo*i.size+j)=o+lo*i.size+j from by omega] at this
     ·cases hu
  ·split<;>rfl
end
end Go.Proofs.YtkbaaonchdeneaaGreat
namespace Go.Proofs.YtkbaaonchdeneaaGreat
section
variable {α:Type} (key:α→Nat)
variable {key} {l:List α}
end
end Go.Proofs.YtkbaaonchdeneaaGreat
namespace Go.Proofs.YtkbaaonchdeneaaGreat
structure Sp where
 lo:Int
 hi:Int
 id:Nat
def stabBM (lo hi x:Int):Bool:=decide (lo≤x)&&decide (x≤hi)
section
variable {α:Type} (key:α→Nat)
end
section
variable {α:Type} {key:α→Nat} {l:List α}
end
end Go.Proofs.YtkbaaonchdeneaaGreat
namespace Go.Proofs.YtkbaaonchdeneaaGreat
def z64 (x:Int):Prop:=-9223372036854775808≤x∧x≤9223372036854775807
open Go.RowKit
section
variable {α:Type}
structure RowsAt (K:Kind α) (w:World) (v:Value) (vs:List Value) (ll:List (List α)):Prop where
 list:w.ownsRow 0 K.sT 1 v vs.length vs
 len:vs.length=ll.length
 rows:∀(i:Nat) (u:Value) (l:List α),vs[i]? = some u→ll[i]? = some l→K.row w 0 u l
 away:∀(i:Nat) (u:Value) (k:Nat),vs[i]? = some u→k∈blk u→k∉blk v
 apart:∀(i j:Nat) (u t:Value) (k:Nat),vs[i]? = some u→vs[j]? = some t→k∈blk u→k∈blk t→i=j
def rfoot (v:Value) (vs:List Value):List Nat:=blk v++vs.flatMap blk
theorem mem_rfoot {v:Value} {vs:List Value} {k:Nat}:k∈rfoot v vs↔k∈blk v∨∃(i:Nat) (u:Value),vs[i]? = some u∧k∈blk u:=by
 simp only [rfoot,List.mem_append,List.mem_flatMap]
 constructor
 ·rintro (h | ⟨v,hv,hk⟩)
  ·exact .inl h
  ·obtain ⟨i,hi⟩:=List.mem_iff_getElem?.1 hv
   exact .inr ⟨i,v,hi,hk⟩
 ·rintro (h | ⟨i,v,hv,hk⟩)
  ·exact .inl h
  ·exact .inr ⟨v,List.mem_of_getElem? hv,hk⟩
theorem get_lt {β:Type} {l:List β} {i:Nat} {x:β} (h:l[i]? = some x):i<l.length:=by
 rcases Nat.lt_or_ge i l.length with h' | h'
 ·exact h'
 ·rw [List.getElem?_eq_none h'] at h;cases h
theorem RowsAt.lt {K:Kind α} {w:World} {v:Value} {vs:List Value} {ll:List (List α)} (h:RowsAt K w v vs ll):∀k∈rfoot v vs,k<w.heap.size:=by
 intro k hk
 rw [mem_rfoot] at hk
 rcases hk with hk | ⟨i,u,hu,hk⟩
 ·exact own_lt h.list k hk
 ·have hl:=get_lt hu
  exact own_lt (h.rows i u (ll[i]'(by rw [←h.len];exact hl)) hu (by simp)) k hk
theorem RowsAt.upd {K:Kind α} {w w':World} {v:Value} {vs:List Value} {ll:List (List α)} (h:RowsAt K w v vs ll) {F:List Nat} (hu:Upd F w w') (hd:∀k∈rfoot v vs,k∉F):RowsAt K w' v vs ll where
 list:=own_upd h.list hu fun k hk=>hd k (mem_rfoot.2 (.inl hk))
 len:=h.len
 rows:=fun i u l hv hl=>own_upd (h.rows i u l hv hl) hu fun k hk=>hd k (mem_rfoot.2 (.inr ⟨i,u,hv,hk⟩))
 away:=h.away
 apart:=h.apart
theorem RowsAt.nil {K:Kind α} {w:World}:RowsAt K w (.slice none 0 0) [] []:=⟨World.ownsRow_nil _ _ _ _,rfl,by simp,by simp,by simp⟩
theorem RowsAt.at {K:Kind α} {w:World} {A:Option Addr} {N C:Nat} {vs:List Value} {ll:List (List α)} (h0:RowsAt K w (.slice A N C) vs ll) {k:Nat} (hk:k<ll.length) :
 ∃(g:Nat) (Ak:Option Addr) (Ck:Nat),A=some ⟨g,0,none⟩∧vs[k]? = some (.slice Ak ll[k].length Ck)∧
  w.cell? ⟨g,k,none⟩=some (.slice Ak ll[k].length Ck)∧w.frozen? ⟨g,k,none⟩=false∧K.row w 0 (.slice Ak ll[k].length Ck) ll[k]:=by
 have hk':k<vs.length:=by rw [h0.len];exact hk
 obtain ⟨g,cap,hA,_,_⟩:=h0.list.form (by omega)
 cases hA
 have hv:vs[k]? = some vs[k]:=by simp
 obtain ⟨Ak,Ck,he⟩:=own_form (h0.rows k _ _ hv (by simp [hk];rfl))
 refine ⟨g,Ak,Ck,rfl,by rw [hv,he],?_,World.ownsRow.frozenAt h0.list k,by rw [←he];exact h0.rows k _ _ hv (by simp [hk])⟩
 rw [World.ownsRow.cellAt h0.list k (by omega),hv,he]
theorem RowsAt.snoc {K:Kind α} {w w1:World} {v:Value} {vs:List Value} {ll:List (List α)} (h:RowsAt K w v vs ll) {o:Obj} {A:Option Addr} {C:Nat}
 (HP:AppPost (w.alloc o) w1 0 K.sT 1 v vs.length vs 1 [.slice none 0 0] A C) :
 RowsAt K w1 (.slice A (vs.length+1) C) (vs++[.slice none 0 0]) (ll++[[]])∧∀k∈rfoot (.slice A (vs.length+1) C) (vs++[.slice none 0 0]),k∈rfoot v vs∨w.heap.size≤k:=by
 have hu:Upd (blk v) w w1:=((Upd.refl _ _).alloc _).trans HP.upd
 have hget:∀(i:Nat) (u:Value),(vs++[.slice none 0 0])[i]? = some u→vs[i]? = some u∨u=.slice none 0 0:=by
  intro i u hv
  rw [List.getElem?_append] at hv
  split at hv
  ·exact .inl hv
  ·right
   have:=List.mem_of_getElem? hv
   simpa using this
 have hnew:∀k,k∈blk (.slice A (vs.length+1) C)→k∈blk v∨w.heap.size<k:=by
  intro k hk
  rcases HP.at with hb | hb
  ·rw [hb] at hk;exact .inl hk
  ·rw [hb] at hk;simp at hk;right;omega
 have hlt:=h.lt
 refine ⟨⟨by simpa using HP.own,by simp [h.len],?_,?_,?_⟩,?_⟩
 ·intro i u l hv hl
  rcases hget i u hv with hv' | rfl
  ·have hi:=get_lt hv'
   rw [List.getElem?_append_left (by rw [←h.len];exact hi)] at hl
   exact own_upd (h.rows i u l hv' hl) hu fun k hk=>h.away i u k hv' hk
  ·have hi:=get_lt hl
   rcases Nat.lt_or_ge i vs.length with h1 | h1
   ·rw [List.getElem?_append_left h1] at hv
    rw [List.getElem?_append_left (by rw [←h.len];exact h1)] at hl
    exact own_upd (h.rows i _ l hv hl) hu fun k hk=>h.away i _ k hv hk
   ·rw [List.getElem?_append_right (by rw [←h.len];exact h1)] at hl
    have:=List.mem_of_getElem? hl
    simp at this
    subst this
    exact World.ownsRow_nil _ _ _ _
 ·intro i u k hv hk hc
  rcases hget i u hv with hv | rfl
  ·rcases hnew k hc with h1 | h1
   ·exact h.away i u k hv hk h1
   ·have:=hlt k (mem_rfoot.2 (.inr ⟨i,u,hv,hk⟩));omega
  ·simp [blk] at hk
 ·intro i j u t k hv ht hk hk'
  rcases hget i u hv with hv | rfl
  ·rcases hget j t ht with ht | rfl
   ·exact h.apart i j u t k hv ht hk hk'
   ·simp [blk] at hk'
  ·simp [blk] at hk
 ·intro k hk
  rw [mem_rfoot] at hk
  rcases hk with hk | ⟨i,u,hv,hk⟩
  ·rcases hnew k hk with h1 | h1
   ·exact .inl (mem_rfoot.2 (.inl h1))
   ·right;omega
  ·rcases hget i u hv with hv | rfl
   ·exact .inl (mem_rfoot.2 (.inr ⟨i,u,hv,hk⟩))
   ·simp [blk] at hk
theorem RowsAt.put {K:Kind α} {w:World} {g N C:Nat} {vs:List Value} {ll:List (List α)} (h:RowsAt K w (.slice (some ⟨g,0,none⟩) N C) vs ll) (hN:N=vs.length)
 (i:Nat) (v:Value) (l:List α) (hrow:K.row w 0 v l) (hap:∀k∈blk v,k≠g∧∀(j:Nat) (u:Value),j≠i→vs[j]? = some u→k∉blk u) :
 RowsAt K (w.setCell ⟨g,i,none⟩ v) (.slice (some ⟨g,0,none⟩) N C) (vs.set i v) (ll.set i l):=by
 subst hN
 have hget:∀(j:Nat) (u:Value),(vs.set i v)[j]? = some u→(i=j∧u=v)∨(i≠j∧vs[j]? = some u):=by
  intro j u hu
  rw [List.getElem?_set] at hu
  split at hu
  ·rename_i he
   split at hu
   ·simp at hu;exact .inl ⟨he,hu.symm⟩
   ·cases hu
  ·rename_i he
   exact .inr ⟨he,hu⟩
 refine ⟨?_,by simp [h.len],?_,?_,?_⟩
 ·have:=(World.ownsRow.stored h.list i v).1
  rw [show (vs.set i v).length=vs.length from by simp]
  exact this
 ·intro j u m hu hm
  rcases hget j u hu with ⟨e1,e2⟩ | ⟨hne,hu⟩
  ·subst e1 e2
   rw [List.getElem?_set] at hm
   simp only [if_true] at hm
   split at hm
   ·simp at hm;subst hm
    exact row_set_other hrow (fun hk=>(hap g hk).1 rfl) _
   ·cases hm
  ·rw [List.getElem?_set_ne hne] at hm
   exact row_set_other (h.rows j u m hu hm) (fun hk=>h.away j u g hu hk (by simp [blk])) _
 ·intro j u k hu hk
  rcases hget j u hu with ⟨e1,e2⟩ | ⟨hne,hu⟩
  ·subst e2
   simp [blk];exact (hap k hk).1
  ·exact h.away j u k hu hk
 ·intro j m u t k hu ht hk hk'
  rcases hget j u hu with ⟨e1,e2⟩ | ⟨hne,hu2⟩
  ·rcases hget m t ht with ⟨e3,e4⟩ | ⟨hne',ht2⟩
   ·rw [←e1,←e3]
   ·rw [e2] at hk
    exact ((hap k hk).2 m t (Ne.symm hne') ht2 hk').elim
  ·rcases hget m t ht with ⟨e3,e4⟩ | ⟨hne',ht2⟩
   ·rw [e4] at hk'
    exact ((hap k hk').2 j u (Ne.symm hne) hu2 hk).elim
   ·exact h.apart j m u t k hu2 ht2 hk hk'
theorem RowsAt.extend {K:Kind α} {w w2:World} {g N C:Nat} {vs:List Value} {ll:List (List α)} (h:RowsAt K w (.slice (some ⟨g,0,none⟩) N C) vs ll) (hN:N=vs.length)
 {i:Nat} {u v:Value} {l:List α} (hv:vs[i]? = some u) (hu:Upd (blk u) w w2) (hrow:K.row w2 0 v l) (hb:blk v=blk u∨blk v = [w.heap.size]) :
 RowsAt K (w2.setCell ⟨g,i,none⟩ v) (.slice (some ⟨g,0,none⟩) N C) (vs.set i v) (ll.set i l)∧Upd (rfoot (.slice (some ⟨g,0,none⟩) N C) vs) w (w2.setCell ⟨g,i,none⟩ v)∧
  ∀k∈rfoot (.slice (some ⟨g,0,none⟩) N C) (vs.set i v),k∈rfoot (.slice (some ⟨g,0,none⟩) N C) vs∨w.heap.size≤k:=by
 subst hN
 have hlt:=h.lt
 have hgu:g∉blk u:=fun hk=>h.away i u g hv hk (by simp [blk])
 have hgl:g<w.heap.size:=hlt g (mem_rfoot.2 (.inl (by simp [blk])))
 have hbv:∀k∈blk v,k∈blk u∨k=w.heap.size:=by
  intro k hk
  rcases hb with hb | hb
  ·rw [hb] at hk;exact .inl hk
  ·rw [hb] at hk;simp at hk;exact .inr hk
 have hgv:g∉blk v:=fun hk=>by
  rcases hbv g hk with h1 | h1
  ·exact hgu h1
  ·omega
 have hget:∀(j:Nat) (t:Value),(vs.set i v)[j]? = some t→(i=j∧t=v)∨(i≠j∧vs[j]? = some t):=by
  intro j t ht
  rw [List.getElem?_set] at ht
  split at ht
  ·rename_i he
   split at ht
   ·simp at ht;exact .inl ⟨he,ht.symm⟩
   ·cases ht
  ·rename_i he
   exact .inr ⟨he,ht⟩
 have hoth:∀(j:Nat) (t:Value) (k:Nat),i≠j→vs[j]? = some t→k∈blk t→k∉blk v:=by
  intro j t k hne ht hk hc
  rcases hbv k hc with h1 | h1
  ·exact hne (h.apart i j u t k hv ht h1 hk)
  ·have:=hlt k (mem_rfoot.2 (.inr ⟨j,t,ht,hk⟩));omega
 refine ⟨⟨?_,by simp [h.len],?_,?_,?_⟩,?_,?_⟩
 ·have h1:=own_upd h.list hu (fun k hk=>by simp [blk] at hk;subst hk;exact hgu)
  have:=(World.ownsRow.stored h1 i v).1
  rw [show (vs.set i v).length=vs.length from by simp]
  exact this
 ·intro j t m ht hm
  rcases hget j t ht with ⟨e1,e2⟩ | ⟨hne,ht⟩
  ·subst e1 e2
   rw [List.getElem?_set] at hm
   simp only [if_true] at hm
   split at hm
   ·simp at hm;subst hm
    exact row_set_other hrow hgv _
   ·cases hm
  ·rw [List.getElem?_set_ne hne] at hm
   have h1:=own_upd (h.rows j t m ht hm) hu (fun k hk hc=>hne (h.apart i j u t k hv ht hc hk))
   exact row_set_other h1 (fun hk=>h.away j t g ht hk (by simp [blk])) _
 ·intro j t k ht hk
  rcases hget j t ht with ⟨e1,e2⟩ | ⟨hne,ht⟩
  ·subst e2
   simp [blk]
   intro e;subst e;exact hgv hk
  ·exact h.away j t k ht hk
 ·intro j m t t' k ht ht' hk hk'
  rcases hget j t ht with ⟨e1,e2⟩ | ⟨hne,ht2⟩
  ·rcases hget m t' ht' with ⟨e3,e4⟩ | ⟨hne',ht2'⟩
   ·rw [←e1,←e3]
   ·rw [e2] at hk
    exact (hoth m t' k hne' ht2' hk' hk).elim
  ·rcases hget m t' ht' with ⟨e3,e4⟩ | ⟨hne',ht2'⟩
   ·rw [e4] at hk'
    exact (hoth j t k hne ht2 hk hk').elim
   ·exact h.apart j m t t' k ht2 ht2' hk hk'
 ·exact (hu.mono (G:=rfoot (.slice (some ⟨g,0,none⟩) vs.length C) vs) fun k hk=>.inl (mem_rfoot.2 (.inr ⟨i,u,hv,hk⟩))).setCell (p:=⟨g,i,none⟩) (.inl (mem_rfoot.2 (.inl (by simp [blk])))) _
 ·intro k hk
  rw [mem_rfoot] at hk
  rcases hk with hk | ⟨j,t,ht,hk⟩
  ·exact .inl (mem_rfoot.2 (.inl hk))
  ·rcases hget j t ht with ⟨e1,e2⟩ | ⟨hne,ht2⟩
   ·subst e2
    rcases hbv k hk with h1 | h1
    ·exact .inl (mem_rfoot.2 (.inr ⟨i,u,hv,h1⟩))
    ·right;omega
   ·exact .inl (mem_rfoot.2 (.inr ⟨j,t,ht2,hk⟩))
end
end Go.Proofs.YtkbaaonchdeneaaGreat
namespace Go.Proofs.YtkbaaonchdeneaaGreat
def mid (f t:Nat):Nat:=t - (t - f) / 2
theorem mid_in {f t:Nat} (h:f+1<t):f<mid f t∧mid f t<t:=by unfold mid;omega
section
variable {α:Type}
def postL (g:Nat→Nat→Nat→Nat→Nat→α) (f t pf pt o:Nat):List α:=
 if _h:f+1<t then
  postL g f (mid f t) f t o++(postL g (mid f t) t f t (o+2*(mid f t - f) - 1)++[g f t pf pt (o+2*(t - f) - 2)])
 else [g f t pf pt o]
termination_by t - f
decreasing_by all_goals (have:=mid_in (by assumption);omega)
theorem postL_leaf (g:Nat→Nat→Nat→Nat→Nat→α) {f t:Nat} (pf pt o:Nat) (h:¬f+1<t):postL g f t pf pt o = [g f t pf pt o]:=by
 rw [postL,dif_neg h]
theorem postL_node (g:Nat→Nat→Nat→Nat→Nat→α) {f t:Nat} (pf pt o:Nat) (h:f+1<t) :
 postL g f t pf pt o=postL g f (mid f t) f t o++(postL g (mid f t) t f t (o+2*(mid f t - f) - 1)++[g f t pf pt (o+2*(t - f) - 2)]):=by
 rw [postL,dif_pos h]
theorem postL_len (g:Nat→Nat→Nat→Nat→Nat→α):∀(d f t pf pt o:Nat),t - f≤d→f<t→(postL g f t pf pt o).length=2*(t - f) - 1:=by
 intro d
 induction d with
 |zero=>intro f t pf pt o h1 h2;omega
 |succ d ih=>
  intro f t pf pt o h1 h2
  by_cases h:f+1<t
  ·have:=mid_in h
   rw [postL_node g pf pt o h,List.length_append,List.length_append,ih f (mid f t) f t o (by omega) (by omega),ih (mid f t) t f t _ (by omega) (by omega)]
   simp only [List.length_singleton]
   omega
  ·rw [postL_leaf g pf pt o h]
   simp only [List.length_singleton]
   omega
theorem postL_length (g:Nat→Nat→Nat→Nat→Nat→α) {f t:Nat} (pf pt o:Nat) (h:f<t):(postL g f t pf pt o).length=2*(t - f) - 1:=
 postL_len g (t - f) f t pf pt o (Nat.le_refl _) h
end
end Go.Proofs.YtkbaaonchdeneaaGreat
namespace Go.Proofs.YtkbaaonchdeneaaGreat
end Go.Proofs.YtkbaaonchdeneaaGreat
namespace Go.Proofs.YtkbaaonchdeneaaGreat
def lg (n:Nat):Nat:=bitsN (n - 1)
theorem bits_halfL (d e:Nat) (hd:0<d) (he:e≤d / 2):bitsN e+1≤bitsN d:=by
 have h1:=bitsN_lt d
 have hb:bitsN d≠0:=fun h=>by rw [h] at h1;omega
 obtain ⟨b,hbb⟩:∃b,bitsN d=b+1:=⟨bitsN d - 1,by omega⟩
 rw [hbb] at h1 ⊢
 have:bitsN e≤b:=bitsN_le e b (by rw [Nat.pow_succ] at h1;omega)
 omega
theorem lg_left {f t:Nat} (h:f+1<t):lg (mid f t - f)+1≤lg (t - f):=bits_halfL _ _ (by omega) (by unfold mid;omega)
theorem lg_right {f t:Nat} (h:f+1<t):lg (t - mid f t)+1≤lg (t - f):=bits_halfL _ _ (by omega) (by unfold mid;omega)
open Go.RowKit
def HcC (w:World) (q:Nat) (l:Array Value) (t:TypeId):Prop:=w.heap[q]? = some (.cells l t (0,0))
theorem HcC.cell {w:World} {q:Nat} {l:Array Value} {t:TypeId} (h:HcC w q l t) (k:Nat):w.cell? ⟨q,k,none⟩=l[k]?:=by
 unfold HcC at h;simp only [World.cell?,h];rfl
theorem HcC.frozen {w:World} {q:Nat} {l:Array Value} {t:TypeId} (h:HcC w q l t) (k:Nat):w.frozen? ⟨q,k,none⟩=false:=by
 unfold HcC at h;simp [World.frozen?,h]
theorem HcC.lt {w:World} {q:Nat} {l:Array Value} {t:TypeId} (h:HcC w q l t):q<w.heap.size:=lt_of_block h
theorem HcC.upd {F:List Nat} {w w':World} {q:Nat} {l:Array Value} {t:TypeId} (h:HcC w q l t) (hu:Upd F w w') (hq:q∉F):HcC w' q l t:=by
 unfold HcC at h ⊢;rw [hu.block q (lt_of_block h) hq,h]
theorem HcC.upd0 {w w':World} {q:Nat} {l:Array Value} {t:TypeId} (h:HcC w q l t) (hu:Upd [] w w'):HcC w' q l t:=h.upd hu (by simp)
theorem HcC.set {w:World} {q:Nat} {l:Array Value} {t:TypeId} (h:HcC w q l t) (k:Nat) (u:Value):HcC (w.setCell ⟨q,k,none⟩ u) q (l.setIfInBounds k u) t:=heap_setCell_same w q k l t u h
theorem HcC.cells2 {w:World} {q:Nat} {a b:Value} {t:TypeId} (h:HcC w q #[a,b] t):w.cell? ⟨q,0,none⟩=some a∧w.cell? ⟨q,1,none⟩=some b:=⟨h.cell 0,h.cell 1⟩
theorem HcC.cells3 {w:World} {q:Nat} {a b c:Value} {t:TypeId} (h:HcC w q #[a,b,c] t):w.cell? ⟨q,0,none⟩=some a∧w.cell? ⟨q,1,none⟩=some b∧w.cell? ⟨q,2,none⟩=some c:=⟨h.cell 0,h.cell 1,h.cell 2⟩
theorem HcC.cells5 {w:World} {q:Nat} {a b c d e:Value} {t:TypeId} (h:HcC w q #[a,b,c,d,e] t):w.cell? ⟨q,0,none⟩=some a∧w.cell? ⟨q,1,none⟩=some b∧w.cell? ⟨q,2,none⟩=some c∧w.cell? ⟨q,3,none⟩=some d∧w.cell? ⟨q,4,none⟩=some e:=⟨h.cell 0,h.cell 1,h.cell 2,h.cell 3,h.cell 4⟩
theorem one_newC (w:World) (a:Array Value) (t:TypeId):∃W,W=w.alloc (.cells a t)∧Upd [] w W∧HcC W w.heap.size a t:=
 ⟨_,rfl,(Upd.refl _ _).alloc _,heap_alloc_new w _⟩
theorem two_newC (w:World) (a b:Array Value) (t u:TypeId):∃W,W=(w.alloc (.cells a t)).alloc (.cells b u)∧Upd [] w W∧HcC W w.heap.size a t∧HcC W (w.heap.size+1) b u:=by
 refine ⟨_,rfl,((Upd.refl _ _).alloc _).alloc _,(show HcC (w.alloc (.cells a t)) w.heap.size a t from heap_alloc_new w _).upd ((Upd.refl [] _).alloc _) (by simp),?_⟩
 have:=heap_alloc_new (w.alloc (.cells a t)) (.cells b u)
 unfold HcC
 simpa using this
end Go.Proofs.YtkbaaonchdeneaaGreat
namespace Go.Proofs.YtkbaaonchdeneaaGreat.Nm
structure NS where
 cs:List (Nat×Nat)
 al:List Bool
 pl:List Nat
 n:Nat
 wk:Nat
def place (S:NS) (x:Nat):Option Nat:=match S.cs.lookup x with
 |some k=>if S.al.getD k false then some (S.pl.getD k 0) else none
 |none=>none
def numV (o:Option Nat):Int:=match o with | some k=>(k:Int) | none=>-1
structure NInv (S:NS):Prop where
 ids:(S.cs.map (·.1)).Nodup
 nums:(S.cs.map (·.2)).Nodup
 lt:∀y∈S.cs,y.2<S.al.length
 pll:S.pl.length=S.al.length
 cnt:S.n=S.al.count true
 all:∀k:Nat,S.al[k]? = some true→∃y∈S.cs,y.2=k
theorem lookup_iff {cs:List (Nat×Nat)} (h:(cs.map (·.1)).Nodup) (x k:Nat):cs.lookup x=some k↔(x,k)∈cs:=by
 induction cs with
 |nil=>simp
 |cons a cs ih=>
  rcases a with ⟨y,m⟩
  rw [List.map_cons,List.nodup_cons] at h
  rw [List.lookup_cons]
  by_cases e:x=y
  ·subst e
   simp only [beq_self_eq_true,List.mem_cons,Prod.mk.injEq,true_and,Option.some.injEq]
   constructor
   ·intro e;exact .inl e.symm
   ·rintro (e | e)
    ·exact e.symm
    ·exact (h.1 (List.mem_map.2 ⟨_,e,rfl⟩)).elim
  ·have:(x==y)=false:=by simpa using e
   rw [this]
   simp only [List.mem_cons,Prod.mk.injEq,e,false_and,false_or]
   exact ih h.2
theorem lookup_none {cs:List (Nat×Nat)} (x:Nat):cs.lookup x=none↔∀y∈cs,y.1≠x:=by
 rw [List.lookup_eq_none_iff]
 constructor
 ·intro h y hy e;have:=h y hy;simp [e] at this
 ·intro h y hy;have:=h y hy;simp;exact fun e=>this e.symm
def BkOk (bs bk:List (List (Nat×Nat))):Prop:=bk.length=bs.length∧∀(i:Nat) (l m:List (Nat×Nat)),bk[i]? = some l→bs[i]? = some m→l.Perm m∧l.Pairwise fun a b=>a.1≤b.1
theorem BkOk.mem {bs bk:List (List (Nat×Nat))} (h:BkOk bs bk) (y:Nat×Nat):y∈bk.flatten↔y∈bs.flatten:=by
 simp only [List.mem_flatten]
 constructor
 ·rintro ⟨l,hl,hy⟩
  obtain ⟨i,hi⟩:=List.mem_iff_getElem?.1 hl
  have hlt:=(List.getElem?_eq_some_iff.1 hi).1
  have hm:bs[i]? = some (bs[i]'(by rw [←h.1];exact hlt)):=List.getElem?_eq_getElem _
  exact ⟨_,List.mem_of_getElem? hm,(h.2 i l _ hi hm).1.mem_iff.1 hy⟩
 ·rintro ⟨m,hm,hy⟩
  obtain ⟨i,hi⟩:=List.mem_iff_getElem?.1 hm
  have hlt:=(List.getElem?_eq_some_iff.1 hi).1
  have hl:bk[i]? = some (bk[i]'(by rw [h.1];exact hlt)):=List.getElem?_eq_getElem _
  exact ⟨_,List.mem_of_getElem? hl,(h.2 i _ m hl hi).1.mem_iff.2 hy⟩
theorem setB_mem (cs:List (Nat×Nat)) (y:Nat×Nat):y∈(setB cs).flatten↔y∈cs:=by
 conv=>rhs;rw [←setB_all cs]
 simp [List.mem_flatten]
theorem split_below {l:List (Nat×Nat)} (h:l.Pairwise fun a b=>a.1≤b.1) (x:Nat):l=l.filter (fun s=>decide (s.1<x))++l.filter (fun s=>!decide (s.1<x)):=by
 induction l with
 |nil=>rfl
 |cons a l ih=>
  rw [List.pairwise_cons] at h
  by_cases hx:a.1<x
  ·simp only [List.filter_cons,hx,decide_true,if_true,Bool.not_true,Bool.false_eq_true,if_false,List.cons_append]
   exact congrArg _ (ih h.2)
  ·have e1:l.filter (fun s=>decide (s.1<x)) = []:=List.filter_eq_nil_iff.2 fun s hs hc=>by have:=h.1 s hs;simp at hc;omega
   have e2:l.filter (fun s=>!decide (s.1<x))=l:=List.filter_eq_self.2 fun s hs=>by have:=h.1 s hs;simp;omega
   simp only [List.filter_cons,hx,decide_false,Bool.false_eq_true,if_false,Bool.not_false,if_true,e1,e2,List.nil_append]
theorem at_below {l:List (Nat×Nat)} (h:l.Pairwise fun a b=>a.1≤b.1) {x:Nat} (hx:∃y∈l,y.1=x):∃y,l[(l.filter fun s=>decide (s.1<x)).length]? = some y∧y.1=x:=by
 obtain ⟨y,hy,e⟩:=hx
 have hs:=split_below h x
 obtain ⟨D,hD⟩:∃D,l.filter (fun s=>!decide (s.1<x))=D:=⟨_,rfl⟩
 have hyD:y∈D:=by rw [←hD,List.mem_filter];exact ⟨hy,by simp;omega⟩
 have hDg:∀z∈D,x≤z.1:=fun z hz=>by rw [←hD,List.mem_filter] at hz;have:=hz.2;simp at this;exact this
 rw [hD] at hs
 have hp:=h
 rw [hs,List.pairwise_append] at hp
 cases D with
 |nil=>simp at hyD
 |cons d D=>
  refine ⟨d,?_,?_⟩
  ·conv=>lhs;rw [hs]
   have:l.filter (fun s=>decide (s.1<x))++d::D=l:=hs.symm
   rw [this]
   conv=>lhs;lhs;rw [hs]
   rw [List.getElem?_append_right (Nat.le_refl _),Nat.sub_self]
   rfl
  ·have h1:=hDg d (by simp)
   rcases List.mem_cons.1 hyD with e2 | hyD
   ·rw [←e2,e]
   ·have:=(List.pairwise_cons.1 hp.2.1).1 y hyD
    omega
end Go.Proofs.YtkbaaonchdeneaaGreat.Nm
