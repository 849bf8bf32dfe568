/- Buckets, plainly: what Set makes; how it goes bucket by bucket. Run equations of single operations, in a form that a walk can take: slices cut, shifts, bits. No program. A list of lists in memory that a call has made. The tree over some leaves, as the list of its nodes: left, right, the node. No program. A cover, plainly: how often the nodes are covered, what is known of them, which gaps that is. No program. A cover, plainly: how many nodes are entered, at most. No program. -/
import Derived.IntWalk
import Derived.WalkKit
import Derived.Test.YtkbaaonchdeneaaGreatPk2
import Derived.Test.YtkbaaonchdeneaaGreatPk1
namespace Go.Proofs.YtkbaaonchdeneaaGreat
def bitsN (n:Nat):Nat:=if n=0 then 0 else n.log2+1
theorem bitsN_lt (n:Nat):n<2 ^ bitsN n:=by
 unfold bitsN
 split
 ·omega
 ·exact Nat.lt_log2_self
theorem bitsN_le (n k:Nat) (h:n<2 ^ k):bitsN n≤k:=by
 unfold bitsN
 split
 ·omega
 ·rename_i hn
  have:=(Nat.log2_lt hn).2 h
  omega
theorem bitsN_eq (n k:Nat) (h:n<2 ^ k) (h1:k=0∨2 ^ (k - 1)≤n):bitsN n=k:=by
 refine Nat.le_antisymm (bitsN_le n k h) ?_
 rcases h1 with rfl | h1
 ·omega
 ·refine Nat.le_of_not_lt fun hlt=>?_
  have h2:=bitsN_lt n
  have h3:2 ^ bitsN n≤2 ^ (k - 1):=Nat.pow_le_pow_right (by omega) (by omega)
  omega
section
variable {α:Type}
def bucketOf (l:List α) (i:Nat):List α:=if l.length.testBit i then (l.drop (l.length / 2 ^ (i+1)*2 ^ (i+1))).take (2 ^ i) else []
def setFrom (l:List α) (m:Nat):List (List α):=(List.range (bitsN l.length)).map fun i=>if i<m then [] else bucketOf l i
def setB (l:List α):List (List α):=(List.range (bitsN l.length)).map (bucketOf l)
theorem setFrom_zero (l:List α):setFrom l 0=setB l:=by simp [setFrom,setB]
theorem setFrom_top (l:List α):setFrom l (bitsN l.length)=List.replicate (bitsN l.length) []:=by
 unfold setFrom
 apply List.ext_getElem?
 intro i
 by_cases h:i<bitsN l.length
 ·simp [h]
 ·simp [h]
theorem setFrom_step (l:List α) (m:Nat):(setFrom l (m+1)).set m (bucketOf l m)=setFrom l m:=by
 unfold setFrom
 apply List.ext_getElem?
 intro i
 rw [List.getElem?_set]
 by_cases h:i<bitsN l.length
 ·by_cases hm:m=i
  ·subst hm;simp [h]
  ·have e:(i<m+1)↔i<m:=by omega
   simp [hm,h,e]
 ·simp [h];intro hm;subst hm;omega
theorem setFrom_same (l:List α) (m:Nat) (h:l.length.testBit m=false):setFrom l (m+1)=setFrom l m:=by
 rw [←setFrom_step l m]
 symm
 apply List.ext_getElem?
 intro i
 rw [List.getElem?_set]
 split
 ·rename_i hm
  subst hm
  split
  ·rename_i h'
   simp [setFrom,bucketOf,h] at h' ⊢
   simp [h']
  ·rename_i h'
   rw [List.getElem?_eq_none (by omega)]
 ·rfl
theorem bit_div (n m:Nat):n / 2 ^ m=2*(n / 2 ^ (m+1))+(n.testBit m).toNat:=by
 have h1:n / 2 ^ (m+1)=n / 2 ^ m / 2:=by rw [Nat.pow_succ,Nat.div_div_eq_div_mul]
 have h2:(n.testBit m).toNat=n / 2 ^ m % 2:=by
  rw [Nat.testBit_eq_decide_div_mod_eq]
  rcases Nat.mod_two_eq_zero_or_one (n / 2 ^ m) with h | h<;>simp [h]
 rw [h1,h2]
 omega
theorem top_yes (n m:Nat) (h:n.testBit m=true):n / 2 ^ m*2 ^ m=n / 2 ^ (m+1)*2 ^ (m+1)+2 ^ m:=by
 rw [bit_div n m,h,Nat.pow_succ]
 simp only [Bool.toNat_true,Nat.add_mul,Nat.one_mul]
 rw [Nat.mul_comm 2,Nat.mul_assoc,Nat.mul_comm 2]
theorem top_no (n m:Nat) (h:n.testBit m=false):n / 2 ^ m*2 ^ m=n / 2 ^ (m+1)*2 ^ (m+1):=by
 rw [bit_div n m,h,Nat.pow_succ]
 simp only [Bool.toNat_false,Nat.add_zero]
 rw [Nat.mul_comm 2,Nat.mul_assoc,Nat.mul_comm 2]
theorem rest_is (n m:Nat):n - n / 2 ^ m*2 ^ m=n % 2 ^ m:=by
 have:=Nat.div_add_mod n (2 ^ m)
 rw [Nat.mul_comm] at this
 omega
theorem rest_yes (n m:Nat) (h:n.testBit m=true):n % 2 ^ (m+1)=2 ^ m+n % 2 ^ m:=by
 have h1:=rest_is n m
 have h2:=rest_is n (m+1)
 have h3:=top_yes n m h
 have h4:n / 2 ^ m*2 ^ m≤n:=Nat.div_mul_le_self n (2 ^ m)
 omega
theorem rest_no (n m:Nat) (h:n.testBit m=false):n % 2 ^ (m+1)=n % 2 ^ m:=by
 have h1:=rest_is n m
 have h2:=rest_is n (m+1)
 have h3:=top_no n m h
 omega
end
open Go.RowKit
section
variable {P:Program}
theorem wrap_nat (p:Nat) (h:p<9223372036854775808):IntKind.i64.wrap (p:Int)=(p:Int):=IntWalk.i64_in _ (by omega)
theorem and_wrap (a b:Nat) (ha:a<2 ^ 62) (hb:b<2 ^ 62):IntKind.i64.wrap ((BitVec.ofInt IntKind.i64.bits (a:Int) &&& BitVec.ofInt IntKind.i64.bits (b:Int)).toNat:Int)=((a &&& b:Nat):Int):=by
 have h1:(BitVec.ofInt IntKind.i64.bits (a:Int) &&& BitVec.ofInt IntKind.i64.bits (b:Int)).toNat=a &&& b:=by
  rw [BitVec.toNat_and]
  simp only [BitVec.ofInt_natCast,BitVec.toNat_ofNat]
  rw [Nat.mod_eq_of_lt (by simp only [IntKind.bits];omega),Nat.mod_eq_of_lt (by simp only [IntKind.bits];omega)]
 rw [h1]
 have h2:a &&& b≤a:=Nat.and_le_left
 exact wrap_nat _ (by omega)
theorem and_two_pow (a m:Nat):(a &&& 2 ^ m)=if a.testBit m then 2 ^ m else 0:=by
 apply Nat.eq_of_testBit_eq
 intro i
 rw [Nat.testBit_and,Nat.testBit_two_pow]
 by_cases h:m=i
 ·subst h
  cases hb:a.testBit m<;>simp
 ·cases hb:a.testBit m<;>simp [h]
theorem shl_spelt (m p:Nat) (hm:m<62) (hp:2 ^ m=p):wrap64 ((2:Int) ^ m)=(p:Int):=by
 have h1:(2:Int) ^ m=(p:Int):=by rw [←hp];simp
 have h2:(2:Nat) ^ m<2 ^ 62:=Nat.pow_lt_pow_right (by omega) hm
 rw [h1]
 exact IntWalk.wrap64_in _ ⟨by omega,by omega⟩
theorem and_spelt (a b c:Nat) (ha:a<2 ^ 62) (hb:b<2 ^ 62) (hc:a &&& b=c):bits .and .i64 (a:Int) (b:Int)=(c:Int):=by
 rw [←hc]
 exact and_wrap a b ha hb
variable {w:World} {size:Nat} {v:Value} {n:Nat} {xs:List Value}
theorem elem_of {P:Program} {t e:TypeId} (ht:P.underlying t=some (.slice e)):P.underlying t=some (.slice (P.elem t)):=by
 have:P.elem t=e:=by simp [Program.elem,ht]
 rw [this];exact ht
theorem cut_to {t e:TypeId} {i:TypeInfo} (ht:P.underlying t=some (.slice e)) (hi:P.info? e=some i) (hsize:i.size=size) (h:Sees w size v n xs) (k:Nat) (hk:k≤n) :
 ∃A C,(∀w',(Instr.slice t v none (some (.int .i64 (k:Int))) none).run P w'=.ok (.slice A k C) w')∧
  (∀w',Sees w' size v n xs→Sees w' size (.slice A k C) k (xs.take (k*size)))∧blk (.slice A k C)=blk v:=by
 subst hsize
 have hel:P.elem t=e:=by simp [Program.elem,ht]
 rcases h.2 with ⟨rfl,rfl⟩ | ⟨b,o,s,cap,rfl,h3,h4,h5,h6⟩
 ·have hk0:k=0:=by omega
  subst hk0
  refine ⟨none,0,fun w'=>?_,fun w' hs=>?_,rfl⟩
  ·rw [run_slice_h w' t none 0 0 (elem_of ht) .i64 _ (by omega) (by omega)]
   simp [hel,sizeOf,typeInfo,hi,sliced]
  ·exact ⟨by simp,.inl ⟨rfl,rfl⟩⟩
 ·refine ⟨some ⟨b,o,s⟩,cap,fun w'=>?_,fun w' hs=>?_,rfl⟩
  ·rw [run_slice_h w' t _ n cap (elem_of ht) .i64 _ (by omega) (by omega)]
   simp [hel,sizeOf,typeInfo,hi,sliced,Addr.add]
  ·refine ⟨by rw [List.length_take,hs.1];exact Nat.min_eq_left (Nat.mul_le_mul_right _ hk),.inr ⟨b,o,s,cap,rfl,h3,by omega,h5,fun j u hu=>?_⟩⟩
   rw [List.getElem?_take] at hu
   split at hu
   ·rcases hs.2 with ⟨hc,_⟩ | ⟨b',o',s',cap',hc,_,_,_,h5'⟩
    ·cases hc
    ·cases hc;exact h5' j u hu
   ·cases hu
theorem cut_from {t e:TypeId} {i:TypeInfo} (ht:P.underlying t=some (.slice e)) (hi:P.info? e=some i) (hsize:i.size=size) (h:Sees w size v n xs) (k:Nat) (hk:k≤n) :
 ∃A C,(∀w',(Instr.slice t v (some (.int .i64 (k:Int))) none none).run P w'=.ok (.slice A (n - k) C) w')∧
  (∀w',Sees w' size v n xs→Sees w' size (.slice A (n - k) C) (n - k) (xs.drop (k*size)))∧blk (.slice A (n - k) C)=blk v:=by
 subst hsize
 have hel:P.elem t=e:=by simp [Program.elem,ht]
 rcases h.2 with ⟨rfl,rfl⟩ | ⟨b,o,s,cap,rfl,h3,h4,h5,h6⟩
 ·have hk0:k=0:=by omega
  subst hk0
  refine ⟨none,0,fun w'=>?_,fun w' hs=>?_,rfl⟩
  ·rw [run_slice_l w' t none 0 0 (elem_of ht) .i64 _ (by omega) (by omega)]
   simp [hel,sizeOf,typeInfo,hi,sliced]
  ·exact ⟨by simpa using hs.1,.inl ⟨rfl,rfl⟩⟩
 ·refine ⟨if cap=k then some ⟨b,o,s⟩ else some ⟨b,o+k*i.size,none⟩,cap - k,fun w'=>?_,fun w' hs=>?_,?_⟩
  ·rw [run_slice_l w' t _ n cap (elem_of ht) .i64 _ (by omega) (by omega)]
   by_cases hck:cap=k
   ·simp [hel,sizeOf,typeInfo,hi,sliced,hck]
   ·have hs0:=h3 (by omega)
    subst hs0
    simp [hel,sizeOf,typeInfo,hi,sliced,addr_add,hck]
  ·refine ⟨by rw [List.length_drop,hs.1,Nat.sub_mul],.inr ⟨b,if cap=k then o else o+k*i.size,if cap=k then s else none,cap - k,?_,?_,by omega,by omega,fun j u hu=>?_⟩⟩
   ·split<;>rfl
   ·intro hp;rw [if_neg (by omega)]
   ·rcases hs.2 with ⟨hc,_⟩ | ⟨b',o',s',cap',hc,_,_,_,h5'⟩
    ·cases hc
    ·cases hc
     rw [List.getElem?_drop] at hu
     have hlt:k*i.size+j<n*i.size:=by
      rcases Nat.lt_or_ge (k*i.size+j) (n*i.size) with h' | h'
      ·exact h'
      ·rw [List.getElem?_eq_none (by rw [hs.1];exact h')] at hu;cases hu
     have hkc:cap≠k:=by
      intro e;subst e
      have:n=cap:=by omega
      subst this;omega
     rw [if_neg hkc]
     have:=h5' _ u hu
     rwa [show o+(k*i.size+j)=o+k*i.size+j from by omega] at this
  ·split<;>rfl
theorem cut_mid {t e:TypeId} {i:TypeInfo} (ht:P.underlying t=some (.slice e)) (hi:P.info? e=some i) (hsize:i.size=size) (h:Sees w size v n xs) (lo hi':Nat) (hlo:lo≤hi') (hhi:hi'≤n) :
 ∃A C,(∀w',(Instr.slice t v (some (.int .i64 (lo:Int))) (some (.int .i64 (hi':Int))) none).run P w'=.ok (.slice A (hi' - lo) C) w')∧
  (∀w',Sees w' size v n xs→Sees w' size (.slice A (hi' - lo) C) (hi' - lo) ((xs.drop (lo*size)).take ((hi' - lo)*size)))∧blk (.slice A (hi' - lo) C)=blk v:=by
 subst hsize
 have hel:P.elem t=e:=by simp [Program.elem,ht]
 rcases h.2 with ⟨rfl,rfl⟩ | ⟨b,o,s,cap,rfl,h3,h4,h5,h6⟩
 ·have hk0:hi'=0:=by omega
  have hl0:lo=0:=by omega
  subst hk0 hl0
  refine ⟨none,0,fun w'=>?_,fun w' hs=>?_,rfl⟩
  ·rw [run_slice_lh w' t none 0 0 (elem_of ht) .i64 .i64 _ _ (by omega) (by omega) (by omega)]
   simp [hel,sizeOf,typeInfo,hi,sliced]
  ·exact ⟨by simp,.inl ⟨rfl,rfl⟩⟩
 ·refine ⟨if cap=lo then some ⟨b,o,s⟩ else some ⟨b,o+lo*i.size,none⟩,cap - lo,fun w'=>?_,fun w' hs=>?_,?_⟩
  ·rw [run_slice_lh w' t _ n cap (elem_of ht) .i64 .i64 _ _ (by omega) (by omega) (by omega)]
   by_cases hck:cap=lo
   ·simp [hel,sizeOf,typeInfo,hi,sliced,hck]
   ·have hs0:=h3 (by omega)
    subst hs0
    simp [hel,sizeOf,typeInfo,hi,sliced,addr_add,hck]
  ·refine ⟨?_,.inr ⟨b,if cap=lo then o else o+lo*i.size,if cap=lo then s else none,cap - lo,?_,?_,by omega,by omega,fun j u hu=>?_⟩⟩
   ·rw [List.length_take,List.length_drop,hs.1,←Nat.sub_mul]
    exact Nat.min_eq_left (Nat.mul_le_mul_right _ (by omega))
   ·split<;>rfl
   ·intro hp;rw [if_neg (by omega)]
   ·rcases hs.2 with ⟨hc,_⟩ | ⟨b',o',s',cap',hc,_,_,_,h5'⟩
    ·cases hc
    ·cases hc
     rw [List.getElem?_take] at hu
     split at hu
     ·rename_i hj
      rw [List.getElem?_drop] at hu
      have hlt:lo*i.size+j<hi'*i.size:=by
       have:=Nat.sub_mul hi' lo i.size
       have h6:lo*i.size≤hi'*i.size:=Nat.mul_le_mul_right _ hlo
       omega
      have hkc:cap≠lo:=by
       intro e;subst e
       have:hi'=cap:=by omega
       subst this;omega
      rw [if_neg hkc]
      have:=h5' _ u hu
      rwa [show o+(lo*i.size+j)=o+lo*i.size+j from by omega] at this
     ·cases hu
  ·split<;>rfl
end
section
variable {α:Type}
structure RowsAt (K:Kind α) (w:World) (v:Value) (vs:List Value) (ll:List (List α)):Prop where
 list:w.ownsRow 0 K.sT 1 v vs.length vs
 len:vs.length=ll.length
 rows:∀(i:Nat) (u:Value) (l:List α),vs[i]? = some u→ll[i]? = some l→K.row w 0 u l
 away:∀(i:Nat) (u:Value) (k:Nat),vs[i]? = some u→k∈blk u→k∉blk v
 apart:∀(i j:Nat) (u t:Value) (k:Nat),vs[i]? = some u→vs[j]? = some t→k∈blk u→k∈blk t→i=j
def rfoot (v:Value) (vs:List Value):List Nat:=blk v++vs.flatMap blk
theorem mem_rfoot {v:Value} {vs:List Value} {k:Nat}:k∈rfoot v vs↔k∈blk v∨∃(i:Nat) (u:Value),vs[i]? = some u∧k∈blk u:=by
 simp only [rfoot,List.mem_append,List.mem_flatMap]
 constructor
 ·rintro (h | ⟨v,hv,hk⟩)
  ·exact .inl h
  ·obtain ⟨i,hi⟩:=List.mem_iff_getElem?.1 hv
   exact .inr ⟨i,v,hi,hk⟩
 ·rintro (h | ⟨i,v,hv,hk⟩)
  ·exact .inl h
  ·exact .inr ⟨v,List.mem_of_getElem? hv,hk⟩
theorem get_lt {β:Type} {l:List β} {i:Nat} {x:β} (h:l[i]? = some x):i<l.length:=by
 rcases Nat.lt_or_ge i l.length with h' | h'
 ·exact h'
 ·rw [List.getElem?_eq_none h'] at h;cases h
theorem RowsAt.lt {K:Kind α} {w:World} {v:Value} {vs:List Value} {ll:List (List α)} (h:RowsAt K w v vs ll):∀k∈rfoot v vs,k<w.heap.size:=by
 intro k hk
 rw [mem_rfoot] at hk
 rcases hk with hk | ⟨i,u,hu,hk⟩
 ·exact own_lt h.list k hk
 ·have hl:=get_lt hu
  exact own_lt (h.rows i u (ll[i]'(by rw [←h.len];exact hl)) hu (by simp)) k hk
theorem RowsAt.upd {K:Kind α} {w w':World} {v:Value} {vs:List Value} {ll:List (List α)} (h:RowsAt K w v vs ll) {F:List Nat} (hu:Upd F w w') (hd:∀k∈rfoot v vs,k∉F):RowsAt K w' v vs ll where
 list:=own_upd h.list hu fun k hk=>hd k (mem_rfoot.2 (.inl hk))
 len:=h.len
 rows:=fun i u l hv hl=>own_upd (h.rows i u l hv hl) hu fun k hk=>hd k (mem_rfoot.2 (.inr ⟨i,u,hv,hk⟩))
 away:=h.away
 apart:=h.apart
theorem RowsAt.nil {K:Kind α} {w:World}:RowsAt K w (.slice none 0 0) [] []:=⟨World.ownsRow_nil _ _ _ _,rfl,by simp,by simp,by simp⟩
theorem RowsAt.at {K:Kind α} {w:World} {A:Option Addr} {N C:Nat} {vs:List Value} {ll:List (List α)} (h0:RowsAt K w (.slice A N C) vs ll) {k:Nat} (hk:k<ll.length) :
 ∃(g:Nat) (Ak:Option Addr) (Ck:Nat),A=some ⟨g,0,none⟩∧vs[k]? = some (.slice Ak ll[k].length Ck)∧
  w.cell? ⟨g,k,none⟩=some (.slice Ak ll[k].length Ck)∧w.frozen? ⟨g,k,none⟩=false∧K.row w 0 (.slice Ak ll[k].length Ck) ll[k]:=by
 have hk':k<vs.length:=by rw [h0.len];exact hk
 obtain ⟨g,cap,hA,_,_⟩:=h0.list.form (by omega)
 cases hA
 have hv:vs[k]? = some vs[k]:=by simp
 obtain ⟨Ak,Ck,he⟩:=own_form (h0.rows k _ _ hv (by simp [hk];rfl))
 refine ⟨g,Ak,Ck,rfl,by rw [hv,he],?_,World.ownsRow.frozenAt h0.list k,by rw [←he];exact h0.rows k _ _ hv (by simp [hk])⟩
 rw [World.ownsRow.cellAt h0.list k (by omega),hv,he]
theorem RowsAt.snoc {K:Kind α} {w w1:World} {v:Value} {vs:List Value} {ll:List (List α)} (h:RowsAt K w v vs ll) {o:Obj} {A:Option Addr} {C:Nat}
 (HP:AppPost (w.alloc o) w1 0 K.sT 1 v vs.length vs 1 [.slice none 0 0] A C) :
 RowsAt K w1 (.slice A (vs.length+1) C) (vs++[.slice none 0 0]) (ll++[[]])∧∀k∈rfoot (.slice A (vs.length+1) C) (vs++[.slice none 0 0]),k∈rfoot v vs∨w.heap.size≤k:=by
 have hu:Upd (blk v) w w1:=((Upd.refl _ _).alloc _).trans HP.upd
 have hget:∀(i:Nat) (u:Value),(vs++[.slice none 0 0])[i]? = some u→vs[i]? = some u∨u=.slice none 0 0:=by
  intro i u hv
  rw [List.getElem?_append] at hv
  split at hv
  ·exact .inl hv
  ·right
   have:=List.mem_of_getElem? hv
   simpa using this
 have hnew:∀k,k∈blk (.slice A (vs.length+1) C)→k∈blk v∨w.heap.size<k:=by
  intro k hk
  rcases HP.at with hb | hb
  ·rw [hb] at hk;exact .inl hk
  ·rw [hb] at hk;simp at hk;right;omega
 have hlt:=h.lt
 refine ⟨⟨by simpa using HP.own,by simp [h.len],?_,?_,?_⟩,?_⟩
 ·intro i u l hv hl
  rcases hget i u hv with hv' | rfl
  ·have hi:=get_lt hv'
   rw [List.getElem?_append_left (by rw [←h.len];exact hi)] at hl
   exact own_upd (h.rows i u l hv' hl) hu fun k hk=>h.away i u k hv' hk
  ·have hi:=get_lt hl
   rcases Nat.lt_or_ge i vs.length with h1 | h1
   ·rw [List.getElem?_append_left h1] at hv
    rw [List.getElem?_append_left (by rw [←h.len];exact h1)] at hl
    exact own_upd (h.rows i _ l hv hl) hu fun k hk=>h.away i _ k hv hk
   ·rw [List.getElem?_append_right (by rw [←h.len];exact h1)] at hl
    have:=List.mem_of_getElem? hl
    simp at this
    subst this
    exact World.ownsRow_nil _ _ _ _
 ·intro i u k hv hk hc
  rcases hget i u hv with hv | rfl
  ·rcases hnew k hc with h1 | h1
   ·exact h.away i u k hv hk h1
   ·have:=hlt k (mem_rfoot.2 (.inr ⟨i,u,hv,hk⟩));omega
  ·simp [blk] at hk
 ·intro i j u t k hv ht hk hk'
  rcases hget i u hv with hv | rfl
  ·rcases hget j t ht with ht | rfl
   ·exact h.apart i j u t k hv ht hk hk'
   ·simp [blk] at hk'
  ·simp [blk] at hk
 ·intro k hk
  rw [mem_rfoot] at hk
  rcases hk with hk | ⟨i,u,hv,hk⟩
  ·rcases hnew k hk with h1 | h1
   ·exact .inl (mem_rfoot.2 (.inl h1))
   ·right;omega
  ·rcases hget i u hv with hv | rfl
   ·exact .inl (mem_rfoot.2 (.inr ⟨i,u,hv,hk⟩))
   ·simp [blk] at hk
theorem RowsAt.put {K:Kind α} {w:World} {g N C:Nat} {vs:List Value} {ll:List (List α)} (h:RowsAt K w (.slice (some ⟨g,0,none⟩) N C) vs ll) (hN:N=vs.length)
 (i:Nat) (v:Value) (l:List α) (hrow:K.row w 0 v l) (hap:∀k∈blk v,k≠g∧∀(j:Nat) (u:Value),j≠i→vs[j]? = some u→k∉blk u) :
 RowsAt K (w.setCell ⟨g,i,none⟩ v) (.slice (some ⟨g,0,none⟩) N C) (vs.set i v) (ll.set i l):=by
 subst hN
 have hget:∀(j:Nat) (u:Value),(vs.set i v)[j]? = some u→(i=j∧u=v)∨(i≠j∧vs[j]? = some u):=by
  intro j u hu
  rw [List.getElem?_set] at hu
  split at hu
  ·rename_i he
   split at hu
   ·simp at hu;exact .inl ⟨he,hu.symm⟩
   ·cases hu
  ·rename_i he
   exact .inr ⟨he,hu⟩
 refine ⟨?_,by simp [h.len],?_,?_,?_⟩
 ·have:=(World.ownsRow.stored h.list i v).1
  rw [show (vs.set i v).length=vs.length from by simp]
  exact this
 ·intro j u m hu hm
  rcases hget j u hu with ⟨e1,e2⟩ | ⟨hne,hu⟩
  ·subst e1 e2
   rw [List.getElem?_set] at hm
   simp only [if_true] at hm
   split at hm
   ·simp at hm;subst hm
    exact row_set_other hrow (fun hk=>(hap g hk).1 rfl) _
   ·cases hm
  ·rw [List.getElem?_set_ne hne] at hm
   exact row_set_other (h.rows j u m hu hm) (fun hk=>h.away j u g hu hk (by simp [blk])) _
 ·intro j u k hu hk
  rcases hget j u hu with ⟨e1,e2⟩ | ⟨hne,hu⟩
  ·subst e2
   simp [blk];exact (hap k hk).1
  ·exact h.away j u k hu hk
 ·intro j m u t k hu ht hk hk'
  rcases hget j u hu with ⟨e1,e2⟩ | ⟨hne,hu2⟩
  ·rcases hget m t ht with ⟨e3,e4⟩ | ⟨hne',ht2⟩
   ·rw [←e1,←e3]
   ·rw [e2] at hk
    exact ((hap k hk).2 m t (Ne.symm hne') ht2 hk').elim
  ·rcases hget m t ht with ⟨e3,e4⟩ | ⟨hne',ht2⟩
   ·rw [e4] at hk'
    exact ((hap k hk').2 j u (Ne.symm hne) hu2 hk).elim
   ·exact h.apart j m u t k hu2 ht2 hk hk'
theorem RowsAt.extend {K:Kind α} {w w2:World} {g N C:Nat} {vs:List Value} {ll:List (List α)} (h:RowsAt K w (.slice (some ⟨g,0,none⟩) N C) vs ll) (hN:N=vs.length)
 {i:Nat} {u v:Value} {l:List α} (hv:vs[i]? = some u) (hu:Upd (blk u) w w2) (hrow:K.row w2 0 v l) (hb:blk v=blk u∨blk v = [w.heap.size]) :
 RowsAt K (w2.setCell ⟨g,i,none⟩ v) (.slice (some ⟨g,0,none⟩) N C) (vs.set i v) (ll.set i l)∧Upd (rfoot (.slice (some ⟨g,0,none⟩) N C) vs) w (w2.setCell ⟨g,i,none⟩ v)∧
  ∀k∈rfoot (.slice (some ⟨g,0,none⟩) N C) (vs.set i v),k∈rfoot (.slice (some ⟨g,0,none⟩) N C) vs∨w.heap.size≤k:=by
 subst hN
 have hlt:=h.lt
 have hgu:g∉blk u:=fun hk=>h.away i u g hv hk (by simp [blk])
 have hgl:g<w.heap.size:=hlt g (mem_rfoot.2 (.inl (by simp [blk])))
 have hbv:∀k∈blk v,k∈blk u∨k=w.heap.size:=by
  intro k hk
  rcases hb with hb | hb
  ·rw [hb] at hk;exact .inl hk
  ·rw [hb] at hk;simp at hk;exact .inr hk
 have hgv:g∉blk v:=fun hk=>by
  rcases hbv g hk with h1 | h1
  ·exact hgu h1
  ·omega
 have hget:∀(j:Nat) (t:Value),(vs.set i v)[j]? = some t→(i=j∧t=v)∨(i≠j∧vs[j]? = some t):=by
  intro j t ht
  rw [List.getElem?_set] at ht
  split at ht
  ·rename_i he
   split at ht
   ·simp at ht;exact .inl ⟨he,ht.symm⟩
   ·cases ht
  ·rename_i he
   exact .inr ⟨he,ht⟩
 have hoth:∀(j:Nat) (t:Value) (k:Nat),i≠j→vs[j]? = some t→k∈blk t→k∉blk v:=by
  intro j t k hne ht hk hc
  rcases hbv k hc with h1 | h1
  ·exact hne (h.apart i j u t k hv ht h1 hk)
  ·have:=hlt k (mem_rfoot.2 (.inr ⟨j,t,ht,hk⟩));omega
 refine ⟨⟨?_,by simp [h.len],?_,?_,?_⟩,?_,?_⟩
 ·have h1:=own_upd h.list hu (fun k hk=>by simp [blk] at hk;subst hk;exact hgu)
  have:=(World.ownsRow.stored h1 i v).1
  rw [show (vs.set i v).length=vs.length from by simp]
  exact this
 ·intro j t m ht hm
  rcases hget j t ht with ⟨e1,e2⟩ | ⟨hne,ht⟩
  ·subst e1 e2
   rw [List.getElem?_set] at hm
   simp only [if_true] at hm
   split at hm
   ·simp at hm;subst hm
    exact row_set_other hrow hgv _
   ·cases hm
  ·rw [List.getElem?_set_ne hne] at hm
   have h1:=own_upd (h.rows j t m ht hm) hu (fun k hk hc=>hne (h.apart i j u t k hv ht hc hk))
   exact row_set_other h1 (fun hk=>h.away j t g ht hk (by simp [blk])) _
 ·intro j t k ht hk
  rcases hget j t ht with ⟨e1,e2⟩ | ⟨hne,ht⟩
  ·subst e2
   simp [blk]
   intro e;subst e;exact hgv hk
  ·exact h.away j t k ht hk
 ·intro j m t t' k ht ht' hk hk'
  rcases hget j t ht with ⟨e1,e2⟩ | ⟨hne,ht2⟩
  ·rcases hget m t' ht' with ⟨e3,e4⟩ | ⟨hne',ht2'⟩
   ·rw [←e1,←e3]
   ·rw [e2] at hk
    exact (hoth m t' k hne' ht2' hk' hk).elim
  ·rcases hget m t' ht' with ⟨e3,e4⟩ | ⟨hne',ht2'⟩
   ·rw [e4] at hk'
    exact (hoth j t k hne ht2 hk hk').elim
   ·exact h.apart j m t t' k ht2 ht2' hk hk'
 ·exact (hu.mono (G:=rfoot (.slice (some ⟨g,0,none⟩) vs.length C) vs) fun k hk=>.inl (mem_rfoot.2 (.inr ⟨i,u,hv,hk⟩))).setCell (p:=⟨g,i,none⟩) (.inl (mem_rfoot.2 (.inl (by simp [blk])))) _
 ·intro k hk
  rw [mem_rfoot] at hk
  rcases hk with hk | ⟨j,t,ht,hk⟩
  ·exact .inl (mem_rfoot.2 (.inl hk))
  ·rcases hget j t ht with ⟨e1,e2⟩ | ⟨hne,ht2⟩
   ·subst e2
    rcases hbv k hk with h1 | h1
    ·exact .inl (mem_rfoot.2 (.inr ⟨i,u,hv,h1⟩))
    ·right;omega
   ·exact .inl (mem_rfoot.2 (.inr ⟨j,t,ht2,hk⟩))
end
end Go.Proofs.YtkbaaonchdeneaaGreat
namespace Go.Proofs.YtkbaaonchdeneaaGreat
def mid (f t:Nat):Nat:=t - (t - f) / 2
theorem mid_in {f t:Nat} (h:f+1<t):f<mid f t∧mid f t<t:=by unfold mid;omega
section
variable {α:Type}
def postL (g:Nat→Nat→Nat→Nat→Nat→α) (f t pf pt o:Nat):List α:=
 if _h:f+1<t then
  postL g f (mid f t) f t o++(postL g (mid f t) t f t (o+2*(mid f t - f) - 1)++[g f t pf pt (o+2*(t - f) - 2)])
 else [g f t pf pt o]
termination_by t - f
decreasing_by all_goals (have:=mid_in (by assumption);omega)
theorem postL_leaf (g:Nat→Nat→Nat→Nat→Nat→α) {f t:Nat} (pf pt o:Nat) (h:¬f+1<t):postL g f t pf pt o = [g f t pf pt o]:=by
 rw [postL,dif_neg h]
theorem postL_node (g:Nat→Nat→Nat→Nat→Nat→α) {f t:Nat} (pf pt o:Nat) (h:f+1<t) :
 postL g f t pf pt o=postL g f (mid f t) f t o++(postL g (mid f t) t f t (o+2*(mid f t - f) - 1)++[g f t pf pt (o+2*(t - f) - 2)]):=by
 rw [postL,dif_pos h]
theorem postL_len (g:Nat→Nat→Nat→Nat→Nat→α):∀(d f t pf pt o:Nat),t - f≤d→f<t→(postL g f t pf pt o).length=2*(t - f) - 1:=by
 intro d
 induction d with
 |zero=>intro f t pf pt o h1 h2;omega
 |succ d ih=>
  intro f t pf pt o h1 h2
  by_cases h:f+1<t
  ·have:=mid_in h
   rw [postL_node g pf pt o h,List.length_append,List.length_append,ih f (mid f t) f t o (by omega) (by omega),ih (mid f t) t f t _ (by omega) (by omega)]
   simp only [List.length_singleton]
   omega
  ·rw [postL_leaf g pf pt o h]
   simp only [List.length_singleton]
   omega
theorem postL_length (g:Nat→Nat→Nat→Nat→Nat→α) {f t:Nat} (pf pt o:Nat) (h:f<t):(postL g f t pf pt o).length=2*(t - f) - 1:=
 postL_len g (t - f) f t pf pt o (Nat.le_refl _) h
end
end Go.Proofs.YtkbaaonchdeneaaGreat
namespace Go.Proofs.YtkbaaonchdeneaaGreat
end Go.Proofs.YtkbaaonchdeneaaGreat
namespace Go.Proofs.YtkbaaonchdeneaaGreat
def lg (n:Nat):Nat:=bitsN (n - 1)
theorem bits_halfL (d e:Nat) (hd:0<d) (he:e≤d / 2):bitsN e+1≤bitsN d:=by
 have h1:=bitsN_lt d
 have hb:bitsN d≠0:=fun h=>by rw [h] at h1;omega
 obtain ⟨b,hbb⟩:∃b,bitsN d=b+1:=⟨bitsN d - 1,by omega⟩
 rw [hbb] at h1 ⊢
 have:bitsN e≤b:=bitsN_le e b (by rw [Nat.pow_succ] at h1;omega)
 omega
theorem lg_left {f t:Nat} (h:f+1<t):lg (mid f t - f)+1≤lg (t - f):=bits_halfL _ _ (by omega) (by unfold mid;omega)
theorem lg_right {f t:Nat} (h:f+1<t):lg (t - mid f t)+1≤lg (t - f):=bits_halfL _ _ (by omega) (by unfold mid;omega)
end Go.Proofs.YtkbaaonchdeneaaGreat
