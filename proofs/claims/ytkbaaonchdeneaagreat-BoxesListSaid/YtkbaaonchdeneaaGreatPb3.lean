/- Buckets, plainly: what Set makes; how it goes bucket by bucket. Buckets, plainly: what is added -/
import Derived.Test.YtkbaaonchdeneaaGreatPb1
import Derived.Test.YtkbaaonchdeneaaGreatPb2
namespace Go.Proofs.YtkbaaonchdeneaaGreat
def BA (n:Nat):Nat:=if n=0 then 0 else n.log2+1
theorem D7 (n:Nat):n<2 ^ BA n:=by
 unfold BA;split
 ·omega
 ·exact Nat.lt_log2_self
theorem CQ (n k:Nat) (h:n<2 ^ k):BA n≤k:=by
 unfold BA;split
 ·omega
 ·rename_i hn
  have:=(Nat.log2_lt hn).2 h;omega
theorem bF (n k:Nat) (h:n<2 ^ k) (h1:k=0∨2 ^ (k - 1)≤n):BA n=k:=by
 refine Nat.le_antisymm (CQ n k h) ?_
 rcases h1 with rfl | h1
 ·omega
 ·refine Nat.le_of_not_lt fun hlt=>?_
  have h2:=D7 n;have h3:2 ^ BA n≤2 ^ (k - 1):=Nat.pow_le_pow_right (by omega) (by omega);omega
section
variable {α:Type}
def Bo (l:List α) (i:Nat):List α:=if l.length.testBit i then (l.drop (l.length / 2 ^ (i+1)*2 ^ (i+1))).take (2 ^ i) else []
def setFrom (l:List α) (m:Nat):List (List α):=(List.range (BA l.length)).map fun i=>if i<m then [] else Bo l i
def setB (l:List α):List (List α):=(List.range (BA l.length)).map (Bo l)
theorem SL (l:List α):setFrom l 0=setB l:=by simp [setFrom,setB]
theorem Vk (l:List α):setFrom l (BA l.length)=List.replicate (BA l.length) []:=by
 unfold setFrom;apply List.ext_getElem?
 intro i;by_cases h:i<BA l.length
 ·simp [h]
 ·simp [h]
theorem Og (l:List α) (m:Nat):(setFrom l (m+1)).set m (Bo l m)=setFrom l m:=by
 unfold setFrom;apply List.ext_getElem?
 intro i;rw [List.getElem?_set];by_cases h:i<BA l.length
 ·by_cases hm:m=i
  ·subst hm;simp [h]
  ·have e:(i<m+1)↔i<m:=by omega
   simp [hm,h,e]
 ·simp [h];intro hm;subst hm;omega
theorem SN (l:List α) (m:Nat) (h:l.length.testBit m=false):setFrom l (m+1)=setFrom l m:=by
 rw [←Og l m];symm
 apply List.ext_getElem?
 intro i;rw [List.getElem?_set];split
 ·rename_i hm
  subst hm;split
  ·rename_i h'
   simp [setFrom,Bo,h] at h' ⊢;simp [h']
  ·rename_i h'
   rw [List.getElem?_eq_none (by omega)]
 ·rfl
theorem lJ (n m:Nat):n / 2 ^ m=2*(n / 2 ^ (m+1))+(n.testBit m).toNat:=by
 have h1:n / 2 ^ (m+1)=n / 2 ^ m / 2:=by rw [Nat.pow_succ,Nat.div_div_eq_div_mul]
 have h2:(n.testBit m).toNat=n / 2 ^ m % 2:=by
  rw [Nat.testBit_eq_decide_div_mod_eq];rcases Nat.mod_two_eq_zero_or_one (n / 2 ^ m) with h | h<;>simp [h]
 rw [h1,h2];omega
theorem SQ (n m:Nat) (h:n.testBit m=true):n / 2 ^ m*2 ^ m=n / 2 ^ (m+1)*2 ^ (m+1)+2 ^ m:=by
 rw [lJ n m,h,Nat.pow_succ];simp only [Bool.toNat_true,Nat.add_mul,Nat.one_mul];rw [Nat.mul_comm 2,Nat.mul_assoc,Nat.mul_comm 2]
theorem Ux (n m:Nat) (h:n.testBit m=false):n / 2 ^ m*2 ^ m=n / 2 ^ (m+1)*2 ^ (m+1):=by
 rw [lJ n m,h,Nat.pow_succ];simp only [Bool.toNat_false,Nat.add_zero];rw [Nat.mul_comm 2,Nat.mul_assoc,Nat.mul_comm 2]
theorem Jt (n m:Nat):n - n / 2 ^ m*2 ^ m=n % 2 ^ m:=by
 have:=Nat.div_add_mod n (2 ^ m);rw [Nat.mul_comm] at this;omega
theorem Nh (n m:Nat) (h:n.testBit m=true):n % 2 ^ (m+1)=2 ^ m+n % 2 ^ m:=by
 have h1:=Jt n m;have h2:=Jt n (m+1);have h3:=SQ n m h;have h4:n / 2 ^ m*2 ^ m≤n:=Nat.div_mul_le_self n (2 ^ m);omega
theorem Zl (n m:Nat) (h:n.testBit m=false):n % 2 ^ (m+1)=n % 2 ^ m:=by
 have h1:=Jt n m;have h2:=Jt n (m+1);have h3:=Ux n m h;omega
end
end Go.Proofs.YtkbaaonchdeneaaGreat
namespace Go.Proofs.YtkbaaonchdeneaaGreat
section
variable {α:Type}
theorem Es (l:List α):(setB l).length=BA l.length:=by simp [setB]
theorem FI (l:List α) (i:Nat) (h:i<BA l.length):(setB l)[i]? = some (Bo l i):=by simp [setB,h]
theorem Ew (l:List α) (i:Nat):(Bo l i).length=if l.length.testBit i then 2 ^ i else 0:=by
 unfold Bo;split
 ·rename_i h
  rw [Ba,List.length_drop,Jt,Nh _ _ h];omega
 ·rfl
theorem Oh (l:List α) (i:Nat):Bo l i = []↔l.length.testBit i=false:=by
 rw [←List.length_eq_zero_iff,Ew];split
 ·rename_i h
  have:=Nat.two_pow_pos i;simp [h]
 ·rename_i h
  simpa using h
theorem YF (l:List α) (m:Nat) (h:m≤BA l.length):((setB l).take m).reverse.flatten=l.drop (l.length / 2 ^ m*2 ^ m):=by
 induction m with
 |zero=>simp
 |succ m ih=>
  have h1:=FI l m (by omega);obtain ⟨hlt,he⟩:=AV h1;rw [AZ hlt,he,List.reverse_append,List.reverse_singleton,List.singleton_append,List.flatten_cons,ih (by omega)];unfold Bo;split
  ·rename_i hb
   rw [SQ _ _ hb,←List.drop_drop];exact List.take_append_drop _ _
  ·rename_i hb
   rw [Ux _ _ (by simpa using hb)];rfl
theorem Uy (n t:Nat) (h1:∀j,j<t→n.testBit j=true) (h2:n.testBit t=false) :
 n % 2 ^ (t+1)=2 ^ t - 1∧(n+1) / 2 ^ (t+1)=n / 2 ^ (t+1)∧(∀i,(n+1).testBit i=if i<t then false else if i=t then true else n.testBit i):=by
 have hp:=Nat.two_pow_pos t
 have hm:n % 2 ^ t=2 ^ t - 1:=by
  apply Nat.eq_of_testBit_eq
  intro i;rw [Nat.testBit_mod_two_pow,Nat.testBit_two_pow_sub_one];by_cases hi:i<t
  ·simp [hi,h1 i hi]
  ·simp [hi]
 have hm1:n % 2 ^ (t+1)=2 ^ t - 1:=by rw [Zl n t h2,hm]
 have hd:=Nat.div_add_mod n (2 ^ (t+1));have hpt:2 ^ t<2 ^ (t+1):=Nat.pow_lt_pow_right (by omega) (by omega);have hn1:n+1=2 ^ (t+1)*(n / 2 ^ (t+1))+2 ^ t:=by omega
 have hn0:n=2 ^ (t+1)*(n / 2 ^ (t+1))+(2 ^ t - 1):=by omega
 refine ⟨hm1,?_,fun i=>?_⟩
 ·rw [hn1];rw [Nat.mul_add_div (Nat.two_pow_pos _),Nat.div_eq_of_lt hpt];exact Nat.add_zero _
 ·generalize n / 2 ^ (t+1)=q at *;have e1:(n+1).testBit i=(2 ^ (t+1)*q+2 ^ t).testBit i:=by rw [hn1]
  have e0:n.testBit i=(2 ^ (t+1)*q+(2 ^ t - 1)).testBit i:=by rw [←hn0]
  rw [e1,e0,Nat.testBit_two_pow_mul_add _ hpt,Nat.testBit_two_pow_mul_add _ (by omega)];by_cases hi:i<t+1
  ·simp only [hi,if_true,Nat.testBit_two_pow,Nat.testBit_two_pow_sub_one];by_cases hi':i<t
   ·simp [hi'];omega
   ·have:i=t:=by omega
    subst this;simp
  ·have h3:¬i<t:=by omega
   have h4:i≠t:=by omega
   simp [hi,h3,h4]
theorem Iq (l:List α):(∀j,j<Bl (setB l)→l.length.testBit j=true)∧l.length.testBit (Bl (setB l))=false:=by
 have hle:=Eo (setB l);rw [Es] at hle;constructor
 ·intro j hj;have h1:=FI l j (by omega);have h2:=O9 (setB l) j _ hj h1;rw [ne_eq,Oh] at h2;simpa using h2
 ·by_cases h:Bl (setB l)<BA l.length
  ·have h1:=FI l _ h;have h2:=Oc (setB l) _ h1;rwa [Oh] at h2
  ·have h3:Bl (setB l)=BA l.length:=by omega
   rw [h3];exact Nat.testBit_lt_two_pow (D7 _)
theorem GU (l:List α) (x:α):EF (setB l) x=l.drop (l.length / 2 ^ (Bl (setB l)+1)*2 ^ (Bl (setB l)+1))++[x]∧(EF (setB l) x).length=2 ^ Bl (setB l):=by
 obtain ⟨h1,h2⟩:=Iq l;obtain ⟨h3,h4,h5⟩:=Uy _ _ h1 h2;have hle:=Eo (setB l);rw [Es] at hle;have hp:=Nat.two_pow_pos (Bl (setB l))
 have e:EF (setB l) x=l.drop (l.length / 2 ^ (Bl (setB l)+1)*2 ^ (Bl (setB l)+1))++[x]:=by
  unfold EF;rw [YF l _ hle,Ux _ _ h2]
 refine ⟨e,?_⟩
 rw [e,AY,List.length_drop,Jt,h3];simp only [List.length_singleton];omega
theorem VU (l:List α) (x:α):QZ (setB l) x=setB (l++[x]):=by
 obtain ⟨h1,h2⟩:=Iq l;obtain ⟨h3,h4,h5⟩:=Uy _ _ h1 h2;obtain ⟨hg,hgl⟩:=GU l x;have hle:=Eo (setB l);rw [Es] at hle;have hlen:(l++[x]).length=l.length+1:=by simp
 have hb1:=D7 l.length;have hb2:=D7 (l.length+1);generalize ht:Bl (setB l)=t at *
 have hmax:BA (l.length+1)=max (BA l.length) (t+1):=by
  apply Nat.le_antisymm
  ·apply CQ
   apply Nat.lt_of_not_le
   intro hge
   have hbig:∀i,max (BA l.length) (t+1)≤i→(l.length+1).testBit i=false:=by
    intro i hi;rw [h5 i,if_neg (by omega),if_neg (by omega)];exact Nat.testBit_lt_two_pow (Bc hb1 (Nat.pow_le_pow_right (by omega) (by omega)))
   obtain ⟨i,hi,hbit⟩:=Nat.exists_ge_and_testBit_of_ge_two_pow hge;rw [hbig i hi] at hbit
   cases hbit
  ·apply Nat.max_le.2
   constructor
   ·exact CQ _ _ (by omega)
   ·apply Nat.le_of_not_lt
    intro hlt;have:=h5 t;rw [if_neg (by omega),if_pos rfl] at this;have h6:(l.length+1)<2 ^ t:=Bc hb2 (Nat.pow_le_pow_right (by omega) (by omega));rw [Nat.testBit_lt_two_pow h6] at this
    cases this
 apply List.ext_getElem?
 intro i;unfold QZ;rw [ht];by_cases hi:i<BA (l++[x]).length
 ·rw [FI _ _ hi];rw [hlen] at hi;rcases Nat.lt_trichotomy i t with hit | hit | hit
  ·rw [List.getElem?_append_left (by simpa using hit)]
   have:Bo (l++[x]) i = []:=by
    rw [Oh,hlen,h5 i,if_pos hit]
   rw [this];simp [hit]
  ·subst hit;rw [List.getElem?_append_right (by simp)];simp only [List.length_replicate,Nat.sub_self,List.getElem?_cons_zero];congr 1
   have hbit:(l++[x]).length.testBit i=true:=by rw [hlen,h5 i,if_neg (by omega),if_pos rfl]
   unfold Bo;rw [if_pos hbit,hlen,h4,List.drop_append_of_le_length (Nat.div_mul_le_self _ _),←hg,List.take_of_length_le (by omega)]
  ·rw [List.getElem?_append_right (by simp;omega)];simp only [List.length_replicate];obtain ⟨j,hj⟩:∃j,i - t=j+1:=⟨i - t - 1,by omega⟩;rw [hj,List.getElem?_cons_succ,List.getElem?_drop,show t+1+j=i from by omega];rw [FI l i (by omega)];congr 1
   have hbit:(l++[x]).length.testBit i=l.length.testBit i:=by rw [hlen,h5 i,if_neg (by omega),if_neg (by omega)]
   have hdiv:(l.length+1) / 2 ^ (i+1)=l.length / 2 ^ (i+1):=by
    have e:(2:Nat) ^ (i+1)=2 ^ (t+1)*2 ^ (i - t):=by rw [←Nat.pow_add];congr 1;omega
    rw [e,←Nat.div_div_eq_div_mul,←Nat.div_div_eq_div_mul,h4]
   unfold Bo;rw [hbit,hlen,hdiv];split
   ·rename_i hb
    rw [List.drop_append_of_le_length (Nat.div_mul_le_self _ _),List.take_append_of_le_length];rw [List.length_drop,Jt,Nh _ _ hb];omega
   ·rfl
 ·have hr:(setB (l++[x]))[i]? = none:=List.getElem?_eq_none (by rw [Es];omega);rw [hr];apply List.getElem?_eq_none
  rw [hlen,hmax] at hi;have h7:(List.replicate t []++EF (setB l) x::List.drop (t+1) (setB l)).length=t+((BA l.length - (t+1))+1):=by simp [Es]
  rw [h7];omega
theorem uy:setB ([]:List α) = []:=by simp [setB,BA]
theorem SS (l:List α):(setB l).reverse.flatten=l:=by
 have:=YF l (BA l.length) (Nat.le_refl _);rw [List.take_of_length_le (by rw [Es];exact Nat.le_refl _),Nat.div_eq_of_lt (D7 _)] at this;simpa using this
theorem Uz (l:List α):(setB l).flatten.length=l.length:=by
 have h:=congrArg List.length (SS l)
 have h1:∀(L:List (List α)),L.reverse.flatten.length=L.flatten.length:=by
  intro L;induction L with
  |nil=>rfl
  |cons a L ih=>simp [ih];omega
 rw [h1] at h;exact h
end
end Go.Proofs.YtkbaaonchdeneaaGreat
namespace Go.Proofs.YtkbaaonchdeneaaGreat
section
variable {α:Type} (key:α→Nat)
variable {key} {l:List α}
end
end Go.Proofs.YtkbaaonchdeneaaGreat
namespace Go.Proofs.YtkbaaonchdeneaaGreat
structure Sp where
 lo:Int
 hi:Int
 id:Nat
def JY (lo hi x:Int):Bool:=decide (lo≤x)&&decide (x≤hi)
section
variable {α:Type} (key:α→Nat)
end
section
variable {α:Type} {key:α→Nat} {l:List α}
end
end Go.Proofs.YtkbaaonchdeneaaGreat
namespace Go.Proofs.YtkbaaonchdeneaaGreat
def z64 (x:Int):Prop:=-9223372036854775808≤x∧x≤9223372036854775807
open Go.RowKit
section
variable {α:Type}
structure Fj (K:Kind α) (w:World) (v:Value) (vs:List Value) (ll:List (List α)):Prop where
 list:w.ownsRow 0 K.sT 1 v vs.length vs
 len:vs.length=ll.length
 rows:∀(i:Nat) (u:Value) (l:List α),vs[i]? = some u→ll[i]? = some l→K.row w 0 u l
 away:∀(i:Nat) (u:Value) (k:Nat),vs[i]? = some u→k∈blk u→k∉blk v
 apart:∀(i j:Nat) (u t:Value) (k:Nat),vs[i]? = some u→vs[j]? = some t→k∈blk u→k∈blk t→i=j
def Ey (v:Value) (vs:List Value):List Nat:=blk v++vs.flatMap blk
theorem CB {v:Value} {vs:List Value} {k:Nat}:k∈Ey v vs↔k∈blk v∨∃(i:Nat) (u:Value),vs[i]? = some u∧k∈blk u:=by
 simp only [Ey,List.mem_append,List.mem_flatMap];constructor
 ·rintro (h | ⟨v,hv,hk⟩)
  ·exact .inl h
  ·obtain ⟨i,hi⟩:=List.mem_iff_getElem?.1 hv;exact .inr ⟨i,v,hi,hk⟩
 ·rintro (h | ⟨i,v,hv,hk⟩)
  ·exact .inl h
  ·exact .inr ⟨v,List.mem_of_getElem? hv,hk⟩
theorem Zm {β:Type} {l:List β} {i:Nat} {x:β} (h:l[i]? = some x):i<l.length:=by
 rcases Nat.lt_or_ge i l.length with h' | h'
 ·exact h'
 ·rw [List.getElem?_eq_none h'] at h;cases h
theorem Fj.lt {K:Kind α} {w:World} {v:Value} {vs:List Value} {ll:List (List α)} (h:Fj K w v vs ll):∀k∈Ey v vs,k<w.heap.size:=by
 intro k hk;rw [CB] at hk;rcases hk with hk | ⟨i,u,hu,hk⟩
 ·exact BK h.list k hk
 ·have hl:=Zm hu;exact BK (h.rows i u (ll[i]'(by rw [←h.len];exact hl)) hu (by simp)) k hk
theorem Fj.upd {K:Kind α} {w w':World} {v:Value} {vs:List Value} {ll:List (List α)} (h:Fj K w v vs ll) {F:List Nat} (hu:Bf F w w') (hd:∀k∈Ey v vs,k∉F):Fj K w' v vs ll where
 list:=Bg h.list hu fun k hk=>hd k (CB.2 (.inl hk))
 len:=h.len
 rows:=fun i u l hv hl=>Bg (h.rows i u l hv hl) hu fun k hk=>hd k (CB.2 (.inr ⟨i,u,hv,hk⟩))
 away:=h.away
 apart:=h.apart
theorem Fj.nil {K:Kind α} {w:World}:Fj K w (.slice none 0 0) [] []:=⟨World.ownsRow_nil _ _ _ _,rfl,by simp,by simp,by simp⟩
theorem Fj.at {K:Kind α} {w:World} {A:Option Addr} {N C:Nat} {vs:List Value} {ll:List (List α)} (h0:Fj K w (.slice A N C) vs ll) {k:Nat} (hk:k<ll.length) :
 ∃(g:Nat) (Ak:Option Addr) (Ck:Nat),A=some ⟨g,0,none⟩∧vs[k]? = some (.slice Ak ll[k].length Ck)∧
  w.cell? ⟨g,k,none⟩=some (.slice Ak ll[k].length Ck)∧w.frozen? ⟨g,k,none⟩=false∧K.row w 0 (.slice Ak ll[k].length Ck) ll[k]:=by
 have hk':k<vs.length:=by rw [h0.len];exact hk
 obtain ⟨g,cap,hA,_,_⟩:=h0.list.form (by omega)
 cases hA
 have hv:vs[k]? = some vs[k]:=by simp
 obtain ⟨Ak,Ck,he⟩:=Bv (h0.rows k _ _ hv (by simp [hk];rfl));refine ⟨g,Ak,Ck,rfl,by rw [hv,he],?_,World.ownsRow.frozenAt h0.list k,by rw [←he];exact h0.rows k _ _ hv (by simp [hk])⟩
 rw [World.ownsRow.cellAt h0.list k (by omega),hv,he]
theorem Fj.snoc {K:Kind α} {w w1:World} {v:Value} {vs:List Value} {ll:List (List α)} (h:Fj K w v vs ll) {o:Obj} {A:Option Addr} {C:Nat}
 (HP:DY (w.alloc o) w1 0 K.sT 1 v vs.length vs 1 [.slice none 0 0] A C) :
 Fj K w1 (.slice A (vs.length+1) C) (vs++[.slice none 0 0]) (ll++[[]])∧∀k∈Ey (.slice A (vs.length+1) C) (vs++[.slice none 0 0]),k∈Ey v vs∨w.heap.size≤k:=by
 have hu:Bf (blk v) w w1:=((Bf.refl _ _).alloc _).trans HP.upd
 have hget:∀(i:Nat) (u:Value),(vs++[.slice none 0 0])[i]? = some u→vs[i]? = some u∨u=.slice none 0 0:=by
  intro i u hv;rw [List.getElem?_append] at hv;split at hv
  ·exact .inl hv
  ·right
   have:=List.mem_of_getElem? hv;simpa using this
 have hnew:∀k,k∈blk (.slice A (vs.length+1) C)→k∈blk v∨w.heap.size<k:=by
  intro k hk;rcases HP.at with hb | hb
  ·rw [hb] at hk;exact .inl hk
  ·rw [hb] at hk;simp at hk;right;omega
 have hlt:=h.lt;refine ⟨⟨by simpa using HP.own,by simp [h.len],?_,?_,?_⟩,?_⟩
 ·intro i u l hv hl;rcases hget i u hv with hv' | rfl
  ·have hi:=Zm hv';rw [List.getElem?_append_left (by rw [←h.len];exact hi)] at hl;exact Bg (h.rows i u l hv' hl) hu fun k hk=>h.away i u k hv' hk
  ·have hi:=Zm hl;rcases Nat.lt_or_ge i vs.length with h1 | h1
   ·rw [List.getElem?_append_left h1] at hv;rw [List.getElem?_append_left (by rw [←h.len];exact h1)] at hl;exact Bg (h.rows i _ l hv hl) hu fun k hk=>h.away i _ k hv hk
   ·rw [List.getElem?_append_right (by rw [←h.len];exact h1)] at hl;have:=List.mem_of_getElem? hl;simp at this;subst this;exact World.ownsRow_nil _ _ _ _
 ·intro i u k hv hk hc;rcases hget i u hv with hv | rfl
  ·rcases hnew k hc with h1 | h1
   ·exact h.away i u k hv hk h1
   ·have:=hlt k (CB.2 (.inr ⟨i,u,hv,hk⟩));omega
  ·simp [blk] at hk
 ·intro i j u t k hv ht hk hk';rcases hget i u hv with hv | rfl
  ·rcases hget j t ht with ht | rfl
   ·exact h.apart i j u t k hv ht hk hk'
   ·simp [blk] at hk'
  ·simp [blk] at hk
 ·intro k hk;rw [CB] at hk;rcases hk with hk | ⟨i,u,hv,hk⟩
  ·rcases hnew k hk with h1 | h1
   ·exact .inl (CB.2 (.inl h1))
   ·right;omega
  ·rcases hget i u hv with hv | rfl
   ·exact .inl (CB.2 (.inr ⟨i,u,hv,hk⟩))
   ·simp [blk] at hk
theorem Fj.put {K:Kind α} {w:World} {g N C:Nat} {vs:List Value} {ll:List (List α)} (h:Fj K w (.slice (some ⟨g,0,none⟩) N C) vs ll) (hN:N=vs.length)
 (i:Nat) (v:Value) (l:List α) (hrow:K.row w 0 v l) (hap:∀k∈blk v,k≠g∧∀(j:Nat) (u:Value),j≠i→vs[j]? = some u→k∉blk u) :
 Fj K (w.setCell ⟨g,i,none⟩ v) (.slice (some ⟨g,0,none⟩) N C) (vs.set i v) (ll.set i l):=by
 subst hN
 have hget:∀(j:Nat) (u:Value),(vs.set i v)[j]? = some u→(i=j∧u=v)∨(i≠j∧vs[j]? = some u):=by
  intro j u hu;rw [List.getElem?_set] at hu;split at hu
  ·rename_i he
   split at hu
   ·simp at hu;exact .inl ⟨he,hu.symm⟩
   ·cases hu
  ·rename_i he
   exact .inr ⟨he,hu⟩
 refine ⟨?_,by simp [h.len],?_,?_,?_⟩
 ·have:=(World.ownsRow.stored h.list i v).1;rw [show (vs.set i v).length=vs.length from by simp];exact this
 ·intro j u m hu hm;rcases hget j u hu with ⟨e1,e2⟩ | ⟨hne,hu⟩
  ·subst e1 e2;rw [List.getElem?_set] at hm;simp only [if_true] at hm;split at hm
   ·simp at hm;subst hm;exact Bz hrow (fun hk=>(hap g hk).1 rfl) _
   ·cases hm
  ·rw [List.getElem?_set_ne hne] at hm;exact Bz (h.rows j u m hu hm) (fun hk=>h.away j u g hu hk (by simp [blk])) _
 ·intro j u k hu hk;rcases hget j u hu with ⟨e1,e2⟩ | ⟨hne,hu⟩
  ·subst e2;simp [blk];exact (hap k hk).1
  ·exact h.away j u k hu hk
 ·intro j m u t k hu ht hk hk';rcases hget j u hu with ⟨e1,e2⟩ | ⟨hne,hu2⟩
  ·rcases hget m t ht with ⟨e3,e4⟩ | ⟨hne',ht2⟩
   ·rw [←e1,←e3]
   ·rw [e2] at hk;exact ((hap k hk).2 m t (Ne.symm hne') ht2 hk').elim
  ·rcases hget m t ht with ⟨e3,e4⟩ | ⟨hne',ht2⟩
   ·rw [e4] at hk';exact ((hap k hk').2 j u (Ne.symm hne) hu2 hk).elim
   ·exact h.apart j m u t k hu2 ht2 hk hk'
end
def Ic (w:World) (q:Nat) (l:Array Value) (t:TypeId):Prop:=w.heap[q]? = some (.cells l t (0,0))
theorem Ic.cell {w:World} {q:Nat} {l:Array Value} {t:TypeId} (h:Ic w q l t) (k:Nat):w.cell? ⟨q,k,none⟩=l[k]?:=by
 unfold Ic at h;simp only [World.cell?,h];rfl
theorem Ic.frozen {w:World} {q:Nat} {l:Array Value} {t:TypeId} (h:Ic w q l t) (k:Nat):w.frozen? ⟨q,k,none⟩=false:=by
 unfold Ic at h;simp [World.frozen?,h]
theorem Ic.lt {w:World} {q:Nat} {l:Array Value} {t:TypeId} (h:Ic w q l t):q<w.heap.size:=lt_of_block h
theorem Ic.upd {F:List Nat} {w w':World} {q:Nat} {l:Array Value} {t:TypeId} (h:Ic w q l t) (hu:Bf F w w') (hq:q∉F):Ic w' q l t:=by
 unfold Ic at h ⊢;rw [hu.block q (lt_of_block h) hq,h]
theorem Ic.Bh {w w':World} {q:Nat} {l:Array Value} {t:TypeId} (h:Ic w q l t) (hu:Bf [] w w'):Ic w' q l t:=h.upd hu (by simp)
theorem Ic.set {w:World} {q:Nat} {l:Array Value} {t:TypeId} (h:Ic w q l t) (k:Nat) (u:Value):Ic (w.setCell ⟨q,k,none⟩ u) q (l.setIfInBounds k u) t:=heap_setCell_same w q k l t u h
theorem Ic.cells2 {w:World} {q:Nat} {a b:Value} {t:TypeId} (h:Ic w q #[a,b] t):w.cell? ⟨q,0,none⟩=some a∧w.cell? ⟨q,1,none⟩=some b:=⟨h.cell 0,h.cell 1⟩
theorem Ic.cells3 {w:World} {q:Nat} {a b c:Value} {t:TypeId} (h:Ic w q #[a,b,c] t):w.cell? ⟨q,0,none⟩=some a∧w.cell? ⟨q,1,none⟩=some b∧w.cell? ⟨q,2,none⟩=some c:=⟨h.cell 0,h.cell 1,h.cell 2⟩
theorem Ic.cells5 {w:World} {q:Nat} {a b c d e:Value} {t:TypeId} (h:Ic w q #[a,b,c,d,e] t):w.cell? ⟨q,0,none⟩=some a∧w.cell? ⟨q,1,none⟩=some b∧w.cell? ⟨q,2,none⟩=some c∧w.cell? ⟨q,3,none⟩=some d∧w.cell? ⟨q,4,none⟩=some e:=⟨h.cell 0,h.cell 1,h.cell 2,h.cell 3,h.cell 4⟩
theorem BJ (w:World) (a:Array Value) (t:TypeId):∃W,W=w.alloc (.cells a t)∧Bf [] w W∧Ic W w.heap.size a t:=
 ⟨_,rfl,(Bf.refl _ _).alloc _,heap_alloc_new w _⟩
theorem Pj (w:World) (a b:Array Value) (t u:TypeId):∃W,W=(w.alloc (.cells a t)).alloc (.cells b u)∧Bf [] w W∧Ic W w.heap.size a t∧Ic W (w.heap.size+1) b u:=by
 refine ⟨_,rfl,((Bf.refl _ _).alloc _).alloc _,(show Ic (w.alloc (.cells a t)) w.heap.size a t from heap_alloc_new w _).upd ((Bf.refl [] _).alloc _) (by simp),?_⟩
 have:=heap_alloc_new (w.alloc (.cells a t)) (.cells b u);unfold Ic;simpa using this
