/- Buckets, plainly: what Set makes; how it goes bucket by bucket. Buckets, plainly: what is added -/
import Derived.Test.YtkbaaonchdeneaaGreatPc1
import Derived.Test.YtkbaaonchdeneaaGreatPc2
namespace Go.Proofs.YtkbaaonchdeneaaGreat
section
def BA (n:Nat):Nat:=if n=0 then 0 else n.log2+1
theorem Di (n:Nat):n<2 ^ BA n:=by
 unfold BA;split
 ·omega
 ·exact Nat.lt_log2_self
theorem BP (n k:Nat) (h:n<2 ^ k):BA n<=k:=by
 unfold BA;split
 ·omega
 ·rename_i hn
  have:=(Nat.log2_lt hn).2 h;omega
theorem X8 (n k:Nat) (h:n<2 ^ k) (h1:k=0\/2 ^ (k - 1)<=n):BA n=k:=by
 refine Nat.le_antisymm (BP n k h) ?_
 rcases h1 with rfl | h1
 ·omega
 ·refine Nat.le_of_not_lt λhlt=>?_
  have h2:=Di n;have h3:2 ^ BA n<=2 ^ (k - 1):=Nat.pow_le_pow_right (by omega) (by omega);omega
section
variable {α:Type}
def Bq (l:List α) (i:Nat):List α:=if l.length.testBit i then (l.drop (l.length / 2 ^ (i+1)*2 ^ (i+1))).take (2 ^ i) else []
def setFrom (l:List α) (m:Nat):List (List α):=(List.range (BA l.length)).map λi=>if i<m then [] else Bq l i
def setB (l:List α):List (List α):=(List.range (BA l.length)).map (Bq l)
theorem OE (l:List α):setFrom l 0=setB l:=by simp [setFrom,setB]
theorem QE (l:List α):setFrom l (BA l.length)=List.replicate (BA l.length) []:=by
 unfold setFrom;apply List.ext_getElem?
 intro i;by_cases h:i<BA l.length
 ·simp [h]
 ·simp [h]
theorem JV (l:List α) (m:Nat):(setFrom l (m+1)).set m (Bq l m)=setFrom l m:=by
 unfold setFrom;apply List.ext_getElem?
 intro i;rw [List.getElem?_set];by_cases h:i<BA l.length
 ·by_cases hm:m=i
  ·subst hm;simp [h]
  ·have e:(i<m+1)↔i<m:=by omega
   simp [hm,h,e]
 ·simp [h];intro hm;subst hm;omega
theorem OG (l:List α) (m:Nat) (h:l.length.testBit m=false):setFrom l (m+1)=setFrom l m:=by
 rw [<-JV l m];symm
 apply List.ext_getElem?
 intro i;rw [List.getElem?_set];split
 ·rename_i hm
  subst hm;split
  ·rename_i h'
   simp [setFrom,Bq,h] at h' |-;simp [h']
  ·rename_i h'
   rw [List.getElem?_eq_none (by omega)]
 ·rfl
theorem dZ (n m:Nat):n / 2 ^ m=2*(n / 2 ^ (m+1))+(n.testBit m).toNat:=by
 have h1:n / 2 ^ (m+1)=n / 2 ^ m / 2:=by rw [Nat.pow_succ,Nat.div_div_eq_div_mul]
 have h2:(n.testBit m).toNat=n / 2 ^ m % 2:=by
  rw [Nat.testBit_eq_decide_div_mod_eq];rcases Nat.mod_two_eq_zero_or_one (n / 2 ^ m) with h | h<;>simp [h]
 rw [h1,h2];omega
theorem OH (n m:Nat) (h:n.testBit m=true):n / 2 ^ m*2 ^ m=n / 2 ^ (m+1)*2 ^ (m+1)+2 ^ m:=by
 rw [dZ n m,h,Nat.pow_succ];simp only [Bool.toNat_true,Nat.add_mul,Nat.one_mul];rw [Nat.mul_comm 2,Nat.mul_assoc,Nat.mul_comm 2]
theorem PW (n m:Nat) (h:n.testBit m=false):n / 2 ^ m*2 ^ m=n / 2 ^ (m+1)*2 ^ (m+1):=by
 rw [dZ n m,h,Nat.pow_succ];simp only [Bool.toNat_false,Nat.add_zero];rw [Nat.mul_comm 2,Nat.mul_assoc,Nat.mul_comm 2]
theorem G5 (n m:Nat):n - n / 2 ^ m*2 ^ m=n % 2 ^ m:=by
 have:=Nat.div_add_mod n (2 ^ m);rw [Nat.mul_comm] at this;omega
theorem Jv (n m:Nat) (h:n.testBit m=true):n % 2 ^ (m+1)=2 ^ m+n % 2 ^ m:=by
 have h1:=G5 n m;have h2:=G5 n (m+1);have h3:=OH n m h;have h4:n / 2 ^ m*2 ^ m<=n:=Nat.div_mul_le_self n (2 ^ m);omega
theorem WL (n m:Nat) (h:n.testBit m=false):n % 2 ^ (m+1)=n % 2 ^ m:=by
 have h1:=G5 n m;have h2:=G5 n (m+1);have h3:=PW n m h;omega
end
end
section
section
variable {α:Type}
theorem D6 (l:List α):(setB l).length=BA l.length:=by simp [setB]
theorem EC (l:List α) (i:Nat) (h:i<BA l.length):(setB l)[i]? = some (Bq l i):=by simp [setB,h]
theorem D7 (l:List α) (i:Nat):(Bq l i).length=if l.length.testBit i then 2 ^ i else 0:=by
 unfold Bq;split
 ·rename_i h
  rw [Bf,List.length_drop,G5,Jv _ _ h];omega
 ·rfl
theorem JW (l:List α) (i:Nat):Bq l i = []↔l.length.testBit i=false:=by
 rw [<-List.length_eq_zero_iff,D7];split
 ·rename_i h
  have:=Nat.two_pow_pos i;simp [h]
 ·rename_i h
  simpa using h
theorem Vu (l:List α) (m:Nat) (h:m<=BA l.length):((setB l).take m).reverse.flatten=l.drop (l.length / 2 ^ m*2 ^ m):=by
 induction m with
 |zero=>simp
 |succ m ih=>
  have h1:=EC l m (by omega);obtain ⟨hlt,he⟩:=AZ h1;rw [Bd hlt,he,List.reverse_append,List.reverse_singleton,List.singleton_append,List.flatten_cons,ih (by omega)];unfold Bq;split
  ·rename_i hb
   rw [OH _ _ hb,<-List.drop_drop];exact List.take_append_drop _ _
  ·rename_i hb
   rw [PW _ _ (by simpa using hb)];rfl
theorem PX (n t:Nat) (h1:∀j,j<t->n.testBit j=true) (h2:n.testBit t=false) :
 n % 2 ^ (t+1)=2 ^ t - 1/\(n+1) / 2 ^ (t+1)=n / 2 ^ (t+1)/\(∀i,(n+1).testBit i=if i<t then false else if i=t then true else n.testBit i):=by
 have hp:=Nat.two_pow_pos t
 have hm:n % 2 ^ t=2 ^ t - 1:=by
  apply Nat.eq_of_testBit_eq
  intro i;rw [Nat.testBit_mod_two_pow,Nat.testBit_two_pow_sub_one];by_cases hi:i<t
  ·simp [hi,h1 i hi]
  ·simp [hi]
 have hm1:n % 2 ^ (t+1)=2 ^ t - 1:=by rw [WL n t h2,hm]
 have hd:=Nat.div_add_mod n (2 ^ (t+1));have hpt:2 ^ t<2 ^ (t+1):=Nat.pow_lt_pow_right (by omega) (by omega);have hn1:n+1=2 ^ (t+1)*(n / 2 ^ (t+1))+2 ^ t:=by omega
 have hn0:n=2 ^ (t+1)*(n / 2 ^ (t+1))+(2 ^ t - 1):=by omega
 refine ⟨hm1,?_,λi=>?_⟩
 ·rw [hn1];rw [Nat.mul_add_div (Nat.two_pow_pos _),Nat.div_eq_of_lt hpt];exact Nat.add_zero _
 ·generalize n / 2 ^ (t+1)=q at *;have e1:(n+1).testBit i=(2 ^ (t+1)*q+2 ^ t).testBit i:=by rw [hn1]
  have e0:n.testBit i=(2 ^ (t+1)*q+(2 ^ t - 1)).testBit i:=by rw [<-hn0]
  rw [e1,e0,Nat.testBit_two_pow_mul_add _ hpt,Nat.testBit_two_pow_mul_add _ (by omega)];by_cases hi:i<t+1
  ·simp only [hi,if_true,Nat.testBit_two_pow,Nat.testBit_two_pow_sub_one];by_cases hi':i<t
   ·simp [hi'];omega
   ·have:i=t:=by omega
    subst this;simp
  ·have h3:¬i<t:=by omega
   have h4:i≠t:=by omega
   simp [hi,h3,h4]
theorem IZ (l:List α):(∀j,j<Bv (setB l)->l.length.testBit j=true)/\l.length.testBit (Bv (setB l))=false:=by
 have hle:=DT (setB l);rw [D6] at hle;constructor
 ·intro j hj;have h1:=EC l j (by omega);have h2:=Lm (setB l) j _ hj h1;rw [ne_eq,JW] at h2;simpa using h2
 ·by_cases h:Bv (setB l)<BA l.length
  ·have h1:=EC l _ h;have h2:=JR (setB l) _ h1;rwa [JW] at h2
  ·have h3:Bv (setB l)=BA l.length:=by omega
   rw [h3];exact Nat.testBit_lt_two_pow (Di _)
theorem Fz (l:List α) (x:α):Ec (setB l) x=l.drop (l.length / 2 ^ (Bv (setB l)+1)*2 ^ (Bv (setB l)+1))++[x]/\(Ec (setB l) x).length=2 ^ Bv (setB l):=by
 obtain ⟨h1,h2⟩:=IZ l;obtain ⟨h3,h4,h5⟩:=PX _ _ h1 h2;have hle:=DT (setB l);rw [D6] at hle;have hp:=Nat.two_pow_pos (Bv (setB l))
 have e:Ec (setB l) x=l.drop (l.length / 2 ^ (Bv (setB l)+1)*2 ^ (Bv (setB l)+1))++[x]:=by
  unfold Ec;rw [Vu l _ hle,PW _ _ h2]
 refine ⟨e,?_⟩
 rw [e,Bc,List.length_drop,G5,h3];simp only [List.length_singleton];omega
theorem RH (l:List α) (x:α):Nu (setB l) x=setB (l++[x]):=by
 obtain ⟨h1,h2⟩:=IZ l;obtain ⟨h3,h4,h5⟩:=PX _ _ h1 h2;obtain ⟨hg,hgl⟩:=Fz l x;have hle:=DT (setB l);rw [D6] at hle;have hlen:(l++[x]).length=l.length+1:=by simp
 have hb1:=Di l.length;have hb2:=Di (l.length+1);generalize ht:Bv (setB l)=t at *
 have hmax:BA (l.length+1)=max (BA l.length) (t+1):=by
  apply Nat.le_antisymm
  ·apply BP
   apply Nat.lt_of_not_le
   intro hge
   have hbig:∀i,max (BA l.length) (t+1)<=i->(l.length+1).testBit i=false:=by
    intro i hi;rw [h5 i,if_neg (by omega),if_neg (by omega)];exact Nat.testBit_lt_two_pow (Bg hb1 (Nat.pow_le_pow_right (by omega) (by omega)))
   obtain ⟨i,hi,hbit⟩:=Nat.exists_ge_and_testBit_of_ge_two_pow hge;rw [hbig i hi] at hbit
   cases hbit
  ·apply Nat.max_le.2
   constructor
   ·exact BP _ _ (by omega)
   ·apply Nat.le_of_not_lt
    intro hlt;have:=h5 t;rw [if_neg (by omega),if_pos rfl] at this;have h6:(l.length+1)<2 ^ t:=Bg hb2 (Nat.pow_le_pow_right (by omega) (by omega));rw [Nat.testBit_lt_two_pow h6] at this
    cases this
 apply List.ext_getElem?
 intro i;unfold Nu;rw [ht];by_cases hi:i<BA (l++[x]).length
 ·rw [EC _ _ hi];rw [hlen] at hi;rcases Nat.lt_trichotomy i t with hit | hit | hit
  ·rw [List.getElem?_append_left (by simpa using hit)]
   have:Bq (l++[x]) i = []:=by
    rw [JW,hlen,h5 i,if_pos hit]
   rw [this];simp [hit]
  ·subst hit;rw [List.getElem?_append_right (by simp)];simp only [List.length_replicate,Nat.sub_self,List.getElem?_cons_zero];congr 1
   have hbit:(l++[x]).length.testBit i=true:=by rw [hlen,h5 i,if_neg (by omega),if_pos rfl]
   unfold Bq;rw [if_pos hbit,hlen,h4,List.drop_append_of_le_length (Nat.div_mul_le_self _ _),<-hg,List.take_of_length_le (by omega)]
  ·rw [List.getElem?_append_right (by simp;omega)];simp only [List.length_replicate];obtain ⟨j,hj⟩:∃j,i - t=j+1:=⟨i - t - 1,by omega⟩;rw [hj,List.getElem?_cons_succ,List.getElem?_drop,show t+1+j=i from by omega];rw [EC l i (by omega)];congr 1
   have hbit:(l++[x]).length.testBit i=l.length.testBit i:=by rw [hlen,h5 i,if_neg (by omega),if_neg (by omega)]
   have hdiv:(l.length+1) / 2 ^ (i+1)=l.length / 2 ^ (i+1):=by
    have e:(2:Nat) ^ (i+1)=2 ^ (t+1)*2 ^ (i - t):=by rw [<-Nat.pow_add];congr 1;omega
    rw [e,<-Nat.div_div_eq_div_mul,<-Nat.div_div_eq_div_mul,h4]
   unfold Bq;rw [hbit,hlen,hdiv];split
   ·rename_i hb
    rw [List.drop_append_of_le_length (Nat.div_mul_le_self _ _),List.take_append_of_le_length];rw [List.length_drop,G5,Jv _ _ hb];omega
   ·rfl
 ·have hr:(setB (l++[x]))[i]? = none:=List.getElem?_eq_none (by rw [D6];omega);rw [hr];apply List.getElem?_eq_none
  rw [hlen,hmax] at hi;have h7:(List.replicate t []++Ec (setB l) x::List.drop (t+1) (setB l)).length=t+((BA l.length - (t+1))+1):=by simp [D6]
  rw [h7];omega
theorem oP:setB ([]:List α) = []:=by simp [setB,BA]
theorem OI (l:List α):(setB l).reverse.flatten=l:=by
 have:=Vu l (BA l.length) (Nat.le_refl _);rw [List.take_of_length_le (by rw [D6];exact Nat.le_refl _),Nat.div_eq_of_lt (Di _)] at this;simpa using this
theorem PY (l:List α):(setB l).flatten.length=l.length:=by
 have h:=congrArg List.length (OI l)
 have h1:∀(L:List (List α)),L.reverse.flatten.length=L.flatten.length:=by
  intro L;induction L with
  |nil=>rfl
  |cons a L ih=>simp [ih];omega
 rw [h1] at h;exact h
end
end
section
section
variable {α:Type} (key:α->Nat)
variable {key} {l:List α}
end
end
section
structure Sp where
 lo:Int
 hi:Int
 id:Nat
def Es (lo hi x:Int):Bool:=decide (lo<=x)&&decide (x<=hi)
section
variable {α:Type} (key:α->Nat)
end
section
variable {α:Type} {key:α->Nat} {l:List α}
end
end
section
def z64 (x:Int):Prop:=-9223372036854775808<=x/\x<=9223372036854775807
open Go.RowKit
section
variable {α:Type}
structure Et (K:Kind α) (w:World) (v:Value) (vs:List Value) (ll:List (List α)):Prop where
 list:w.ownsRow 0 K.sT 1 v vs.length vs
 len:vs.length=ll.length
 rows:∀(i:Nat) (u:Value) (l:List α),vs[i]? = some u->ll[i]? = some l->K.row w 0 u l
 away:∀(i:Nat) (u:Value) (k:Nat),vs[i]? = some u->k∈blk u->k∉blk v
 apart:∀(i j:Nat) (u t:Value) (k:Nat),vs[i]? = some u->vs[j]? = some t->k∈blk u->k∈blk t->i=j
def D8 (v:Value) (vs:List Value):List Nat:=blk v++vs.flatMap blk
theorem BQ {v:Value} {vs:List Value} {k:Nat}:k∈D8 v vs↔k∈blk v\/∃(i:Nat) (u:Value),vs[i]? = some u/\k∈blk u:=by
 simp only [D8,List.mem_append,List.mem_flatMap];constructor
 ·rintro (h | ⟨v,hv,hk⟩)
  ·exact .inl h
  ·obtain ⟨i,hi⟩:=List.mem_iff_getElem?.1 hv;exact .inr ⟨i,v,hi,hk⟩
 ·rintro (h | ⟨i,v,hv,hk⟩)
  ·exact .inl h
  ·exact .inr ⟨v,List.mem_of_getElem? hv,hk⟩
theorem WM {β:Type} {l:List β} {i:Nat} {x:β} (h:l[i]? = some x):i<l.length:=by
 rcases Nat.lt_or_ge i l.length with h' | h'
 ·exact h'
 ·rw [List.getElem?_eq_none h'] at h;cases h
theorem Et.lt {K:Kind α} {w:World} {v:Value} {vs:List Value} {ll:List (List α)} (h:Et K w v vs ll):∀k∈D8 v vs,k<w.heap.size:=by
 intro k hk;rw [BQ] at hk;rcases hk with hk | ⟨i,u,hu,hk⟩
 ·exact BJ h.list k hk
 ·have hl:=WM hu;exact BJ (h.rows i u (ll[i]'(by rw [<-h.len];exact hl)) hu (by simp)) k hk
theorem Et.upd {K:Kind α} {w w':World} {v:Value} {vs:List Value} {ll:List (List α)} (h:Et K w v vs ll) {F:List Nat} (hu:Bj F w w') (hd:∀k∈D8 v vs,k∉F):Et K w' v vs ll where
 list:=Bl h.list hu λk hk=>hd k (BQ.2 (.inl hk))
 len:=h.len
 rows:=λi u l hv hl=>Bl (h.rows i u l hv hl) hu λk hk=>hd k (BQ.2 (.inr ⟨i,u,hv,hk⟩))
 away:=h.away
 apart:=h.apart
theorem Et.nil {K:Kind α} {w:World}:Et K w (.slice none 0 0) [] []:=⟨World.ownsRow_nil _ _ _ _,rfl,by simp,by simp,by simp⟩
theorem Et.at {K:Kind α} {w:World} {A:Option Addr} {N C:Nat} {vs:List Value} {ll:List (List α)} (h0:Et K w (.slice A N C) vs ll) {k:Nat} (hk:k<ll.length) :
 ∃(g:Nat) (Ak:Option Addr) (Ck:Nat),A=some ⟨g,0,none⟩/\vs[k]? = some (.slice Ak ll[k].length Ck)/\
  w.cell? ⟨g,k,none⟩=some (.slice Ak ll[k].length Ck)/\w.frozen? ⟨g,k,none⟩=false/\K.row w 0 (.slice Ak ll[k].length Ck) ll[k]:=by
 have hk':k<vs.length:=by rw [h0.len];exact hk
 obtain ⟨g,cap,hA,_,_⟩:=h0.list.form (by omega)
 cases hA
 have hv:vs[k]? = some vs[k]:=by simp
 obtain ⟨Ak,Ck,he⟩:=BD (h0.rows k _ _ hv (by simp [hk];rfl));refine ⟨g,Ak,Ck,rfl,by rw [hv,he],?_,World.ownsRow.frozenAt h0.list k,by rw [<-he];exact h0.rows k _ _ hv (by simp [hk])⟩
 rw [World.ownsRow.cellAt h0.list k (by omega),hv,he]
theorem Et.snoc {K:Kind α} {w w1:World} {v:Value} {vs:List Value} {ll:List (List α)} (h:Et K w v vs ll) {o:Obj} {A:Option Addr} {C:Nat}
 (HP:DK (w.alloc o) w1 0 K.sT 1 v vs.length vs 1 [.slice none 0 0] A C) :
 Et K w1 (.slice A (vs.length+1) C) (vs++[.slice none 0 0]) (ll++[[]])/\∀k∈D8 (.slice A (vs.length+1) C) (vs++[.slice none 0 0]),k∈D8 v vs\/w.heap.size<=k:=by
 have hu:Bj (blk v) w w1:=((Bj.refl _ _).alloc _).trans HP.upd
 have hget:∀(i:Nat) (u:Value),(vs++[.slice none 0 0])[i]? = some u->vs[i]? = some u\/u=.slice none 0 0:=by
  intro i u hv;rw [List.getElem?_append] at hv;split at hv
  ·exact .inl hv
  ·right
   have:=List.mem_of_getElem? hv;simpa using this
 have hnew:∀k,k∈blk (.slice A (vs.length+1) C)->k∈blk v\/w.heap.size<k:=by
  intro k hk;rcases HP.at with hb | hb
  ·rw [hb] at hk;exact .inl hk
  ·rw [hb] at hk;simp at hk;right;omega
 have hlt:=h.lt;refine ⟨⟨by simpa using HP.own,by simp [h.len],?_,?_,?_⟩,?_⟩
 ·intro i u l hv hl;rcases hget i u hv with hv' | rfl
  ·have hi:=WM hv';rw [List.getElem?_append_left (by rw [<-h.len];exact hi)] at hl;exact Bl (h.rows i u l hv' hl) hu λk hk=>h.away i u k hv' hk
  ·have hi:=WM hl;rcases Nat.lt_or_ge i vs.length with h1 | h1
   ·rw [List.getElem?_append_left h1] at hv;rw [List.getElem?_append_left (by rw [<-h.len];exact h1)] at hl;exact Bl (h.rows i _ l hv hl) hu λk hk=>h.away i _ k hv hk
   ·rw [List.getElem?_append_right (by rw [<-h.len];exact h1)] at hl;have:=List.mem_of_getElem? hl;simp at this;subst this;exact World.ownsRow_nil _ _ _ _
 ·intro i u k hv hk hc;rcases hget i u hv with hv | rfl
  ·rcases hnew k hc with h1 | h1
   ·exact h.away i u k hv hk h1
   ·have:=hlt k (BQ.2 (.inr ⟨i,u,hv,hk⟩));omega
  ·simp [blk] at hk
 ·intro i j u t k hv ht hk hk';rcases hget i u hv with hv | rfl
  ·rcases hget j t ht with ht | rfl
   ·exact h.apart i j u t k hv ht hk hk'
   ·simp [blk] at hk'
  ·simp [blk] at hk
 ·intro k hk;rw [BQ] at hk;rcases hk with hk | ⟨i,u,hv,hk⟩
  ·rcases hnew k hk with h1 | h1
   ·exact .inl (BQ.2 (.inl h1))
   ·right;omega
  ·rcases hget i u hv with hv | rfl
   ·exact .inl (BQ.2 (.inr ⟨i,u,hv,hk⟩))
   ·simp [blk] at hk
theorem Et.put {K:Kind α} {w:World} {g N C:Nat} {vs:List Value} {ll:List (List α)} (h:Et K w (.slice (some ⟨g,0,none⟩) N C) vs ll) (hN:N=vs.length)
 (i:Nat) (v:Value) (l:List α) (hrow:K.row w 0 v l) (hap:∀k∈blk v,k≠g/\∀(j:Nat) (u:Value),j≠i->vs[j]? = some u->k∉blk u) :
 Et K (w.setCell ⟨g,i,none⟩ v) (.slice (some ⟨g,0,none⟩) N C) (vs.set i v) (ll.set i l):=by
 subst hN
 have hget:∀(j:Nat) (u:Value),(vs.set i v)[j]? = some u->(i=j/\u=v)\/(i≠j/\vs[j]? = some u):=by
  intro j u hu;rw [List.getElem?_set] at hu;split at hu
  ·rename_i he
   split at hu
   ·simp at hu;exact .inl ⟨he,hu.symm⟩
   ·cases hu
  ·rename_i he
   exact .inr ⟨he,hu⟩
 refine ⟨?_,by simp [h.len],?_,?_,?_⟩
 ·have:=(World.ownsRow.stored h.list i v).1;rw [show (vs.set i v).length=vs.length from by simp];exact this
 ·intro j u m hu hm;rcases hget j u hu with ⟨e1,e2⟩ | ⟨hne,hu⟩
  ·subst e1 e2;rw [List.getElem?_set] at hm;simp only [if_true] at hm;split at hm
   ·simp at hm;subst hm;exact BG hrow (λhk=>(hap g hk).1 rfl) _
   ·cases hm
  ·rw [List.getElem?_set_ne hne] at hm;exact BG (h.rows j u m hu hm) (λhk=>h.away j u g hu hk (by simp [blk])) _
 ·intro j u k hu hk;rcases hget j u hu with ⟨e1,e2⟩ | ⟨hne,hu⟩
  ·subst e2;simp [blk];exact (hap k hk).1
  ·exact h.away j u k hu hk
 ·intro j m u t k hu ht hk hk';rcases hget j u hu with ⟨e1,e2⟩ | ⟨hne,hu2⟩
  ·rcases hget m t ht with ⟨e3,e4⟩ | ⟨hne',ht2⟩
   ·rw [<-e1,<-e3]
   ·rw [e2] at hk;exact ((hap k hk).2 m t (Ne.symm hne') ht2 hk').elim
  ·rcases hget m t ht with ⟨e3,e4⟩ | ⟨hne',ht2⟩
   ·rw [e4] at hk';exact ((hap k hk').2 j u (Ne.symm hne) hu2 hk).elim
   ·exact h.apart j m u t k hu2 ht2 hk hk'
end
def JX (w:World) (q:Nat) (l:Array Value) (t:TypeId):Prop:=w.heap[q]? = some (.cells l t (0,0))
theorem JX.cell {w:World} {q:Nat} {l:Array Value} {t:TypeId} (h:JX w q l t) (k:Nat):w.cell? ⟨q,k,none⟩=l[k]?:=by
 unfold JX at h;simp only [World.cell?,h];rfl
theorem JX.frozen {w:World} {q:Nat} {l:Array Value} {t:TypeId} (h:JX w q l t) (k:Nat):w.frozen? ⟨q,k,none⟩=false:=by
 unfold JX at h;simp [World.frozen?,h]
theorem JX.lt {w:World} {q:Nat} {l:Array Value} {t:TypeId} (h:JX w q l t):q<w.heap.size:=lt_of_block h
theorem JX.upd {F:List Nat} {w w':World} {q:Nat} {l:Array Value} {t:TypeId} (h:JX w q l t) (hu:Bj F w w') (hq:q∉F):JX w' q l t:=by
 unfold JX at h |-;rw [hu.block q (lt_of_block h) hq,h]
theorem JX.BF {w w':World} {q:Nat} {l:Array Value} {t:TypeId} (h:JX w q l t) (hu:Bj [] w w'):JX w' q l t:=h.upd hu (by simp)
theorem JX.set {w:World} {q:Nat} {l:Array Value} {t:TypeId} (h:JX w q l t) (k:Nat) (u:Value):JX (w.setCell ⟨q,k,none⟩ u) q (l.setIfInBounds k u) t:=heap_setCell_same w q k l t u h
theorem JX.cells2 {w:World} {q:Nat} {a b:Value} {t:TypeId} (h:JX w q #[a,b] t):w.cell? q=some a/\w.cell? ⟨q,1,none⟩=some b:=⟨h.cell 0,h.cell 1⟩
theorem JX.cells3 {w:World} {q:Nat} {a b c:Value} {t:TypeId} (h:JX w q #[a,b,c] t):w.cell? q=some a/\w.cell? ⟨q,1,none⟩=some b/\w.cell? ⟨q,2,none⟩=some c:=⟨h.cell 0,h.cell 1,h.cell 2⟩
theorem JX.cells5 {w:World} {q:Nat} {a b c d e:Value} {t:TypeId} (h:JX w q #[a,b,c,d,e] t):w.cell? q=some a/\w.cell? ⟨q,1,none⟩=some b/\w.cell? ⟨q,2,none⟩=some c/\w.cell? ⟨q,3,none⟩=some d/\w.cell? ⟨q,4,none⟩=some e:=⟨h.cell 0,h.cell 1,h.cell 2,h.cell 3,h.cell 4⟩
theorem CQ (w:World) (a:Array Value) (t:TypeId):∃W,W=w.alloc (.cells a t)/\Bj [] w W/\JX W w.heap.size a t:=
 ⟨_,rfl,(Bj.refl _ _).alloc _,heap_alloc_new w _⟩
theorem SS (w:World) (a b:Array Value) (t u:TypeId):∃W,W=(w.alloc (.cells a t)).alloc (.cells b u)/\Bj [] w W/\JX W w.heap.size a t/\JX W (w.heap.size+1) b u:=by
 refine ⟨_,rfl,((Bj.refl _ _).alloc _).alloc _,(show JX (w.alloc (.cells a t)) w.heap.size a t from heap_alloc_new w _).upd ((Bj.refl [] _).alloc _) (by simp),?_⟩
 have:=heap_alloc_new (w.alloc (.cells a t)) (.cells b u);unfold JX;simpa using this
