/- Half, plainly, over things of any kind: things with numbers in buckets, which are alive, each -/
import Derived.BigQuiet
import Derived.Test.YtkbaaonchdeneaaGreatPc3
namespace Go.Proofs.YtkbaaonchdeneaaGreat
section
variable {α:Type}
def PZ [DecidableEq α] (m:List (α×Int)) (x:α) (v:Int):List (α×Int):=(x,v)::m.filter λp=>p.1 != x
def Il [DecidableEq α] (m:List (α×Int)) (x:α):List (α×Int):=m.filter λp=>p.1 != x
theorem He [DecidableEq α] (m:List (α×Int)) (x y:α):(Il m x).lookup y=if y=x then none else m.lookup y:=by
 unfold Il;induction m with
 |nil=>simp
 |cons a m ih=>
  rcases a with ⟨k,v⟩;by_cases hk:k=x
  ·subst hk;simp only [List.filter_cons,bne_self_eq_false,Bool.false_eq_true,if_false,ih,List.lookup_cons];by_cases hy:y=k
   ·simp [hy]
   ·have:(y==k)=false:=by simpa using hy
    simp [hy,this]
  ·have h1:(k != x)=true:=by simpa using hk
   simp only [List.filter_cons,h1,if_true,List.lookup_cons,ih];by_cases hy:y=x
   ·subst hy;have:(y==k)=false:=by simpa using Ne.symm hk
    simp [this]
   ·simp [hy]
theorem I4 [DecidableEq α] (m:List (α×Int)) (x:α) (v:Int) (y:α):(PZ m x v).lookup y=if y=x then some v else m.lookup y:=by
 unfold PZ;rw [List.lookup_cons];by_cases hy:y=x
 ·simp [hy]
 ·have h:(y==x)=false:=by simpa using hy
  rw [h];have:=He m x y;unfold Il at this;simp [this,hy]
theorem NQ [DecidableEq α] {m:List (α×Int)} (h:(m.map (·.1)).Nodup) (x:α):((Il m x).map (·.1)).Nodup:=by
 unfold Il;exact h.sublist (List.filter_sublist.map _)
theorem SV [DecidableEq α] {m:List (α×Int)} (h:(m.map (·.1)).Nodup) (x:α) (v:Int):((PZ m x v).map (·.1)).Nodup:=by
 unfold PZ;rw [List.map_cons,List.nodup_cons];refine ⟨?_,NQ h x⟩
 simp
theorem I5 [DecidableEq α] {m:List (α×Int)} (h:(m.map (·.1)).Nodup) (x:α):(Il m x).length+(if (m.lookup x).isSome then 1 else 0)=m.length:=by
 unfold Il;induction m with
 |nil=>simp
 |cons a m ih=>
  rcases a with ⟨k,v⟩;rw [List.map_cons,List.nodup_cons] at h;have ih:=ih h.2;by_cases hk:k=x
  ·subst hk
   have hn:m.lookup k=none:=by
    rw [List.lookup_eq_none_iff];intro p hp;have:p.1≠k:=λe=>h.1 (List.mem_map.2 ⟨p,hp,e⟩)
    simpa using Ne.symm this
   rw [hn] at ih;simp only [List.filter_cons,bne_self_eq_false,Bool.false_eq_true,if_false,List.lookup_cons,beq_self_eq_true,Option.isSome_some,if_true,List.length_cons];simpa using ih
  ·have h1:(k != x)=true:=by simpa using hk
   have h2:(x==k)=false:=by simpa using Ne.symm hk
   simp only [List.filter_cons,h1,if_true,List.lookup_cons,h2,List.length_cons];omega
theorem X9 [DecidableEq α] {m:List (α×Int)} (h:(m.map (·.1)).Nodup) (x:α) (v:Int):(PZ m x v).length=if (m.lookup x).isSome then m.length else m.length+1:=by
 have:=I5 h x;unfold PZ;rw [List.length_cons];unfold Il at this;by_cases hh:(m.lookup x).isSome=true
 ·rw [if_pos hh] at this |-;omega
 ·rw [if_neg hh] at this |-;omega
theorem P5 (l:List α) (m:Nat):l.take (l.length / 2 ^ (m+1)*2 ^ (m+1))++Bq l m=l.take (l.length / 2 ^ m*2 ^ m):=by
 unfold Bq;split
 ·rename_i hb
  rw [OH l.length m hb,List.take_add]
 ·rename_i hb
  rw [PW l.length m (by simpa using hb),List.append_nil]
structure HS (α:Type) where
 cs:List (α×Nat)
 al:List Bool
 lv:List Nat
 tr:List (Option (Nat×List α))
 mp:List (α×Int)
 wk:Nat
def CW (al:List Bool) (b:List (α×Nat)):List (α×Nat):=b.filter λy=>al.getD y.2 false
def live (al:List Bool) (b:List (α×Nat)):List α:=(CW al b).map (·.1)
structure ET (S:HS α):Prop where
 nums:(S.cs.map (·.2)).Pairwise (· < ·)
 lt:∀y∈S.cs,y.2<S.al.length
 lvl:S.lv.length=S.al.length
 jf:S.mp.Perm ((CW S.al S.cs).map λy=>(y.1,(y.2:Int)))
 keys:(S.mp.map (·.1)).Nodup
 trees:∀i,i<BA S.cs.length->Bq S.cs i≠[]->∃N,N<=(Bq S.cs i).length/\S.tr[i]? = some (some (N,live S.al (Bq S.cs i)))
 xY:∀i,i<BA S.cs.length->∀y∈Bq S.cs i,S.lv[y.2]? = some i
 trl:S.tr.length<=20
def pad (tr:List (Option (Nat×List α))) (n:Nat):List (Option (Nat×List α)):=tr++List.replicate (n - tr.length) none
def Gs (lv:List Nat) (t:Nat) (l:List (α×Nat)):List Nat:=l.foldl (λlv y=>lv.set y.2 t) lv
def Hf (S:HS α) (t:Nat) (l:List (α×Nat)):HS α:={ S with lv:=Gs S.lv t l,tr:=(pad S.tr (t+1)).set t (some ((live S.al l).length,live S.al l)) }
theorem SX (al:List Bool) (b:List (α×Nat)):(live al b).length<=b.length:=by
 unfold live CW;rw [List.length_map];exact List.length_filter_le _ _
theorem MP (t:Nat):∀(l:List (α×Nat)) (lv:List Nat),(Gs lv t l).length=lv.length
 | [],_=>rfl
 |y::l,lv=>by
  have:=MP t l (lv.set y.2 t);unfold Gs at *;rw [List.foldl_cons,this,List.length_set]
theorem I7 (t k:Nat):∀(l:List (α×Nat)) (lv:List Nat),(∀y∈l,y.2≠k)->(Gs lv t l)[k]? = lv[k]?
 | [],_,_=>rfl
 |y::l,lv,h=>by
  have:=I7 t k l (lv.set y.2 t) (λz hz=>h z (by simp [hz]));unfold Gs at *;rw [List.foldl_cons,this,List.getElem?_set_ne (h y (by simp))]
theorem NR [DecidableEq α] (t k:Nat):∀(l:List (α×Nat)) (lv:List Nat),(∃y∈l,y.2=k)->k<lv.length->(Gs lv t l)[k]? = some t
 | [],_,h,_=>by simp at h
 |y::l,lv,h,hk=>by
  by_cases hin:∃z∈l,z.2=k
  ·have:=NR t k l (lv.set y.2 t) hin (by rw [List.length_set];exact hk);unfold Gs at *;rw [List.foldl_cons,this]
  ·have hy:y.2=k:=by
    obtain ⟨z,hz,hk'⟩:=h;rcases List.mem_cons.1 hz with rfl | hz
    ·exact hk'
    ·exact absurd ⟨z,hz,hk'⟩ hin
   have:=I7 t k l (lv.set y.2 t) (λz hz e=>hin ⟨z,hz,e⟩);unfold Gs at *;rw [List.foldl_cons,this,hy,List.getElem?_set_self hk]
theorem ZA (lv:List Nat) (t:Nat) (l:List (α×Nat)) (y:α×Nat):Gs lv t (l++[y])=(Gs lv t l).set y.2 t:=by simp [Gs,List.foldl_append]
theorem xZ (tr:List (Option (Nat×List α))) (n i:Nat) (v:Option (Nat×List α)) (h:tr[i]? = some v):(pad tr n)[i]? = some v:=by
 unfold pad;rw [List.getElem?_append_left,h];exact (AZ h).1
theorem OJ (tr:List (Option (Nat×List α))) (n:Nat):(pad tr n).length=max tr.length n:=by unfold pad;rw [Bc,List.length_replicate];omega
theorem eF [DecidableEq α] (S:HS α) (t:Nat) (l:List (α×Nat)):(Hf S t l).tr[t]? = some (some ((live S.al l).length,live S.al l)):=by
 unfold Hf;rw [List.getElem?_set_self (by rw [OJ];omega)]
theorem SY [DecidableEq α] (S:HS α) (t:Nat) (l:List (α×Nat)) (i:Nat) (v:Option (Nat×List α)) (hi:i≠t) (h:S.tr[i]? = some v):(Hf S t l).tr[i]? = some v:=by
 unfold Hf;rw [List.getElem?_set_ne (Ne.symm hi)];exact xZ _ _ _ _ h
theorem Ya [DecidableEq α] (S:HS α) (t:Nat) (l:List (α×Nat)):(Hf S t l).tr.length=max S.tr.length (t+1):=by
 unfold Hf;rw [List.length_set,OJ]
theorem Ji {cs:List (α×Nat)} (h:(cs.map (·.2)).Pairwise (· < ·)) {i j:Nat} (hi:i<BA cs.length) (hj:j<BA cs.length) (hij:i≠j) {y z:α×Nat} (hy:y∈Bq cs i) (hz:z∈Bq cs j):y.2≠z.2:=by
 have h1:cs.Pairwise λa b=>a.2≠b.2:=(List.pairwise_map.1 h).imp λh=>Nat.ne_of_lt h
 rw [<-OI cs,List.pairwise_flatten] at h1;have h2:=List.pairwise_reverse.1 h1.2;rw [List.pairwise_iff_getElem] at h2;have gi:=EC cs i hi;have gj:=EC cs j hj;obtain ⟨li,ei⟩:=AZ gi;obtain ⟨lj,ej⟩:=AZ gj;rcases Nat.lt_or_gt_of_ne hij with h3 | h3
 ·have:=h2 i j li lj h3;rw [ei,ej] at this;exact Ne.symm (this z hz y hy)
 ·have:=h2 j i lj li h3;rw [ei,ej] at this;exact this y hy z hz
theorem EM {cs:List (α×Nat)} {i:Nat} {y:α×Nat} (h:y∈Bq cs i):y∈cs:=by
 unfold Bq at h;split at h
 ·exact List.mem_of_mem_drop (List.mem_of_mem_take h)
 ·simp at h
theorem ZB {cs:List (α×Nat)} {y:α×Nat} (h:y∈cs):∃i,i<BA cs.length/\y∈Bq cs i:=by
 rw [<-OI cs,List.mem_flatten] at h;obtain ⟨b,hb,hy⟩:=h;rw [List.mem_reverse] at hb;obtain ⟨i,hi⟩:=List.mem_iff_getElem?.1 hb
 have hlt:i<BA cs.length:=by
  have:=(AZ hi).1;rwa [D6] at this
 rw [EC cs i hlt] at hi
 cases hi
 exact ⟨i,hlt,hy⟩
theorem I8 (al:List Bool) (a b:List (α×Nat)):CW al (a++b)=CW al a++CW al b:=by simp [CW]
theorem P6 {al al':List Bool} {b:List (α×Nat)} (h:∀y∈b,al'.getD y.2 false=al.getD y.2 false):CW al' b=CW al b:=by
 unfold CW;exact List.filter_congr λy hy=>by rw [h y hy]
theorem P7 (al:List Bool) (c:Bool) (k:Nat) (h:k<al.length):(al++[c]).getD k false=al.getD k false:=by
 simp [List.getD,List.getElem?_append_left h]
theorem P8 (al:List Bool) (c:Bool):(al++[c]).getD al.length false=c:=by
 simp [List.getD]
def Dj (tr:List (Option (Nat×List α))) (t:Nat):List (Option (Nat×List α)):=List.replicate (min t tr.length) none++tr.drop t
def oQ [DecidableEq α] (S:HS α) (x:α):HS α:=
 { cs:=S.cs++[(x,S.al.length)],al:=S.al++[true],lv:=S.lv++[Bv (setB S.cs)],tr:=Dj S.tr (Bv (setB S.cs)),mp:=PZ S.mp x S.al.length,wk:=S.wk+2 ^ Bv (setB S.cs) }
def Vd [DecidableEq α] (S:HS α) (x:α):HS α:=Hf (oQ S x) (Bv (setB S.cs)) (Ec (setB S.cs) (x,S.al.length))
theorem jg (tr:List (Option (Nat×List α))) (t i:Nat) (h:t<=i):(Dj tr t)[i]? = tr[i]?:=by
 unfold Dj;rcases Nat.lt_or_ge t tr.length with h1 | h1
 ·rw [List.getElem?_append_right (by rw [List.length_replicate];omega),List.length_replicate,List.getElem?_drop];congr 1
  omega
 ·rw [List.drop_eq_nil_of_le h1,List.append_nil,List.getElem?_eq_none (by rw [List.length_replicate];omega),List.getElem?_eq_none (by omega)]
theorem MQ (tr:List (Option (Nat×List α))) (t:Nat):(Dj tr t).length=tr.length:=by
 unfold Dj;rw [Bc,List.length_replicate,List.length_drop];omega
theorem jh [DecidableEq α] {m:List (α×Int)} {x:α} (h:m.lookup x=none):(m.filter λp=>p.1 != x)=m:=by
 rw [List.filter_eq_self];intro p hp;rw [List.lookup_eq_none_iff] at h;have:=h p hp;simp at this |-;exact λe=>this e.symm
theorem x9 {bs:List (List α)} {x:α} {i:Nat} (h:i<Bv bs):(Nu bs x)[i]? = some []:=by
 unfold Nu;rw [List.getElem?_append_left (by simpa using h),List.getElem?_replicate,if_pos h]
theorem oU {bs:List (List α)} {x:α}:(Nu bs x)[Bv bs]? = some (Ec bs x):=by
 unfold Nu;rw [List.getElem?_append_right (by simp)];simp
theorem yc {bs:List (List α)} {x:α} {i:Nat} (h:Bv bs<i):(Nu bs x)[i]? = bs[i]?:=by
 unfold Nu;rw [List.getElem?_append_right (by simp;omega),List.length_replicate,show i - Bv bs=(i - Bv bs - 1)+1 by omega,List.getElem?_cons_succ,List.getElem?_drop];congr 1
 omega
theorem NT [DecidableEq α] {cs:List α} {x:α} {i:Nat} (hi:i<BA (cs++[x]).length) :
 (i<Bv (setB cs)/\Bq (cs++[x]) i = [])\/(i=Bv (setB cs)/\Bq (cs++[x]) i=Ec (setB cs) x)\/(Bv (setB cs)<i/\i<BA cs.length/\Bq (cs++[x]) i=Bq cs i):=by
 have h:=EC (cs++[x]) i hi;rw [<-RH] at h;rcases Nat.lt_trichotomy i (Bv (setB cs)) with h1 | h1 | h1
 ·rw [x9 h1] at h;exact .inl ⟨h1,(Option.some.inj h).symm⟩
 ·subst h1;rw [oU] at h;exact .inr (.inl ⟨rfl,(Option.some.inj h).symm⟩)
 ·rw [yc h1] at h
  have hlt:i<BA cs.length:=by
   have:=(AZ h).1;rwa [D6] at this
  rw [EC cs i hlt] at h;exact .inr (.inr ⟨h1,hlt,(Option.some.inj h).symm⟩)
theorem ET.add [DecidableEq α] {S:HS α} (h:ET S) (x:α) (hx:S.mp.lookup x=none) (hl:S.cs.length<100000):ET (Vd S x):=by
 have a0O:((S.cs++[(x,S.al.length)]).map (·.2)).Pairwise (· < ·):=by
  rw [List.map_append,List.pairwise_append];refine ⟨h.nums,by simp,λa ha b hb=>?_⟩
  obtain ⟨y,hy,rfl⟩:=List.mem_map.1 ha;simp at hb;subst hb;exact h.lt y hy
 have Vw:∀b,(∀y∈b,y∈S.cs)->CW (S.al++[true]) b=CW S.al b:=λb hb=>P6 λy hy=>P7 _ _ _ (h.lt y (hb y hy))
 have a6G:CW (S.al++[true]) (S.cs++[(x,S.al.length)])=CW S.al S.cs++[(x,S.al.length)]:=by
  rw [I8,Vw S.cs λy hy=>hy]
  have:CW (S.al++[true]) [(x,S.al.length)] = [(x,S.al.length)]:=by
   unfold CW;rw [List.filter_cons,if_pos (P8 S.al true),List.filter_nil]
  rw [this]
 have hlt:∀y∈S.cs++[(x,S.al.length)],y.2<(S.al++[true]).length:=by
  intro y hy;rw [Bc];rcases List.mem_append.1 hy with hy | hy
  ·have:=h.lt y hy;simp;omega
  ·simp at hy;subst hy;simp
 have a6H:Bv (setB S.cs)<=17:=by
  have h1:=DT (setB S.cs);rw [D6] at h1;have h2:=BP S.cs.length 17 (by omega);omega
 refine ⟨a0O,hlt,?_,?_,SV h.keys x _,?_,?_,?_⟩
 ·show (Gs (S.lv++[Bv (setB S.cs)]) (Bv (setB S.cs)) (Ec (setB S.cs) (x,S.al.length))).length=(S.al++[true]).length
  rw [MP,Bc,Bc,h.lvl];rfl
 ·show (PZ S.mp x S.al.length).Perm _
  unfold PZ;rw [jh hx];show ((x,(S.al.length:Int))::S.mp).Perm ((CW (S.al++[true]) (S.cs++[(x,S.al.length)])).map λy=>(y.1,(y.2:Int)))
  rw [a6G,List.map_append];exact (List.Perm.cons _ h.jf).trans (List.perm_append_singleton _ _).symm
 ·intro i hi hne;show ∃N,N<=(Bq (S.cs++[(x,S.al.length)]) i).length/\(Vd S x).tr[i]? = some (some (N,live (S.al++[true]) (Bq (S.cs++[(x,S.al.length)]) i)))
  change Bq (S.cs++[(x,S.al.length)]) i≠[] at hne
  rcases NT hi with ⟨h1,h2⟩ | ⟨h1,h2⟩ | ⟨h1,h2,h3⟩
  ·exact absurd h2 hne
  ·rw [h2,h1];exact ⟨_,SX _ _,eF _ _ _⟩
  ·rw [h3] at hne |-;obtain ⟨N,hN,ht⟩:=h.trees i h2 hne;refine ⟨N,hN,SY _ _ _ _ _ (by omega) ?_⟩
   show (Dj S.tr (Bv (setB S.cs)))[i]? = _
   rw [jg _ _ _ (by omega),ht];unfold live;rw [Vw _ λy hy=>EM hy]
 ·intro i hi y hy;change y∈Bq (S.cs++[(x,S.al.length)]) i at hy
  show (Gs (S.lv++[Bv (setB S.cs)]) (Bv (setB S.cs)) (Ec (setB S.cs) (x,S.al.length)))[y.2]? = some i
  have hyl:=hlt y (EM hy);rw [Bc] at hyl;rcases NT hi with ⟨h1,h2⟩ | ⟨h1,h2⟩ | ⟨h1,h2,h3⟩
  ·rw [h2] at hy;simp at hy
  ·rw [h2] at hy;rw [NR _ _ _ _ ⟨y,hy,rfl⟩ (by rw [Bc,h.lvl];exact hyl),h1]
  ·have hb:Bv (setB S.cs)<BA (S.cs++[(x,S.al.length)]).length:=by
    change i<BA (S.cs++[(x,S.al.length)]).length at hi
    omega
   have hg:Bq (S.cs++[(x,S.al.length)]) (Bv (setB S.cs))=Ec (setB S.cs) (x,S.al.length):=by
    rcases NT hb with ⟨g1,_⟩ | ⟨_,g2⟩ | ⟨g1,_⟩
    ·omega
    ·exact g2
    ·omega
   rw [I7 _ _ _ _ λz hz e=>Ji a0O hb hi (by omega) (by rw [hg];exact hz) hy e];rw [h3] at hy;have hyc:=h.lt y (EM hy);rw [List.getElem?_append_left (by rw [h.lvl];exact hyc)];exact h.xY i h2 y hy
 ·show (Hf (oQ S x) _ _).tr.length<=20
  rw [Ya];show max (Dj S.tr (Bv (setB S.cs))).length _<=20
  rw [MQ];have:=h.trl;omega
def DC [DecidableEq α] (S:HS α) (x:α) (k:Nat):HS α:={ S with al:=S.al.set k false,mp:=Il S.mp x }
def strike [DecidableEq α] (S:HS α) (k:Nat) (x:α):HS α:={ S with tr:=S.tr.set (S.lv.getD k 0) ((S.tr.getD (S.lv.getD k 0) none).map λl=>(l.1,l.2.erase x)) }
def Dl (S:HS α):HS α:={ S with cs:=CW S.al S.cs,wk:=S.wk+(CW S.al S.cs).length,tr:=[] }
def Lr (S:HS α) (i:Nat):HS α:=if (Bq S.cs i).isEmpty then S else Hf S i (Bq S.cs i)
def CZ (S:HS α) (n:Nat):HS α:=(List.range n).foldl Lr S
def Ls (S:HS α):HS α:=CZ (Dl S) (BA (CW S.al S.cs).length)
def Dk [DecidableEq α] (S:HS α) (x:α) (k:Nat):HS α:=if 2*(Il S.mp x).length<S.cs.length then Ls (DC S x k) else strike (DC S x k) k x
structure Fg (S:HS α):Prop where
 nums:(S.cs.map (·.2)).Pairwise (· < ·)
 lt:∀y∈S.cs,y.2<S.al.length
 lvl:S.lv.length=S.al.length
 jf:S.mp.Perm ((CW S.al S.cs).map λy=>(y.1,(y.2:Int)))
 keys:(S.mp.map (·.1)).Nodup
theorem ET.core {S:HS α} (h:ET S):Fg S:=⟨h.nums,h.lt,h.lvl,h.jf,h.keys⟩
theorem ZC [DecidableEq α] {m:List (α×Int)} (h:(m.map (·.1)).Nodup) {x:α} {k:Int}:m.lookup x=some k↔(x,k)∈m:=by
 induction m with
 |nil=>simp
 |cons a m ih=>
  rcases a with ⟨y,v⟩;rw [List.map_cons,List.nodup_cons] at h;have ih:=ih h.2;rw [List.lookup_cons,List.mem_cons];by_cases hy:x=y
  ·subst hy;simp only [beq_self_eq_true,Prod.mk.injEq,true_and];constructor
   ·intro e;exact .inl (Option.some.inj e).symm
   ·rintro (e | e)
    ·rw [e]
    ·exact absurd (List.mem_map.2 ⟨_,e,rfl⟩) h.1
  ·have:(x==y)=false:=by simpa using hy
   rw [this];simp only [Prod.mk.injEq,hy,false_and,false_or];exact ih
theorem Fg.look [DecidableEq α] {S:HS α} (h:Fg S) {x:α} {k:Int}:S.mp.lookup x=some k↔∃y∈S.cs,y.1=x/\(y.2:Int)=k/\S.al.getD y.2 false=true:=by
 rw [ZC h.keys,h.jf.mem_iff,List.mem_map];unfold CW;constructor
 ·rintro ⟨y,hy,e⟩;rw [List.mem_filter] at hy
  cases e
  exact ⟨y,hy.1,rfl,rfl,hy.2⟩
 ·rintro ⟨y,hy,rfl,rfl,ha⟩;exact ⟨y,List.mem_filter.2 ⟨hy,ha⟩,rfl⟩
theorem Fg.one [DecidableEq α] {S:HS α} (h:Fg S) {y z:α×Nat} (hy:y∈S.cs) (hz:z∈S.cs) (ha:S.al.getD y.2 false=true) (hb:S.al.getD z.2 false=true) (e:y.1=z.1):y.2=z.2:=by
 have h1:=h.look.2 ⟨y,hy,rfl,rfl,ha⟩;have h2:=h.look.2 ⟨z,hz,rfl,rfl,hb⟩;rw [e,h2] at h1;have:=Option.some.inj h1;omega
theorem Fg.same [DecidableEq α] {S:HS α} (h:Fg S) {y z:α×Nat} (hy:y∈S.cs) (hz:z∈S.cs) (e:y.2=z.2):y=z:=by
 have h1:S.cs.Pairwise λa b=>a.2<b.2:=List.pairwise_map.1 h.nums
 rw [List.pairwise_iff_getElem] at h1;obtain ⟨i,hi,rfl⟩:=List.mem_iff_getElem.1 hy;obtain ⟨j,hj,rfl⟩:=List.mem_iff_getElem.1 hz;rcases Nat.lt_trichotomy i j with h2 | h2 | h2
 ·have:=h1 i j hi hj h2;omega
 ·subst h2;rfl
 ·have:=h1 j i hj hi h2;omega
theorem Yb (al:List Bool) (k j:Nat):(al.set k false).getD j false=(al.getD j false&&j != k):=by
 rw [List.getD_eq_getElem?_getD,List.getD_eq_getElem?_getD];by_cases h:j=k
 ·subst h;rcases Nat.lt_or_ge j al.length with h1 | h1
  ·rw [List.getElem?_set_self h1];simp
  ·rw [List.getElem?_eq_none (by rw [List.length_set];exact h1)];simp
 ·rw [List.getElem?_set_ne (Ne.symm h)];simp [h]
theorem RI (al:List Bool) (k:Nat) (b:List (α×Nat)):CW (al.set k false) b=(CW al b).filter λy=>y.2 != k:=by
 unfold CW;rw [List.filter_filter];exact List.filter_congr λy _=>by rw [Yb,Bool.and_comm]
theorem Fg.drop1 [DecidableEq α] {S:HS α} (h:Fg S) {x:α} {k:Nat} (hk:S.mp.lookup x=some (k:Int)):Fg (DC S x k):=by
 refine ⟨h.nums,λy hy=>?_,?_,?_,NQ h.keys x⟩
 ·show y.2<(S.al.set k false).length
  rw [List.length_set];exact h.lt y hy
 ·show S.lv.length=(S.al.set k false).length
  rw [List.length_set];exact h.lvl
 ·show (Il S.mp x).Perm ((CW (S.al.set k false) S.cs).map λy=>(y.1,(y.2:Int)))
  have h1:((CW S.al S.cs).map λy=>(y.1,(y.2:Int))).filter (λp=>p.1 != x)=(CW (S.al.set k false) S.cs).map λy=>(y.1,(y.2:Int)):=by
   rw [RI,List.filter_map];congr 1
   refine List.filter_congr λy hy=>?_
   unfold CW at hy;rw [List.mem_filter] at hy;obtain ⟨z,hz,hz1,hz2,hz3⟩:=h.look.1 hk;show (y.1 != x)=(y.2 != k)
   by_cases e:y.1=x
   ·have:=h.one hy.1 hz hy.2 hz3 (by rw [e,hz1]);rw [e,show y.2=k by omega];simp
   ·have:y.2≠k:=by
     intro e2;have:=h.same hy.1 hz (by omega);exact e (by rw [this,hz1])
    rw [bne_iff_ne.2 e,bne_iff_ne.2 this]
  rw [<-h1];exact h.jf.filter _
theorem Fg.a0P {S:HS α} (h:Fg S):Fg (Dl S):=by
 have hsub:(CW S.al S.cs).Sublist S.cs:=List.filter_sublist;refine ⟨h.nums.sublist (hsub.map _),λy hy=>h.lt y (hsub.subset hy),h.lvl,?_,h.keys⟩
 show S.mp.Perm ((CW S.al (CW S.al S.cs)).map λy=>(y.1,(y.2:Int)))
 have:CW S.al (CW S.al S.cs)=CW S.al S.cs:=by unfold CW;rw [List.filter_filter];simp
 rw [this];exact h.jf
theorem Lu (S:HS α) (n:Nat):CZ S (n+1)=Lr (CZ S n) n:=by unfold CZ;rw [List.range_succ,List.foldl_append];rfl
theorem FC [DecidableEq α] (S:HS α) (n:Nat):(CZ S n).cs=S.cs/\(CZ S n).al=S.al/\(CZ S n).mp=S.mp/\(CZ S n).wk=S.wk/\(CZ S n).lv.length=S.lv.length:=by
 induction n with
 |zero=>exact ⟨rfl,rfl,rfl,rfl,rfl⟩
 |succ n ih=>
  rw [Lu];unfold Lr;split
  ·exact ih
  ·obtain ⟨h1,h2,h3,h4,h5⟩:=ih;exact ⟨h1,h2,h3,h4,by unfold Hf;simp only [MP];exact h5⟩
theorem OL [DecidableEq α] {S:HS α} (h:Fg S) (h0:S.tr = []) (n:Nat) (hn:n<=BA S.cs.length) :
 (∀i,i<n->Bq S.cs i≠[]->∃N,N<=(Bq S.cs i).length/\(CZ S n).tr[i]? = some (some (N,live S.al (Bq S.cs i))))/\(∀i,i<n->∀y∈Bq S.cs i,(CZ S n).lv[y.2]? = some i)/\(CZ S n).tr.length<=n:=by
 induction n with
 |zero=>exact ⟨λi hi=>by omega,λi hi=>by omega,by show S.tr.length<=0;rw [h0];simp⟩
 |succ n ih=>
  obtain ⟨i1,i2,i3⟩:=ih (by omega);obtain ⟨k1,k2,k3,k4,k5⟩:=FC S n;rw [Lu];unfold Lr;rw [k1];by_cases he:(Bq S.cs n).isEmpty=true
  ·rw [if_pos he];have he':Bq S.cs n = []:=by simpa using he
   refine ⟨λi hi hne=>?_,λi hi y hy=>?_,by omega⟩
   ·rcases Nat.lt_or_ge i n with h1 | h1
    ·exact i1 i h1 hne
    ·have:i=n:=by omega
     subst this;exact absurd he' hne
   ·rcases Nat.lt_or_ge i n with h1 | h1
    ·exact i2 i h1 y hy
    ·have:i=n:=by omega
     subst this;rw [he'] at hy;simp at hy
  ·rw [if_neg he];refine ⟨λi hi hne=>?_,λi hi y hy=>?_,?_⟩
   ·rcases Nat.lt_or_ge i n with h1 | h1
    ·obtain ⟨N,hN,ht⟩:=i1 i h1 hne;exact ⟨N,hN,SY _ _ _ _ _ (by omega) ht⟩
    ·have:i=n:=by omega
     subst this;refine ⟨_,SX S.al _,?_⟩
     rw [eF,k2]
   ·show (Gs (CZ S n).lv n (Bq S.cs n))[y.2]? = some i
    have hyl:y.2<(CZ S n).lv.length:=by rw [k5,h.lvl];exact h.lt y (EM hy)
    rcases Nat.lt_or_ge i n with h1 | h1
    ·rw [I7 _ _ _ _ λz hz e=>Ji h.nums (by omega) (by omega) (by omega) hz hy e];exact i2 i h1 y hy
    ·have:i=n:=by omega
     subst this;exact NR _ _ _ _ ⟨y,hy,rfl⟩ hyl
   ·rw [Ya];omega
theorem Fg.anew [DecidableEq α] {S:HS α} (h:Fg S) (hl:S.cs.length<100000):ET (Ls S):=by
 have h0:=h.a0P;have hlen:(CW S.al S.cs).length<=S.cs.length:=List.length_filter_le _ _;have hb:=BP (CW S.al S.cs).length 17 (by omega);obtain ⟨k1,k2,k3,k4,k5⟩:=FC (Dl S) (BA (CW S.al S.cs).length);obtain ⟨i1,i2,i3⟩:=OL h0 rfl (BA (CW S.al S.cs).length) (Nat.le_refl _);unfold Ls;refine ⟨by rw [k1];exact h0.nums,by rw [k1,k2];exact h0.lt,by rw [k5,k2];exact h0.lvl,by rw [k1,k2,k3];exact h0.jf,by rw [k3];exact h0.keys,?_,?_,by omega⟩
 ·rw [k1,k2];exact i1
 ·rw [k1];exact i2
theorem Vx [DecidableEq α]:∀(L:List (α×Nat)) (x:α) (k:Nat),L.Pairwise (λa b=>a.2≠b.2)->(∀y∈L,y.1=x↔y.2=k)->(L.map (·.1)).erase x=(L.filter λy=>y.2 != k).map (·.1)
 | [],_,_,_,_=>rfl
 |y::L,x,k,hp,h=>by
  rw [List.pairwise_cons] at hp;by_cases e:y.1=x
  ·have hk:=(h y (by simp)).1 e
   have hf:(L.filter λy=>y.2 != k)=L:=by
    rw [List.filter_eq_self];intro z hz;rw [bne_iff_ne];exact λe2=>hp.1 z hz (by rw [hk,e2])
   rw [List.map_cons,e,List.erase_cons_head,List.filter_cons,if_neg (by simp [hk]),hf]
  ·have hk:y.2≠k:=λe2=>e ((h y (by simp)).2 e2)
   rw [List.map_cons,List.erase_cons_tail (by simpa using e),List.filter_cons,if_pos (by simpa using hk),List.map_cons,Vx L x k hp.2 λz hz=>h z (by simp [hz])]
theorem ET.at [DecidableEq α] {S:HS α} (h:ET S) {x:α} {k:Nat} (hk:S.mp.lookup x=some (k:Int)) :
 ∃i,i<BA S.cs.length/\(x,k)∈Bq S.cs i/\S.lv[k]? = some i/\S.al.getD k false=true/\∃N,N<=(Bq S.cs i).length/\S.tr[i]? = some (some (N,live S.al (Bq S.cs i))):=by
 obtain ⟨y,hy,h1,h2,h3⟩:=h.core.look.1 hk;have e2:y.2=k:=by omega
 obtain ⟨i,hi,hb⟩:=ZB hy;have e:y=(x,k):=by rw [<-h1,<-e2]
 rw [e] at hb h3;have hl:=h.xY i hi _ hb;exact ⟨i,hi,hb,hl,h3,h.trees i hi (λe0=>by rw [e0] at hb;simp at hb)⟩
theorem ET.drop [DecidableEq α] {S:HS α} (h:ET S) {x:α} {k:Nat} (hk:S.mp.lookup x=some (k:Int)) (hl:S.cs.length<100000):ET (Dk S x k):=by
 have hc:=h.core.drop1 hk;unfold Dk;split
 ·exact hc.anew hl
 ·obtain ⟨i0,hi0,hb0,hlv,hal,N0,hN0,htr⟩:=h.at hk;have hgl:S.lv.getD k 0=i0:=by rw [List.getD_eq_getElem?_getD,hlv];rfl
  have hti:i0<S.tr.length:=(AZ htr).1;refine ⟨hc.nums,hc.lt,hc.lvl,hc.jf,hc.keys,?_,h.xY,?_⟩
  ·intro i hi hne;change i<BA S.cs.length at hi
   change Bq S.cs i≠[] at hne
   show ∃N,N<=(Bq S.cs i).length/\(S.tr.set (S.lv.getD k 0) ((S.tr.getD (S.lv.getD k 0) none).map λl=>(l.1,l.2.erase x)))[i]? = some (some (N,live (S.al.set k false) (Bq S.cs i)))
   rw [hgl];by_cases e:i=i0
   ·subst e;refine ⟨N0,hN0,?_⟩
    rw [List.getElem?_set_self hti,List.getD_eq_getElem?_getD,htr];show some (some (N0,((live S.al (Bq S.cs i))).erase x))=_
    unfold live;rw [RI,Vx]
    ·have h1:S.cs.Pairwise λa b=>a.2≠b.2:=(List.pairwise_map.1 h.nums).imp λh=>Nat.ne_of_lt h
     have h2:(Bq S.cs i).Sublist S.cs:=by
      unfold Bq;split
      ·exact (List.take_sublist _ _).trans (List.drop_sublist _ _)
      ·exact List.nil_sublist _
     exact h1.sublist (List.filter_sublist.trans h2)
    ·intro y hy;unfold CW at hy;rw [List.mem_filter] at hy;have hyc:=EM hy.1;have h0c:=EM hb0;constructor
     ·intro e;exact h.core.one hyc h0c hy.2 hal e
     ·intro e;rw [h.core.same hyc h0c e]
   ·obtain ⟨N,hN,ht⟩:=h.trees i hi hne;refine ⟨N,hN,?_⟩
    rw [List.getElem?_set_ne (Ne.symm e),ht];congr 3
    unfold live;rw [RI];congr 1
    rw [eq_comm,List.filter_eq_self];intro y hy;unfold CW at hy;rw [List.mem_filter] at hy;rw [bne_iff_ne];exact Ji h.nums hi hi0 e hy.1 hb0
  ·show (S.tr.set _ _).length<=20
   rw [List.length_set];exact h.trl
def view (S:HS α):List (α×Bool):=S.cs.map λy=>(y.1,S.al.getD y.2 false)
def Df (V:List (α×Bool)):List α:=(V.filter (·.2)).map (·.1)
def Dy [DecidableEq α] (V:List (α×Bool)) (x:α):List (α×Bool):=V.map λp=>if p.1=x then (p.1,false) else p
def Iy [DecidableEq α] (V:List (α×Bool)) (x:α):List (α×Bool):=if 2*(Df (Dy V x)).length<V.length then (Df (Dy V x)).map λy=>(y,true) else Dy V x
theorem Iz (S:HS α):(view S).length=S.cs.length:=by simp [view]
theorem Hg (S:HS α):Df (view S)=live S.al S.cs:=by
 unfold Df view live CW;rw [List.filter_map,List.map_map];rfl
theorem Fg.NU [DecidableEq α] {S:HS α} (h:Fg S):S.mp.length=(Df (view S)).length:=by
 rw [Hg,h.jf.length_eq];simp [live]
theorem Fg.there [DecidableEq α] {S:HS α} (h:Fg S) (x:α):(S.mp.lookup x).isSome=decide ((x,true)∈view S):=by
 have h1:(x,true)∈view S↔∃k,S.mp.lookup x=some k:=by
  unfold view;rw [List.mem_map];constructor
  ·rintro ⟨y,hy,e⟩;simp only [Prod.mk.injEq] at e;exact ⟨_,h.look.2 ⟨y,hy,e.1,rfl,e.2⟩⟩
  ·rintro ⟨k,hk⟩;obtain ⟨y,hy,h1,h2,h3⟩:=h.look.1 hk;exact ⟨y,hy,by rw [h1,h3]⟩
 rw [Bool.eq_iff_iff,decide_eq_true_iff,h1,Option.isSome_iff_exists]
theorem Fg.num [DecidableEq α] {S:HS α} (h:Fg S) {x:α} {k:Int} (hk:S.mp.lookup x=some k):∃n:Nat,k=n/\n<S.al.length:=by
 obtain ⟨y,hy,h1,h2,h3⟩:=h.look.1 hk;exact ⟨y.2,h2.symm,h.lt y hy⟩
theorem JY [DecidableEq α] {S:HS α} (h:Fg S) {x:α} {k:Nat} (hk:S.mp.lookup x=some (k:Int)):view (DC S x k)=Dy (view S) x:=by
 obtain ⟨z,hz,hz1,hz2,hz3⟩:=h.look.1 hk;show S.cs.map (λy=>(y.1,(S.al.set k false).getD y.2 false))=_
 unfold Dy view;rw [List.map_map];refine List.map_congr_left λy hy=>?_
 show (y.1,(S.al.set k false).getD y.2 false)=if y.1=x then (y.1,false) else (y.1,S.al.getD y.2 false)
 rw [Yb];by_cases e:y.1=x
 ·rw [if_pos e];by_cases ha:S.al.getD y.2 false=true
  ·have:=h.one hy hz ha hz3 (by rw [e,hz1]);rw [show y.2=k by omega];simp
  ·simp at ha;simp [ha]
 ·rw [if_neg e]
  have:y.2≠k:=by
   intro e2;have:=h.same hy hz (by omega);exact e (by rw [this,hz1])
  rw [bne_iff_ne.2 this,Bool.and_true]
theorem ji [DecidableEq α] {S:HS α}:view (Ls S)=(Df (view S)).map λy=>(y,true):=by
 obtain ⟨k1,k2,k3,k4,k5⟩:=FC (Dl S) (BA (CW S.al S.cs).length);unfold Ls view;rw [k1,k2];have:=Hg S;unfold view at this;rw [this];unfold live;rw [List.map_map];refine List.map_congr_left λy hy=>?_
 have hy':y∈CW S.al S.cs:=hy;unfold CW at hy';rw [List.mem_filter] at hy';show (y.1,S.al.getD y.2 false)=(y.1,true)
 rw [hy'.2]
theorem Vy [DecidableEq α] {S:HS α} (h:ET S) {x:α} {k:Nat} (hk:S.mp.lookup x=some (k:Int)):view (Dk S x k)=Iy (view S) x:=by
 have h1:=JY h.core hk;have hc:=(h.core.drop1 hk).NU;rw [h1] at hc;unfold Dk Iy;rw [<-hc,Iz];show view (if 2*(Il S.mp x).length<S.cs.length then _ else _)=if 2*(Il S.mp x).length<S.cs.length then _ else _
 split
 ·rw [ji,h1]
 ·exact h1
theorem eG [DecidableEq α] {S:HS α} (h:ET S) {x:α} {k:Nat} (hk:S.mp.lookup x=some (k:Int)) :
 (Dk S x k).wk=S.wk+(if 2*(Df (Dy (view S) x)).length<(view S).length then (Df (Dy (view S) x)).length else 0):=by
 have h1:=JY h.core hk;have hc:=(h.core.drop1 hk).NU;rw [h1] at hc;unfold Dk;rw [<-hc,Iz];show (if 2*(Il S.mp x).length<S.cs.length then _ else _:HS α).wk=S.wk+if 2*(Il S.mp x).length<S.cs.length then (Il S.mp x).length else 0
 split
 ·obtain ⟨_,_,_,k4,_⟩:=FC (Dl (DC S x k)) (BA (CW (DC S x k).al (DC S x k).cs).length);unfold Ls;rw [k4];show S.wk+(CW (DC S x k).al (DC S x k).cs).length=_
  have:=(h.core.drop1 hk).jf.length_eq;rw [List.length_map] at this;rw [<-this];rfl
 ·rfl
theorem jk {S:HS α} (I:ET S) (x:α):(live (S.al++[true]) (Ec (setB S.cs) (x,S.al.length))).Sublist (live S.al S.cs++[x]):=by
 rw [(Fz S.cs (x,S.al.length)).1];have Vw:∀b,(∀y∈b,y∈S.cs)->CW (S.al++[true]) b=CW S.al b:=λb hb=>P6 λy hy=>P7 _ _ _ (I.lt y (hb y hy))
 unfold live;rw [I8,List.map_append,Vw _ λy hy=>List.mem_of_mem_drop hy]
 have e:CW (S.al++[true]) [(x,S.al.length)] = [(x,S.al.length)]:=by
  unfold CW;rw [List.filter_cons,if_pos (P8 S.al true),List.filter_nil]
 rw [e];refine List.Sublist.append (List.Sublist.map _ ?_) (List.Sublist.refl _)
 unfold CW;exact (List.drop_sublist _ _).filter _
theorem Vz {S:HS α} [DecidableEq α] (I:ET S) (x:α):live (Vd S x).al (Vd S x).cs=live S.al S.cs++[x]:=by
 show live (S.al++[true]) (S.cs++[(x,S.al.length)])=_
 unfold live;rw [I8,List.map_append];have Vw:CW (S.al++[true]) S.cs=CW S.al S.cs:=P6 λy hy=>P7 _ _ _ (I.lt y hy)
 have e:CW (S.al++[true]) [(x,S.al.length)] = [(x,S.al.length)]:=by
  unfold CW;rw [List.filter_cons,if_pos (P8 S.al true),List.filter_nil]
 rw [Vw,e];rfl
end
open Go.RowKit
structure QW (W:World) where
 w:World
 up:Bj [] W w
instance (W:World):Nonempty (QW W):=⟨⟨W,Bj.refl _ _⟩⟩
theorem GU {P:Program} {id:Nat} {Q:Exit->Act->World->Prop} {a:Act} {w:World} {l:List Oper} (hm:P.follows .mixedOrders=true) (hB:Region.lexB .any l.toArray=true)
 (h:wpQuiet P l.toArray (λw'=>∃x:QW w,w'=x.w) (λa'=>∀w',(∃x:QW w,w'=x.w)->Q .normal a' w') l a):(Code.region id l.toArray true).wp P Q a w:=
 wp_region_quiet (C:=λw'=>∃x:QW w,w'=x.w) hm hB ⟨⟨w.drewN 1,(Bj.refl _ _).drewN 1⟩,rfl⟩ (by simpa using h)
theorem Calls.JZ {P:Program} {f:FuncId} {args:Array Value} {w:World} {x:QW w} {v:Value}
 (h:Calls P f args x.w λe w'=>e=.returned v/\Bj [] x.w w'):Calls P f args x.w λe w''=>e=.returned v/\∃y:QW w,w''=y.w:=
 h.mono λ_ _ ⟨he,hu⟩=>⟨he,⟨⟨_,x.up.trans hu⟩,rfl⟩⟩
