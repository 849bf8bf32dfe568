/- Half, plainly, over things of any kind: things with numbers in buckets, which are alive, each -/
import Derived.BigQuiet
import Derived.Test.YtkbaaonchdeneaaGreatPb3
namespace Go.Proofs.YtkbaaonchdeneaaGreat
section
variable {α:Type}
def UA [DecidableEq α] (m:List (α×Int)) (x:α) (v:Int):List (α×Int):=(x,v)::m.filter fun p=>p.1 != x
def JA [DecidableEq α] (m:List (α×Int)) (x:α):List (α×Int):=m.filter fun p=>p.1 != x
theorem JB [DecidableEq α] (m:List (α×Int)) (x y:α):(JA m x).lookup y=if y=x then none else m.lookup y:=by
 unfold JA;induction m with
 |nil=>simp
 |cons a m ih=>
  rcases a with ⟨k,v⟩;by_cases hk:k=x
  ·subst hk;simp only [List.filter_cons,bne_self_eq_false,Bool.false_eq_true,if_false,ih,List.lookup_cons];by_cases hy:y=k
   ·simp [hy]
   ·have:(y==k)=false:=by simpa using hy
    simp [hy,this]
  ·have h1:(k != x)=true:=by simpa using hk
   simp only [List.filter_cons,h1,if_true,List.lookup_cons,ih];by_cases hy:y=x
   ·subst hy;have:(y==k)=false:=by simpa using Ne.symm hk
    simp [this]
   ·simp [hy]
theorem LW [DecidableEq α] (m:List (α×Int)) (x:α) (v:Int) (y:α):(UA m x v).lookup y=if y=x then some v else m.lookup y:=by
 unfold UA;rw [List.lookup_cons];by_cases hy:y=x
 ·simp [hy]
 ·have h:(y==x)=false:=by simpa using hy
  rw [h];have:=JB m x y;unfold JA at this;simp [this,hy]
theorem RF [DecidableEq α] {m:List (α×Int)} (h:(m.map (·.1)).Nodup) (x:α):((JA m x).map (·.1)).Nodup:=by
 unfold JA;exact h.sublist (List.filter_sublist.map _)
theorem WI [DecidableEq α] {m:List (α×Int)} (h:(m.map (·.1)).Nodup) (x:α) (v:Int):((UA m x v).map (·.1)).Nodup:=by
 unfold UA;rw [List.map_cons,List.nodup_cons];refine ⟨?_,RF h x⟩
 simp
theorem LX [DecidableEq α] {m:List (α×Int)} (h:(m.map (·.1)).Nodup) (x:α):(JA m x).length+(if (m.lookup x).isSome then 1 else 0)=m.length:=by
 unfold JA;induction m with
 |nil=>simp
 |cons a m ih=>
  rcases a with ⟨k,v⟩;rw [List.map_cons,List.nodup_cons] at h;have ih:=ih h.2;by_cases hk:k=x
  ·subst hk
   have hn:m.lookup k=none:=by
    rw [List.lookup_eq_none_iff];intro p hp;have:p.1≠k:=fun e=>h.1 (List.mem_map.2 ⟨p,hp,e⟩)
    simpa using Ne.symm this
   rw [hn] at ih;simp only [List.filter_cons,bne_self_eq_false,Bool.false_eq_true,if_false,List.lookup_cons,beq_self_eq_true,Option.isSome_some,if_true,List.length_cons];simpa using ih
  ·have h1:(k != x)=true:=by simpa using hk
   have h2:(x==k)=false:=by simpa using Ne.symm hk
   simp only [List.filter_cons,h1,if_true,List.lookup_cons,h2,List.length_cons];omega
theorem bG [DecidableEq α] {m:List (α×Int)} (h:(m.map (·.1)).Nodup) (x:α) (v:Int):(UA m x v).length=if (m.lookup x).isSome then m.length else m.length+1:=by
 have:=LX h x;unfold UA;rw [List.length_cons];unfold JA at this;by_cases hh:(m.lookup x).isSome=true
 ·rw [if_pos hh] at this ⊢;omega
 ·rw [if_neg hh] at this ⊢;omega
theorem UC (l:List α) (m:Nat):l.take (l.length / 2 ^ (m+1)*2 ^ (m+1))++Bo l m=l.take (l.length / 2 ^ m*2 ^ m):=by
 unfold Bo;split
 ·rename_i hb
  rw [SQ l.length m hb,List.take_add]
 ·rename_i hb
  rw [Ux l.length m (by simpa using hb),List.append_nil]
structure HS (α:Type) where
 cs:List (α×Nat)
 al:List Bool
 lv:List Nat
 tr:List (Option (Nat×List α))
 mp:List (α×Int)
 wk:Nat
def CZ (al:List Bool) (b:List (α×Nat)):List (α×Nat):=b.filter fun y=>al.getD y.2 false
def live (al:List Bool) (b:List (α×Nat)):List α:=(CZ al b).map (·.1)
structure FK (S:HS α):Prop where
 nums:(S.cs.map (·.2)).Pairwise (· < ·)
 lt:∀y∈S.cs,y.2<S.al.length
 lvl:S.lv.length=S.al.length
 oC:S.mp.Perm ((CZ S.al S.cs).map fun y=>(y.1,(y.2:Int)))
 keys:(S.mp.map (·.1)).Nodup
 trees:∀i,i<BA S.cs.length→Bo S.cs i≠[]→∃N,N≤(Bo S.cs i).length∧S.tr[i]? = some (some (N,live S.al (Bo S.cs i)))
 a0v:∀i,i<BA S.cs.length→∀y∈Bo S.cs i,S.lv[y.2]? = some i
 trl:S.tr.length≤20
def pad (tr:List (Option (Nat×List α))) (n:Nat):List (Option (Nat×List α)):=tr++List.replicate (n - tr.length) none
def IK (lv:List Nat) (t:Nat) (l:List (α×Nat)):List Nat:=l.foldl (fun lv y=>lv.set y.2 t) lv
def JC (S:HS α) (t:Nat) (l:List (α×Nat)):HS α:={ S with lv:=IK S.lv t l,tr:=(pad S.tr (t+1)).set t (some ((live S.al l).length,live S.al l)) }
theorem WJ (al:List Bool) (b:List (α×Nat)):(live al b).length≤b.length:=by
 unfold live CZ;rw [List.length_map];exact List.length_filter_le _ _
theorem Qr (t:Nat):∀(l:List (α×Nat)) (lv:List Nat),(IK lv t l).length=lv.length
 | [],_=>rfl
 |y::l,lv=>by
  have:=Qr t l (lv.set y.2 t);unfold IK at *;rw [List.foldl_cons,this,List.length_set]
theorem LY (t k:Nat):∀(l:List (α×Nat)) (lv:List Nat),(∀y∈l,y.2≠k)→(IK lv t l)[k]? = lv[k]?
 | [],_,_=>rfl
 |y::l,lv,h=>by
  have:=LY t k l (lv.set y.2 t) (fun z hz=>h z (by simp [hz]));unfold IK at *;rw [List.foldl_cons,this,List.getElem?_set_ne (h y (by simp))]
theorem RG [DecidableEq α] (t k:Nat):∀(l:List (α×Nat)) (lv:List Nat),(∃y∈l,y.2=k)→k<lv.length→(IK lv t l)[k]? = some t
 | [],_,h,_=>by simp at h
 |y::l,lv,h,hk=>by
  by_cases hin:∃z∈l,z.2=k
  ·have:=RG t k l (lv.set y.2 t) hin (by rw [List.length_set];exact hk);unfold IK at *;rw [List.foldl_cons,this]
  ·have hy:y.2=k:=by
    obtain ⟨z,hz,hk'⟩:=h;rcases List.mem_cons.1 hz with rfl | hz
    ·exact hk'
    ·exact absurd ⟨z,hz,hk'⟩ hin
   have:=LY t k l (lv.set y.2 t) (fun z hz e=>hin ⟨z,hz,e⟩);unfold IK at *;rw [List.foldl_cons,this,hy,List.getElem?_set_self hk]
theorem iE (lv:List Nat) (t:Nat) (l:List (α×Nat)) (y:α×Nat):IK lv t (l++[y])=(IK lv t l).set y.2 t:=by simp [IK,List.foldl_append]
theorem a0w (tr:List (Option (Nat×List α))) (n i:Nat) (v:Option (Nat×List α)) (h:tr[i]? = some v):(pad tr n)[i]? = some v:=by
 unfold pad;rw [List.getElem?_append_left,h];exact (AV h).1
theorem SV (tr:List (Option (Nat×List α))) (n:Nat):(pad tr n).length=max tr.length n:=by unfold pad;rw [AY,List.length_replicate];omega
theorem lK [DecidableEq α] (S:HS α) (t:Nat) (l:List (α×Nat)):(JC S t l).tr[t]? = some (some ((live S.al l).length,live S.al l)):=by
 unfold JC;rw [List.getElem?_set_self (by rw [SV];omega)]
theorem WL [DecidableEq α] (S:HS α) (t:Nat) (l:List (α×Nat)) (i:Nat) (v:Option (Nat×List α)) (hi:i≠t) (h:S.tr[i]? = some v):(JC S t l).tr[i]? = some v:=by
 unfold JC;rw [List.getElem?_set_ne (Ne.symm hi)];exact a0w _ _ _ _ h
theorem bH [DecidableEq α] (S:HS α) (t:Nat) (l:List (α×Nat)):(JC S t l).tr.length=max S.tr.length (t+1):=by
 unfold JC;rw [List.length_set,SV]
theorem MJ {cs:List (α×Nat)} (h:(cs.map (·.2)).Pairwise (· < ·)) {i j:Nat} (hi:i<BA cs.length) (hj:j<BA cs.length) (hij:i≠j) {y z:α×Nat} (hy:y∈Bo cs i) (hz:z∈Bo cs j):y.2≠z.2:=by
 have h1:cs.Pairwise fun a b=>a.2≠b.2:=(List.pairwise_map.1 h).imp fun h=>Nat.ne_of_lt h
 rw [←SS cs,List.pairwise_flatten] at h1;have h2:=List.pairwise_reverse.1 h1.2;rw [List.pairwise_iff_getElem] at h2;have gi:=FI cs i hi;have gj:=FI cs j hj;obtain ⟨li,ei⟩:=AV gi;obtain ⟨lj,ej⟩:=AV gj;rcases Nat.lt_or_gt_of_ne hij with h3 | h3
 ·have:=h2 i j li lj h3;rw [ei,ej] at this;exact Ne.symm (this z hz y hy)
 ·have:=h2 j i lj li h3;rw [ei,ej] at this;exact this y hy z hz
theorem Gh {cs:List (α×Nat)} {i:Nat} {y:α×Nat} (h:y∈Bo cs i):y∈cs:=by
 unfold Bo at h;split at h
 ·exact List.mem_of_mem_drop (List.mem_of_mem_take h)
 ·simp at h
theorem iF {cs:List (α×Nat)} {y:α×Nat} (h:y∈cs):∃i,i<BA cs.length∧y∈Bo cs i:=by
 rw [←SS cs,List.mem_flatten] at h;obtain ⟨b,hb,hy⟩:=h;rw [List.mem_reverse] at hb;obtain ⟨i,hi⟩:=List.mem_iff_getElem?.1 hb
 have hlt:i<BA cs.length:=by
  have:=(AV hi).1;rwa [Es] at this
 rw [FI cs i hlt] at hi
 cases hi
 exact ⟨i,hlt,hy⟩
theorem LZ (al:List Bool) (a b:List (α×Nat)):CZ al (a++b)=CZ al a++CZ al b:=by simp [CZ]
theorem UD {al al':List Bool} {b:List (α×Nat)} (h:∀y∈b,al'.getD y.2 false=al.getD y.2 false):CZ al' b=CZ al b:=by
 unfold CZ;exact List.filter_congr fun y hy=>by rw [h y hy]
theorem UE (al:List Bool) (c:Bool) (k:Nat) (h:k<al.length):(al++[c]).getD k false=al.getD k false:=by
 simp [List.getD,List.getElem?_append_left h]
theorem UF (al:List Bool) (c:Bool):(al++[c]).getD al.length false=c:=by
 simp [List.getD]
def DC (tr:List (Option (Nat×List α))) (t:Nat):List (Option (Nat×List α)):=List.replicate (min t tr.length) none++tr.drop t
def uz [DecidableEq α] (S:HS α) (x:α):HS α:=
 { cs:=S.cs++[(x,S.al.length)],al:=S.al++[true],lv:=S.lv++[Bl (setB S.cs)],tr:=DC S.tr (Bl (setB S.cs)),mp:=UA S.mp x S.al.length,wk:=S.wk+2 ^ Bl (setB S.cs) }
def Yq [DecidableEq α] (S:HS α) (x:α):HS α:=JC (uz S x) (Bl (setB S.cs)) (EF (setB S.cs) (x,S.al.length))
theorem oD (tr:List (Option (Nat×List α))) (t i:Nat) (h:t≤i):(DC tr t)[i]? = tr[i]?:=by
 unfold DC;rcases Nat.lt_or_ge t tr.length with h1 | h1
 ·rw [List.getElem?_append_right (by rw [List.length_replicate];omega),List.length_replicate,List.getElem?_drop];congr 1
  omega
 ·rw [List.drop_eq_nil_of_le h1,List.append_nil,List.getElem?_eq_none (by rw [List.length_replicate];omega),List.getElem?_eq_none (by omega)]
theorem Qs (tr:List (Option (Nat×List α))) (t:Nat):(DC tr t).length=tr.length:=by
 unfold DC;rw [AY,List.length_replicate,List.length_drop];omega
theorem oG [DecidableEq α] {m:List (α×Int)} {x:α} (h:m.lookup x=none):(m.filter fun p=>p.1 != x)=m:=by
 rw [List.filter_eq_self];intro p hp;rw [List.lookup_eq_none_iff] at h;have:=h p hp;simp at this ⊢;exact fun e=>this e.symm
theorem a0x {bs:List (List α)} {x:α} {i:Nat} (h:i<Bl bs):(QZ bs x)[i]? = some []:=by
 unfold QZ;rw [List.getElem?_append_left (by simpa using h),List.getElem?_replicate,if_pos h]
theorem uD {bs:List (List α)} {x:α}:(QZ bs x)[Bl bs]? = some (EF bs x):=by
 unfold QZ;rw [List.getElem?_append_right (by simp)];simp
theorem a0y {bs:List (List α)} {x:α} {i:Nat} (h:Bl bs<i):(QZ bs x)[i]? = bs[i]?:=by
 unfold QZ;rw [List.getElem?_append_right (by simp;omega),List.length_replicate,show i - Bl bs=(i - Bl bs - 1)+1 by omega,List.getElem?_cons_succ,List.getElem?_drop];congr 1
 omega
theorem RH [DecidableEq α] {cs:List α} {x:α} {i:Nat} (hi:i<BA (cs++[x]).length) :
 (i<Bl (setB cs)∧Bo (cs++[x]) i = [])∨(i=Bl (setB cs)∧Bo (cs++[x]) i=EF (setB cs) x)∨(Bl (setB cs)<i∧i<BA cs.length∧Bo (cs++[x]) i=Bo cs i):=by
 have h:=FI (cs++[x]) i hi;rw [←VU] at h;rcases Nat.lt_trichotomy i (Bl (setB cs)) with h1 | h1 | h1
 ·rw [a0x h1] at h;exact .inl ⟨h1,(Option.some.inj h).symm⟩
 ·subst h1;rw [uD] at h;exact .inr (.inl ⟨rfl,(Option.some.inj h).symm⟩)
 ·rw [a0y h1] at h
  have hlt:i<BA cs.length:=by
   have:=(AV h).1;rwa [Es] at this
  rw [FI cs i hlt] at h;exact .inr (.inr ⟨h1,hlt,(Option.some.inj h).symm⟩)
theorem FK.add [DecidableEq α] {S:HS α} (h:FK S) (x:α) (hx:S.mp.lookup x=none) (hl:S.cs.length<100000):FK (Yq S x):=by
 have a1Q:((S.cs++[(x,S.al.length)]).map (·.2)).Pairwise (· < ·):=by
  rw [List.map_append,List.pairwise_append];refine ⟨h.nums,by simp,fun a ha b hb=>?_⟩
  obtain ⟨y,hy,rfl⟩:=List.mem_map.1 ha;simp at hb;subst hb;exact h.lt y hy
 have YG:∀b,(∀y∈b,y∈S.cs)→CZ (S.al++[true]) b=CZ S.al b:=fun b hb=>UD fun y hy=>UE _ _ _ (h.lt y (hb y hy))
 have b0y:CZ (S.al++[true]) (S.cs++[(x,S.al.length)])=CZ S.al S.cs++[(x,S.al.length)]:=by
  rw [LZ,YG S.cs fun y hy=>hy]
  have:CZ (S.al++[true]) [(x,S.al.length)] = [(x,S.al.length)]:=by
   unfold CZ;rw [List.filter_cons,if_pos (UF S.al true),List.filter_nil]
  rw [this]
 have hlt:∀y∈S.cs++[(x,S.al.length)],y.2<(S.al++[true]).length:=by
  intro y hy;rw [AY];rcases List.mem_append.1 hy with hy | hy
  ·have:=h.lt y hy;simp;omega
  ·simp at hy;subst hy;simp
 have b0z:Bl (setB S.cs)≤17:=by
  have h1:=Eo (setB S.cs);rw [Es] at h1;have h2:=CQ S.cs.length 17 (by omega);omega
 refine ⟨a1Q,hlt,?_,?_,WI h.keys x _,?_,?_,?_⟩
 ·show (IK (S.lv++[Bl (setB S.cs)]) (Bl (setB S.cs)) (EF (setB S.cs) (x,S.al.length))).length=(S.al++[true]).length
  rw [Qr,AY,AY,h.lvl];rfl
 ·show (UA S.mp x S.al.length).Perm _
  unfold UA;rw [oG hx];show ((x,(S.al.length:Int))::S.mp).Perm ((CZ (S.al++[true]) (S.cs++[(x,S.al.length)])).map fun y=>(y.1,(y.2:Int)))
  rw [b0y,List.map_append];exact (List.Perm.cons _ h.oC).trans (List.perm_append_singleton _ _).symm
 ·intro i hi hne;show ∃N,N≤(Bo (S.cs++[(x,S.al.length)]) i).length∧(Yq S x).tr[i]? = some (some (N,live (S.al++[true]) (Bo (S.cs++[(x,S.al.length)]) i)))
  change Bo (S.cs++[(x,S.al.length)]) i≠[] at hne
  rcases RH hi with ⟨h1,h2⟩ | ⟨h1,h2⟩ | ⟨h1,h2,h3⟩
  ·exact absurd h2 hne
  ·rw [h2,h1];exact ⟨_,WJ _ _,lK _ _ _⟩
  ·rw [h3] at hne ⊢;obtain ⟨N,hN,ht⟩:=h.trees i h2 hne;refine ⟨N,hN,WL _ _ _ _ _ (by omega) ?_⟩
   show (DC S.tr (Bl (setB S.cs)))[i]? = _
   rw [oD _ _ _ (by omega),ht];unfold live;rw [YG _ fun y hy=>Gh hy]
 ·intro i hi y hy;change y∈Bo (S.cs++[(x,S.al.length)]) i at hy
  show (IK (S.lv++[Bl (setB S.cs)]) (Bl (setB S.cs)) (EF (setB S.cs) (x,S.al.length)))[y.2]? = some i
  have hyl:=hlt y (Gh hy);rw [AY] at hyl;rcases RH hi with ⟨h1,h2⟩ | ⟨h1,h2⟩ | ⟨h1,h2,h3⟩
  ·rw [h2] at hy;simp at hy
  ·rw [h2] at hy;rw [RG _ _ _ _ ⟨y,hy,rfl⟩ (by rw [AY,h.lvl];exact hyl),h1]
  ·have hb:Bl (setB S.cs)<BA (S.cs++[(x,S.al.length)]).length:=by
    change i<BA (S.cs++[(x,S.al.length)]).length at hi
    omega
   have hg:Bo (S.cs++[(x,S.al.length)]) (Bl (setB S.cs))=EF (setB S.cs) (x,S.al.length):=by
    rcases RH hb with ⟨g1,_⟩ | ⟨_,g2⟩ | ⟨g1,_⟩
    ·omega
    ·exact g2
    ·omega
   rw [LY _ _ _ _ fun z hz e=>MJ a1Q hb hi (by omega) (by rw [hg];exact hz) hy e];rw [h3] at hy;have hyc:=h.lt y (Gh hy);rw [List.getElem?_append_left (by rw [h.lvl];exact hyc)];exact h.a0v i h2 y hy
 ·show (JC (uz S x) _ _).tr.length≤20
  rw [bH];show max (DC S.tr (Bl (setB S.cs))).length _≤20
  rw [Qs];have:=h.trl;omega
def D8 [DecidableEq α] (S:HS α) (x:α) (k:Nat):HS α:={ S with al:=S.al.set k false,mp:=JA S.mp x }
def strike [DecidableEq α] (S:HS α) (k:Nat) (x:α):HS α:={ S with tr:=S.tr.set (S.lv.getD k 0) ((S.tr.getD (S.lv.getD k 0) none).map fun l=>(l.1,l.2.erase x)) }
def DI (S:HS α):HS α:={ S with cs:=CZ S.al S.cs,wk:=S.wk+(CZ S.al S.cs).length,tr:=[] }
def Pm (S:HS α) (i:Nat):HS α:=if (Bo S.cs i).isEmpty then S else JC S i (Bo S.cs i)
def Du (S:HS α) (n:Nat):HS α:=(List.range n).foldl Pm S
def Pn (S:HS α):HS α:=Du (DI S) (BA (CZ S.al S.cs).length)
def Dx [DecidableEq α] (S:HS α) (x:α) (k:Nat):HS α:=if 2*(JA S.mp x).length<S.cs.length then Pn (D8 S x k) else strike (D8 S x k) k x
structure Gx (S:HS α):Prop where
 nums:(S.cs.map (·.2)).Pairwise (· < ·)
 lt:∀y∈S.cs,y.2<S.al.length
 lvl:S.lv.length=S.al.length
 oC:S.mp.Perm ((CZ S.al S.cs).map fun y=>(y.1,(y.2:Int)))
 keys:(S.mp.map (·.1)).Nodup
theorem FK.core {S:HS α} (h:FK S):Gx S:=⟨h.nums,h.lt,h.lvl,h.oC,h.keys⟩
theorem iG [DecidableEq α] {m:List (α×Int)} (h:(m.map (·.1)).Nodup) {x:α} {k:Int}:m.lookup x=some k↔(x,k)∈m:=by
 induction m with
 |nil=>simp
 |cons a m ih=>
  rcases a with ⟨y,v⟩;rw [List.map_cons,List.nodup_cons] at h;have ih:=ih h.2;rw [List.lookup_cons,List.mem_cons];by_cases hy:x=y
  ·subst hy;simp only [beq_self_eq_true,Prod.mk.injEq,true_and];constructor
   ·intro e;exact .inl (Option.some.inj e).symm
   ·rintro (e | e)
    ·rw [e]
    ·exact absurd (List.mem_map.2 ⟨_,e,rfl⟩) h.1
  ·have:(x==y)=false:=by simpa using hy
   rw [this];simp only [Prod.mk.injEq,hy,false_and,false_or];exact ih
theorem Gx.look [DecidableEq α] {S:HS α} (h:Gx S) {x:α} {k:Int}:S.mp.lookup x=some k↔∃y∈S.cs,y.1=x∧(y.2:Int)=k∧S.al.getD y.2 false=true:=by
 rw [iG h.keys,h.oC.mem_iff,List.mem_map];unfold CZ;constructor
 ·rintro ⟨y,hy,e⟩;rw [List.mem_filter] at hy
  cases e
  exact ⟨y,hy.1,rfl,rfl,hy.2⟩
 ·rintro ⟨y,hy,rfl,rfl,ha⟩;exact ⟨y,List.mem_filter.2 ⟨hy,ha⟩,rfl⟩
theorem Gx.one [DecidableEq α] {S:HS α} (h:Gx S) {y z:α×Nat} (hy:y∈S.cs) (hz:z∈S.cs) (ha:S.al.getD y.2 false=true) (hb:S.al.getD z.2 false=true) (e:y.1=z.1):y.2=z.2:=by
 have h1:=h.look.2 ⟨y,hy,rfl,rfl,ha⟩;have h2:=h.look.2 ⟨z,hz,rfl,rfl,hb⟩;rw [e,h2] at h1;have:=Option.some.inj h1;omega
theorem Gx.same [DecidableEq α] {S:HS α} (h:Gx S) {y z:α×Nat} (hy:y∈S.cs) (hz:z∈S.cs) (e:y.2=z.2):y=z:=by
 have h1:S.cs.Pairwise fun a b=>a.2<b.2:=List.pairwise_map.1 h.nums
 rw [List.pairwise_iff_getElem] at h1;obtain ⟨i,hi,rfl⟩:=List.mem_iff_getElem.1 hy;obtain ⟨j,hj,rfl⟩:=List.mem_iff_getElem.1 hz;rcases Nat.lt_trichotomy i j with h2 | h2 | h2
 ·have:=h1 i j hi hj h2;omega
 ·subst h2;rfl
 ·have:=h1 j i hj hi h2;omega
theorem bI (al:List Bool) (k j:Nat):(al.set k false).getD j false=(al.getD j false&&j != k):=by
 rw [List.getD_eq_getElem?_getD,List.getD_eq_getElem?_getD];by_cases h:j=k
 ·subst h;rcases Nat.lt_or_ge j al.length with h1 | h1
  ·rw [List.getElem?_set_self h1];simp
  ·rw [List.getElem?_eq_none (by rw [List.length_set];exact h1)];simp
 ·rw [List.getElem?_set_ne (Ne.symm h)];simp [h]
theorem VW (al:List Bool) (k:Nat) (b:List (α×Nat)):CZ (al.set k false) b=(CZ al b).filter fun y=>y.2 != k:=by
 unfold CZ;rw [List.filter_filter];exact List.filter_congr fun y _=>by rw [bI,Bool.and_comm]
theorem Gx.drop1 [DecidableEq α] {S:HS α} (h:Gx S) {x:α} {k:Nat} (hk:S.mp.lookup x=some (k:Int)):Gx (D8 S x k):=by
 refine ⟨h.nums,fun y hy=>?_,?_,?_,RF h.keys x⟩
 ·show y.2<(S.al.set k false).length
  rw [List.length_set];exact h.lt y hy
 ·show S.lv.length=(S.al.set k false).length
  rw [List.length_set];exact h.lvl
 ·show (JA S.mp x).Perm ((CZ (S.al.set k false) S.cs).map fun y=>(y.1,(y.2:Int)))
  have h1:((CZ S.al S.cs).map fun y=>(y.1,(y.2:Int))).filter (fun p=>p.1 != x)=(CZ (S.al.set k false) S.cs).map fun y=>(y.1,(y.2:Int)):=by
   rw [VW,List.filter_map];congr 1
   refine List.filter_congr fun y hy=>?_
   unfold CZ at hy;rw [List.mem_filter] at hy;obtain ⟨z,hz,hz1,hz2,hz3⟩:=h.look.1 hk;show (y.1 != x)=(y.2 != k)
   by_cases e:y.1=x
   ·have:=h.one hy.1 hz hy.2 hz3 (by rw [e,hz1]);rw [e,show y.2=k by omega];simp
   ·have:y.2≠k:=by
     intro e2;have:=h.same hy.1 hz (by omega);exact e (by rw [this,hz1])
    rw [bne_iff_ne.2 e,bne_iff_ne.2 this]
  rw [←h1];exact h.oC.filter _
theorem Gx.a1R {S:HS α} (h:Gx S):Gx (DI S):=by
 have hsub:(CZ S.al S.cs).Sublist S.cs:=List.filter_sublist;refine ⟨h.nums.sublist (hsub.map _),fun y hy=>h.lt y (hsub.subset hy),h.lvl,?_,h.keys⟩
 show S.mp.Perm ((CZ S.al (CZ S.al S.cs)).map fun y=>(y.1,(y.2:Int)))
 have:CZ S.al (CZ S.al S.cs)=CZ S.al S.cs:=by unfold CZ;rw [List.filter_filter];simp
 rw [this];exact h.oC
theorem Po (S:HS α) (n:Nat):Du S (n+1)=Pm (Du S n) n:=by unfold Du;rw [List.range_succ,List.foldl_append];rfl
theorem GV [DecidableEq α] (S:HS α) (n:Nat):(Du S n).cs=S.cs∧(Du S n).al=S.al∧(Du S n).mp=S.mp∧(Du S n).wk=S.wk∧(Du S n).lv.length=S.lv.length:=by
 induction n with
 |zero=>exact ⟨rfl,rfl,rfl,rfl,rfl⟩
 |succ n ih=>
  rw [Po];unfold Pm;split
  ·exact ih
  ·obtain ⟨h1,h2,h3,h4,h5⟩:=ih;exact ⟨h1,h2,h3,h4,by unfold JC;simp only [Qr];exact h5⟩
theorem SX [DecidableEq α] {S:HS α} (h:Gx S) (h0:S.tr = []) (n:Nat) (hn:n≤BA S.cs.length) :
 (∀i,i<n→Bo S.cs i≠[]→∃N,N≤(Bo S.cs i).length∧(Du S n).tr[i]? = some (some (N,live S.al (Bo S.cs i))))∧(∀i,i<n→∀y∈Bo S.cs i,(Du S n).lv[y.2]? = some i)∧(Du S n).tr.length≤n:=by
 induction n with
 |zero=>exact ⟨fun i hi=>by omega,fun i hi=>by omega,by show S.tr.length≤0;rw [h0];simp⟩
 |succ n ih=>
  obtain ⟨i1,i2,i3⟩:=ih (by omega);obtain ⟨k1,k2,k3,k4,k5⟩:=GV S n;rw [Po];unfold Pm;rw [k1];by_cases he:(Bo S.cs n).isEmpty=true
  ·rw [if_pos he];have he':Bo S.cs n = []:=by simpa using he
   refine ⟨fun i hi hne=>?_,fun i hi y hy=>?_,by omega⟩
   ·rcases Nat.lt_or_ge i n with h1 | h1
    ·exact i1 i h1 hne
    ·have:i=n:=by omega
     subst this;exact absurd he' hne
   ·rcases Nat.lt_or_ge i n with h1 | h1
    ·exact i2 i h1 y hy
    ·have:i=n:=by omega
     subst this;rw [he'] at hy;simp at hy
  ·rw [if_neg he];refine ⟨fun i hi hne=>?_,fun i hi y hy=>?_,?_⟩
   ·rcases Nat.lt_or_ge i n with h1 | h1
    ·obtain ⟨N,hN,ht⟩:=i1 i h1 hne;exact ⟨N,hN,WL _ _ _ _ _ (by omega) ht⟩
    ·have:i=n:=by omega
     subst this;refine ⟨_,WJ S.al _,?_⟩
     rw [lK,k2]
   ·show (IK (Du S n).lv n (Bo S.cs n))[y.2]? = some i
    have hyl:y.2<(Du S n).lv.length:=by rw [k5,h.lvl];exact h.lt y (Gh hy)
    rcases Nat.lt_or_ge i n with h1 | h1
    ·rw [LY _ _ _ _ fun z hz e=>MJ h.nums (by omega) (by omega) (by omega) hz hy e];exact i2 i h1 y hy
    ·have:i=n:=by omega
     subst this;exact RG _ _ _ _ ⟨y,hy,rfl⟩ hyl
   ·rw [bH];omega
theorem Gx.anew [DecidableEq α] {S:HS α} (h:Gx S) (hl:S.cs.length<100000):FK (Pn S):=by
 have h0:=h.a1R;have hlen:(CZ S.al S.cs).length≤S.cs.length:=List.length_filter_le _ _;have hb:=CQ (CZ S.al S.cs).length 17 (by omega);obtain ⟨k1,k2,k3,k4,k5⟩:=GV (DI S) (BA (CZ S.al S.cs).length);obtain ⟨i1,i2,i3⟩:=SX h0 rfl (BA (CZ S.al S.cs).length) (Nat.le_refl _);unfold Pn;refine ⟨by rw [k1];exact h0.nums,by rw [k1,k2];exact h0.lt,by rw [k5,k2];exact h0.lvl,by rw [k1,k2,k3];exact h0.oC,by rw [k3];exact h0.keys,?_,?_,by omega⟩
 ·rw [k1,k2];exact i1
 ·rw [k1];exact i2
theorem YH [DecidableEq α]:∀(L:List (α×Nat)) (x:α) (k:Nat),L.Pairwise (fun a b=>a.2≠b.2)→(∀y∈L,y.1=x↔y.2=k)→(L.map (·.1)).erase x=(L.filter fun y=>y.2 != k).map (·.1)
 | [],_,_,_,_=>rfl
 |y::L,x,k,hp,h=>by
  rw [List.pairwise_cons] at hp;by_cases e:y.1=x
  ·have hk:=(h y (by simp)).1 e
   have hf:(L.filter fun y=>y.2 != k)=L:=by
    rw [List.filter_eq_self];intro z hz;rw [bne_iff_ne];exact fun e2=>hp.1 z hz (by rw [hk,e2])
   rw [List.map_cons,e,List.erase_cons_head,List.filter_cons,if_neg (by simp [hk]),hf]
  ·have hk:y.2≠k:=fun e2=>e ((h y (by simp)).2 e2)
   rw [List.map_cons,List.erase_cons_tail (by simpa using e),List.filter_cons,if_pos (by simpa using hk),List.map_cons,YH L x k hp.2 fun z hz=>h z (by simp [hz])]
theorem FK.at [DecidableEq α] {S:HS α} (h:FK S) {x:α} {k:Nat} (hk:S.mp.lookup x=some (k:Int)) :
 ∃i,i<BA S.cs.length∧(x,k)∈Bo S.cs i∧S.lv[k]? = some i∧S.al.getD k false=true∧∃N,N≤(Bo S.cs i).length∧S.tr[i]? = some (some (N,live S.al (Bo S.cs i))):=by
 obtain ⟨y,hy,h1,h2,h3⟩:=h.core.look.1 hk;have e2:y.2=k:=by omega
 obtain ⟨i,hi,hb⟩:=iF hy;have e:y=(x,k):=by rw [←h1,←e2]
 rw [e] at hb h3;have hl:=h.a0v i hi _ hb;exact ⟨i,hi,hb,hl,h3,h.trees i hi (fun e0=>by rw [e0] at hb;simp at hb)⟩
theorem FK.drop [DecidableEq α] {S:HS α} (h:FK S) {x:α} {k:Nat} (hk:S.mp.lookup x=some (k:Int)) (hl:S.cs.length<100000):FK (Dx S x k):=by
 have hc:=h.core.drop1 hk;unfold Dx;split
 ·exact hc.anew hl
 ·obtain ⟨i0,hi0,hb0,hlv,hal,N0,hN0,htr⟩:=h.at hk;have hgl:S.lv.getD k 0=i0:=by rw [List.getD_eq_getElem?_getD,hlv];rfl
  have hti:i0<S.tr.length:=(AV htr).1;refine ⟨hc.nums,hc.lt,hc.lvl,hc.oC,hc.keys,?_,h.a0v,?_⟩
  ·intro i hi hne;change i<BA S.cs.length at hi
   change Bo S.cs i≠[] at hne
   show ∃N,N≤(Bo S.cs i).length∧(S.tr.set (S.lv.getD k 0) ((S.tr.getD (S.lv.getD k 0) none).map fun l=>(l.1,l.2.erase x)))[i]? = some (some (N,live (S.al.set k false) (Bo S.cs i)))
   rw [hgl];by_cases e:i=i0
   ·subst e;refine ⟨N0,hN0,?_⟩
    rw [List.getElem?_set_self hti,List.getD_eq_getElem?_getD,htr];show some (some (N0,((live S.al (Bo S.cs i))).erase x))=_
    unfold live;rw [VW,YH]
    ·have h1:S.cs.Pairwise fun a b=>a.2≠b.2:=(List.pairwise_map.1 h.nums).imp fun h=>Nat.ne_of_lt h
     have h2:(Bo S.cs i).Sublist S.cs:=by
      unfold Bo;split
      ·exact (List.take_sublist _ _).trans (List.drop_sublist _ _)
      ·exact List.nil_sublist _
     exact h1.sublist (List.filter_sublist.trans h2)
    ·intro y hy;unfold CZ at hy;rw [List.mem_filter] at hy;have hyc:=Gh hy.1;have h0c:=Gh hb0;constructor
     ·intro e;exact h.core.one hyc h0c hy.2 hal e
     ·intro e;rw [h.core.same hyc h0c e]
   ·obtain ⟨N,hN,ht⟩:=h.trees i hi hne;refine ⟨N,hN,?_⟩
    rw [List.getElem?_set_ne (Ne.symm e),ht];congr 3
    unfold live;rw [VW];congr 1
    rw [eq_comm,List.filter_eq_self];intro y hy;unfold CZ at hy;rw [List.mem_filter] at hy;rw [bne_iff_ne];exact MJ h.nums hi hi0 e hy.1 hb0
  ·show (S.tr.set _ _).length≤20
   rw [List.length_set];exact h.trl
def view (S:HS α):List (α×Bool):=S.cs.map fun y=>(y.1,S.al.getD y.2 false)
def Di (V:List (α×Bool)):List α:=(V.filter (·.2)).map (·.1)
def DN [DecidableEq α] (V:List (α×Bool)) (x:α):List (α×Bool):=V.map fun p=>if p.1=x then (p.1,false) else p
def KH [DecidableEq α] (V:List (α×Bool)) (x:α):List (α×Bool):=if 2*(Di (DN V x)).length<V.length then (Di (DN V x)).map fun y=>(y,true) else DN V x
theorem IL (S:HS α):(view S).length=S.cs.length:=by simp [view]
theorem JD (S:HS α):Di (view S)=live S.al S.cs:=by
 unfold Di view live CZ;rw [List.filter_map,List.map_map];rfl
theorem Gx.Oi [DecidableEq α] {S:HS α} (h:Gx S):S.mp.length=(Di (view S)).length:=by
 rw [JD,h.oC.length_eq];simp [live]
theorem Gx.there [DecidableEq α] {S:HS α} (h:Gx S) (x:α):(S.mp.lookup x).isSome=decide ((x,true)∈view S):=by
 have h1:(x,true)∈view S↔∃k,S.mp.lookup x=some k:=by
  unfold view;rw [List.mem_map];constructor
  ·rintro ⟨y,hy,e⟩;simp only [Prod.mk.injEq] at e;exact ⟨_,h.look.2 ⟨y,hy,e.1,rfl,e.2⟩⟩
  ·rintro ⟨k,hk⟩;obtain ⟨y,hy,h1,h2,h3⟩:=h.look.1 hk;exact ⟨y,hy,by rw [h1,h3]⟩
 rw [Bool.eq_iff_iff,decide_eq_true_iff,h1,Option.isSome_iff_exists]
theorem Gx.num [DecidableEq α] {S:HS α} (h:Gx S) {x:α} {k:Int} (hk:S.mp.lookup x=some k):∃n:Nat,k=n∧n<S.al.length:=by
 obtain ⟨y,hy,h1,h2,h3⟩:=h.look.1 hk;exact ⟨y.2,h2.symm,h.lt y hy⟩
theorem Je [DecidableEq α] {S:HS α} (h:Gx S) {x:α} {k:Nat} (hk:S.mp.lookup x=some (k:Int)):view (D8 S x k)=DN (view S) x:=by
 obtain ⟨z,hz,hz1,hz2,hz3⟩:=h.look.1 hk;show S.cs.map (fun y=>(y.1,(S.al.set k false).getD y.2 false))=_
 unfold DN view;rw [List.map_map];refine List.map_congr_left fun y hy=>?_
 show (y.1,(S.al.set k false).getD y.2 false)=if y.1=x then (y.1,false) else (y.1,S.al.getD y.2 false)
 rw [bI];by_cases e:y.1=x
 ·rw [if_pos e];by_cases ha:S.al.getD y.2 false=true
  ·have:=h.one hy hz ha hz3 (by rw [e,hz1]);rw [show y.2=k by omega];simp
  ·simp at ha;simp [ha]
 ·rw [if_neg e]
  have:y.2≠k:=by
   intro e2;have:=h.same hy hz (by omega);exact e (by rw [this,hz1])
  rw [bne_iff_ne.2 this,Bool.and_true]
theorem oH [DecidableEq α] {S:HS α}:view (Pn S)=(Di (view S)).map fun y=>(y,true):=by
 obtain ⟨k1,k2,k3,k4,k5⟩:=GV (DI S) (BA (CZ S.al S.cs).length);unfold Pn view;rw [k1,k2];have:=JD S;unfold view at this;rw [this];unfold live;rw [List.map_map];refine List.map_congr_left fun y hy=>?_
 have hy':y∈CZ S.al S.cs:=hy;unfold CZ at hy';rw [List.mem_filter] at hy';show (y.1,S.al.getD y.2 false)=(y.1,true)
 rw [hy'.2]
theorem YI [DecidableEq α] {S:HS α} (h:FK S) {x:α} {k:Nat} (hk:S.mp.lookup x=some (k:Int)):view (Dx S x k)=KH (view S) x:=by
 have h1:=Je h.core hk;have hc:=(h.core.drop1 hk).Oi;rw [h1] at hc;unfold Dx KH;rw [←hc,IL];show view (if 2*(JA S.mp x).length<S.cs.length then _ else _)=if 2*(JA S.mp x).length<S.cs.length then _ else _
 split
 ·rw [oH,h1]
 ·exact h1
theorem VX [DecidableEq α] {S:HS α} (h:FK S) {x:α} {k:Nat} (hk:S.mp.lookup x=some (k:Int)) :
 (Dx S x k).wk=S.wk+(if 2*(Di (DN (view S) x)).length<(view S).length then (Di (DN (view S) x)).length else 0):=by
 have h1:=Je h.core hk;have hc:=(h.core.drop1 hk).Oi;rw [h1] at hc;unfold Dx;rw [←hc,IL];show (if 2*(JA S.mp x).length<S.cs.length then _ else _:HS α).wk=S.wk+if 2*(JA S.mp x).length<S.cs.length then (JA S.mp x).length else 0
 split
 ·obtain ⟨_,_,_,k4,_⟩:=GV (DI (D8 S x k)) (BA (CZ (D8 S x k).al (D8 S x k).cs).length);unfold Pn;rw [k4];show S.wk+(CZ (D8 S x k).al (D8 S x k).cs).length=_
  have:=(h.core.drop1 hk).oC.length_eq;rw [List.length_map] at this;rw [←this];rfl
 ·rfl
theorem oI {S:HS α} (I:FK S) (x:α):(live (S.al++[true]) (EF (setB S.cs) (x,S.al.length))).Sublist (live S.al S.cs++[x]):=by
 rw [(GU S.cs (x,S.al.length)).1];have YG:∀b,(∀y∈b,y∈S.cs)→CZ (S.al++[true]) b=CZ S.al b:=fun b hb=>UD fun y hy=>UE _ _ _ (I.lt y (hb y hy))
 unfold live;rw [LZ,List.map_append,YG _ fun y hy=>List.mem_of_mem_drop hy]
 have e:CZ (S.al++[true]) [(x,S.al.length)] = [(x,S.al.length)]:=by
  unfold CZ;rw [List.filter_cons,if_pos (UF S.al true),List.filter_nil]
 rw [e];refine List.Sublist.append (List.Sublist.map _ ?_) (List.Sublist.refl _)
 unfold CZ;exact (List.drop_sublist _ _).filter _
theorem YJ {S:HS α} [DecidableEq α] (I:FK S) (x:α):live (Yq S x).al (Yq S x).cs=live S.al S.cs++[x]:=by
 show live (S.al++[true]) (S.cs++[(x,S.al.length)])=_
 unfold live;rw [LZ,List.map_append];have YG:CZ (S.al++[true]) S.cs=CZ S.al S.cs:=UD fun y hy=>UE _ _ _ (I.lt y hy)
 have e:CZ (S.al++[true]) [(x,S.al.length)] = [(x,S.al.length)]:=by
  unfold CZ;rw [List.filter_cons,if_pos (UF S.al true),List.filter_nil]
 rw [YG,e];rfl
end
open Go.RowKit
structure QW (W:World) where
 w:World
 up:Bf [] W w
instance (W:World):Nonempty (QW W):=⟨⟨W,Bf.refl _ _⟩⟩
theorem Jf {P:Program} {id:Nat} {Q:Exit→Act→World→Prop} {a:Act} {w:World} {l:List Oper} (hm:P.follows .mixedOrders=true) (hB:Region.lexB .any l.toArray=true)
 (h:wpQuiet P l.toArray (fun w'=>∃x:QW w,w'=x.w) (fun a'=>∀w',(∃x:QW w,w'=x.w)→Q .normal a' w') l a):(Code.region id l.toArray true).wp P Q a w:=
 wp_region_quiet (C:=fun w'=>∃x:QW w,w'=x.w) hm hB ⟨⟨w.drewN 1,(Bf.refl _ _).drewN 1⟩,rfl⟩ (by simpa using h)
theorem Calls.Oj {P:Program} {f:FuncId} {args:Array Value} {w:World} {x:QW w} {v:Value}
 (h:Calls P f args x.w fun e w'=>e=.returned v∧Bf [] x.w w'):Calls P f args x.w fun e w''=>e=.returned v∧∃y:QW w,w''=y.w:=
 h.mono fun _ _ ⟨he,hu⟩=>⟨he,⟨⟨_,x.up.trans hu⟩,rfl⟩⟩
