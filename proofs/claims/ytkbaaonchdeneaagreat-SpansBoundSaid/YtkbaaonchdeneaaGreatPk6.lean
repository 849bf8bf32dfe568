/- Half, plainly, over things of any kind: things with numbers in buckets, which are alive, each bucket's list; what Add and Drop make of it. Lists of things of any number of cells, seen; the kinds of this seat. Maps from names (32 bits) to things of any kind: what a block of such a map has, as a function. slices.Clone at []int64: a new row that holds the same. Literals of numbers and of truth values, seen; rows that are made and stored into. No program but for the numbers of types. -/
import Derived.Test.YtkbaaonchdeneaaGreatRows
import Derived.Maps.OwnSet
import Derived.Maps.RangeWalk
import Derived.Laws.OwnMore
import Derived.Test.YtkbaaonchdeneaaGreatPkSpansTellP2
import Derived.Test.YtkbaaonchdeneaaGreatPkSpansTellP1
set_option maxHeartbeats 400000
set_option maxRecDepth 100000
namespace Go.Proofs.YtkbaaonchdeneaaGreat
section
variable {α:Type}
def mput [DecidableEq α] (m:List (α×Int)) (x:α) (v:Int):List (α×Int):=(x,v)::m.filter fun p=>p.1 != x
def mdel [DecidableEq α] (m:List (α×Int)) (x:α):List (α×Int):=m.filter fun p=>p.1 != x
theorem lookup_mdel [DecidableEq α] (m:List (α×Int)) (x y:α):(mdel m x).lookup y=if y=x then none else m.lookup y:=by
 unfold mdel
 induction m with
 |nil=>simp
 |cons a m ih=>
  rcases a with ⟨k,v⟩
  by_cases hk:k=x
  ·subst hk
   simp only [List.filter_cons,bne_self_eq_false,Bool.false_eq_true,if_false,ih,List.lookup_cons]
   by_cases hy:y=k
   ·simp [hy]
   ·have:(y==k)=false:=by simpa using hy
    simp [hy,this]
  ·have h1:(k != x)=true:=by simpa using hk
   simp only [List.filter_cons,h1,if_true,List.lookup_cons,ih]
   by_cases hy:y=x
   ·subst hy
    have:(y==k)=false:=by simpa using Ne.symm hk
    simp [this]
   ·simp [hy]
theorem lookup_mput [DecidableEq α] (m:List (α×Int)) (x:α) (v:Int) (y:α):(mput m x v).lookup y=if y=x then some v else m.lookup y:=by
 unfold mput
 rw [List.lookup_cons]
 by_cases hy:y=x
 ·simp [hy]
 ·have h:(y==x)=false:=by simpa using hy
  rw [h]
  have:=lookup_mdel m x y
  unfold mdel at this
  simp [this,hy]
theorem nodup_mdel [DecidableEq α] {m:List (α×Int)} (h:(m.map (·.1)).Nodup) (x:α):((mdel m x).map (·.1)).Nodup:=by
 unfold mdel
 exact h.sublist (List.filter_sublist.map _)
theorem nodup_mput [DecidableEq α] {m:List (α×Int)} (h:(m.map (·.1)).Nodup) (x:α) (v:Int):((mput m x v).map (·.1)).Nodup:=by
 unfold mput
 rw [List.map_cons,List.nodup_cons]
 refine ⟨?_,nodup_mdel h x⟩
 simp
theorem length_mdel [DecidableEq α] {m:List (α×Int)} (h:(m.map (·.1)).Nodup) (x:α):(mdel m x).length+(if (m.lookup x).isSome then 1 else 0)=m.length:=by
 unfold mdel
 induction m with
 |nil=>simp
 |cons a m ih=>
  rcases a with ⟨k,v⟩
  rw [List.map_cons,List.nodup_cons] at h
  have ih:=ih h.2
  by_cases hk:k=x
  ·subst hk
   have hn:m.lookup k=none:=by
    rw [List.lookup_eq_none_iff]
    intro p hp
    have:p.1≠k:=fun e=>h.1 (List.mem_map.2 ⟨p,hp,e⟩)
    simpa using Ne.symm this
   rw [hn] at ih
   simp only [List.filter_cons,bne_self_eq_false,Bool.false_eq_true,if_false,List.lookup_cons,beq_self_eq_true,Option.isSome_some,if_true,List.length_cons]
   simpa using ih
  ·have h1:(k != x)=true:=by simpa using hk
   have h2:(x==k)=false:=by simpa using Ne.symm hk
   simp only [List.filter_cons,h1,if_true,List.lookup_cons,h2,List.length_cons]
   omega
theorem length_mput [DecidableEq α] {m:List (α×Int)} (h:(m.map (·.1)).Nodup) (x:α) (v:Int):(mput m x v).length=if (m.lookup x).isSome then m.length else m.length+1:=by
 have:=length_mdel h x
 unfold mput
 rw [List.length_cons]
 unfold mdel at this
 by_cases hh:(m.lookup x).isSome=true
 ·rw [if_pos hh] at this ⊢
  omega
 ·rw [if_neg hh] at this ⊢
  omega
theorem take_step (l:List α) (m:Nat):l.take (l.length / 2 ^ (m+1)*2 ^ (m+1))++bucketOf l m=l.take (l.length / 2 ^ m*2 ^ m):=by
 unfold bucketOf
 split
 ·rename_i hb
  rw [top_yes l.length m hb,List.take_add]
 ·rename_i hb
  rw [top_no l.length m (by simpa using hb),List.append_nil]
structure HS (α:Type) where
 cs:List (α×Nat)
 al:List Bool
 lv:List Nat
 tr:List (Option (Nat×List α))
 mp:List (α×Int)
 wk:Nat
def liv (al:List Bool) (b:List (α×Nat)):List (α×Nat):=b.filter fun y=>al.getD y.2 false
def live (al:List Bool) (b:List (α×Nat)):List α:=(liv al b).map (·.1)
structure HInv (S:HS α):Prop where
 nums:(S.cs.map (·.2)).Pairwise (· < ·)
 lt:∀y∈S.cs,y.2<S.al.length
 lvl:S.lv.length=S.al.length
 mpp:S.mp.Perm ((liv S.al S.cs).map fun y=>(y.1,(y.2:Int)))
 keys:(S.mp.map (·.1)).Nodup
 trees:∀i,i<bitsN S.cs.length→bucketOf S.cs i≠[]→∃N,N≤(bucketOf S.cs i).length∧S.tr[i]? = some (some (N,live S.al (bucketOf S.cs i)))
 levs:∀i,i<bitsN S.cs.length→∀y∈bucketOf S.cs i,S.lv[y.2]? = some i
 trl:S.tr.length≤20
def pad (tr:List (Option (Nat×List α))) (n:Nat):List (Option (Nat×List α)):=tr++List.replicate (n - tr.length) none
def lvSet (lv:List Nat) (t:Nat) (l:List (α×Nat)):List Nat:=l.foldl (fun lv y=>lv.set y.2 t) lv
def fillS (S:HS α) (t:Nat) (l:List (α×Nat)):HS α:={ S with lv:=lvSet S.lv t l,tr:=(pad S.tr (t+1)).set t (some ((live S.al l).length,live S.al l)) }
theorem live_len (al:List Bool) (b:List (α×Nat)):(live al b).length≤b.length:=by
 unfold live liv
 rw [List.length_map]
 exact List.length_filter_le _ _
theorem lvSet_len (t:Nat):∀(l:List (α×Nat)) (lv:List Nat),(lvSet lv t l).length=lv.length
 | [],_=>rfl
 |y::l,lv=>by
  have:=lvSet_len t l (lv.set y.2 t)
  unfold lvSet at *
  rw [List.foldl_cons,this,List.length_set]
theorem lvSet_other (t k:Nat):∀(l:List (α×Nat)) (lv:List Nat),(∀y∈l,y.2≠k)→(lvSet lv t l)[k]? = lv[k]?
 | [],_,_=>rfl
 |y::l,lv,h=>by
  have:=lvSet_other t k l (lv.set y.2 t) (fun z hz=>h z (by simp [hz]))
  unfold lvSet at *
  rw [List.foldl_cons,this,List.getElem?_set_ne (h y (by simp))]
theorem lvSet_same [DecidableEq α] (t k:Nat):∀(l:List (α×Nat)) (lv:List Nat),(∃y∈l,y.2=k)→k<lv.length→(lvSet lv t l)[k]? = some t
 | [],_,h,_=>by simp at h
 |y::l,lv,h,hk=>by
  by_cases hin:∃z∈l,z.2=k
  ·have:=lvSet_same t k l (lv.set y.2 t) hin (by rw [List.length_set];exact hk)
   unfold lvSet at *
   rw [List.foldl_cons,this]
  ·have hy:y.2=k:=by
    obtain ⟨z,hz,hk'⟩:=h
    rcases List.mem_cons.1 hz with rfl | hz
    ·exact hk'
    ·exact absurd ⟨z,hz,hk'⟩ hin
   have:=lvSet_other t k l (lv.set y.2 t) (fun z hz e=>hin ⟨z,hz,e⟩)
   unfold lvSet at *
   rw [List.foldl_cons,this,hy,List.getElem?_set_self hk]
theorem lvSet_snoc (lv:List Nat) (t:Nat) (l:List (α×Nat)) (y:α×Nat):lvSet lv t (l++[y])=(lvSet lv t l).set y.2 t:=by simp [lvSet,List.foldl_append]
theorem pad_get (tr:List (Option (Nat×List α))) (n i:Nat) (v:Option (Nat×List α)) (h:tr[i]? = some v):(pad tr n)[i]? = some v:=by
 unfold pad
 rw [List.getElem?_append_left,h]
 exact (List.getElem?_eq_some_iff.1 h).1
theorem pad_len (tr:List (Option (Nat×List α))) (n:Nat):(pad tr n).length=max tr.length n:=by unfold pad;rw [List.length_append,List.length_replicate];omega
theorem fill_at [DecidableEq α] (S:HS α) (t:Nat) (l:List (α×Nat)):(fillS S t l).tr[t]? = some (some ((live S.al l).length,live S.al l)):=by
 unfold fillS
 rw [List.getElem?_set_self (by rw [pad_len];omega)]
theorem fill_other [DecidableEq α] (S:HS α) (t:Nat) (l:List (α×Nat)) (i:Nat) (v:Option (Nat×List α)) (hi:i≠t) (h:S.tr[i]? = some v):(fillS S t l).tr[i]? = some v:=by
 unfold fillS
 rw [List.getElem?_set_ne (Ne.symm hi)]
 exact pad_get _ _ _ _ h
theorem fill_len [DecidableEq α] (S:HS α) (t:Nat) (l:List (α×Nat)):(fillS S t l).tr.length=max S.tr.length (t+1):=by
 unfold fillS
 rw [List.length_set,pad_len]
theorem buckets_apart {cs:List (α×Nat)} (h:(cs.map (·.2)).Pairwise (· < ·)) {i j:Nat} (hi:i<bitsN cs.length) (hj:j<bitsN cs.length) (hij:i≠j) {y z:α×Nat} (hy:y∈bucketOf cs i) (hz:z∈bucketOf cs j):y.2≠z.2:=by
 have h1:cs.Pairwise fun a b=>a.2≠b.2:=(List.pairwise_map.1 h).imp fun h=>Nat.ne_of_lt h
 rw [←setB_all cs,List.pairwise_flatten] at h1
 have h2:=List.pairwise_reverse.1 h1.2
 rw [List.pairwise_iff_getElem] at h2
 have gi:=setB_get cs i hi
 have gj:=setB_get cs j hj
 obtain ⟨li,ei⟩:=List.getElem?_eq_some_iff.1 gi
 obtain ⟨lj,ej⟩:=List.getElem?_eq_some_iff.1 gj
 rcases Nat.lt_or_gt_of_ne hij with h3 | h3
 ·have:=h2 i j li lj h3
  rw [ei,ej] at this
  exact Ne.symm (this z hz y hy)
 ·have:=h2 j i lj li h3
  rw [ei,ej] at this
  exact this y hy z hz
theorem bucket_mem {cs:List (α×Nat)} {i:Nat} {y:α×Nat} (h:y∈bucketOf cs i):y∈cs:=by
 unfold bucketOf at h
 split at h
 ·exact List.mem_of_mem_drop (List.mem_of_mem_take h)
 ·simp at h
theorem mem_bucket {cs:List (α×Nat)} {y:α×Nat} (h:y∈cs):∃i,i<bitsN cs.length∧y∈bucketOf cs i:=by
 rw [←setB_all cs,List.mem_flatten] at h
 obtain ⟨b,hb,hy⟩:=h
 rw [List.mem_reverse] at hb
 obtain ⟨i,hi⟩:=List.mem_iff_getElem?.1 hb
 have hlt:i<bitsN cs.length:=by
  have:=(List.getElem?_eq_some_iff.1 hi).1
  rwa [setB_len] at this
 rw [setB_get cs i hlt] at hi
 cases hi
 exact ⟨i,hlt,hy⟩
theorem liv_app (al:List Bool) (a b:List (α×Nat)):liv al (a++b)=liv al a++liv al b:=by simp [liv]
theorem liv_congr {al al':List Bool} {b:List (α×Nat)} (h:∀y∈b,al'.getD y.2 false=al.getD y.2 false):liv al' b=liv al b:=by
 unfold liv
 exact List.filter_congr fun y hy=>by rw [h y hy]
theorem getD_snoc (al:List Bool) (c:Bool) (k:Nat) (h:k<al.length):(al++[c]).getD k false=al.getD k false:=by
 simp [List.getD,List.getElem?_append_left h]
theorem getD_last (al:List Bool) (c:Bool):(al++[c]).getD al.length false=c:=by
 simp [List.getD]
def clearTr (tr:List (Option (Nat×List α))) (t:Nat):List (Option (Nat×List α)):=List.replicate (min t tr.length) none++tr.drop t
def addS1 [DecidableEq α] (S:HS α) (x:α):HS α:=
 { cs:=S.cs++[(x,S.al.length)],al:=S.al++[true],lv:=S.lv++[firstE (setB S.cs)],tr:=clearTr S.tr (firstE (setB S.cs)),mp:=mput S.mp x S.al.length,wk:=S.wk+2 ^ firstE (setB S.cs) }
def addS [DecidableEq α] (S:HS α) (x:α):HS α:=fillS (addS1 S x) (firstE (setB S.cs)) (gath (setB S.cs) (x,S.al.length))
theorem clear_get (tr:List (Option (Nat×List α))) (t i:Nat) (h:t≤i):(clearTr tr t)[i]? = tr[i]?:=by
 unfold clearTr
 rcases Nat.lt_or_ge t tr.length with h1 | h1
 ·rw [List.getElem?_append_right (by rw [List.length_replicate];omega),List.length_replicate,List.getElem?_drop]
  congr 1
  omega
 ·rw [List.drop_eq_nil_of_le h1,List.append_nil,List.getElem?_eq_none (by rw [List.length_replicate];omega),List.getElem?_eq_none (by omega)]
theorem clear_len (tr:List (Option (Nat×List α))) (t:Nat):(clearTr tr t).length=tr.length:=by
 unfold clearTr
 rw [List.length_append,List.length_replicate,List.length_drop]
 omega
theorem mdel_none [DecidableEq α] {m:List (α×Int)} {x:α} (h:m.lookup x=none):(m.filter fun p=>p.1 != x)=m:=by
 rw [List.filter_eq_self]
 intro p hp
 rw [List.lookup_eq_none_iff] at h
 have:=h p hp
 simp at this ⊢
 exact fun e=>this e.symm
theorem addB_lt {bs:List (List α)} {x:α} {i:Nat} (h:i<firstE bs):(addB bs x)[i]? = some []:=by
 unfold addB
 rw [List.getElem?_append_left (by simpa using h),List.getElem?_replicate,if_pos h]
theorem addB_at' {bs:List (List α)} {x:α}:(addB bs x)[firstE bs]? = some (gath bs x):=by
 unfold addB
 rw [List.getElem?_append_right (by simp)]
 simp
theorem addB_gt {bs:List (List α)} {x:α} {i:Nat} (h:firstE bs<i):(addB bs x)[i]? = bs[i]?:=by
 unfold addB
 rw [List.getElem?_append_right (by simp;omega),List.length_replicate,show i - firstE bs=(i - firstE bs - 1)+1 by omega,List.getElem?_cons_succ,List.getElem?_drop]
 congr 1
 omega
theorem bucket_add [DecidableEq α] {cs:List α} {x:α} {i:Nat} (hi:i<bitsN (cs++[x]).length) :
 (i<firstE (setB cs)∧bucketOf (cs++[x]) i = [])∨(i=firstE (setB cs)∧bucketOf (cs++[x]) i=gath (setB cs) x)∨(firstE (setB cs)<i∧i<bitsN cs.length∧bucketOf (cs++[x]) i=bucketOf cs i):=by
 have h:=setB_get (cs++[x]) i hi
 rw [←add_set] at h
 rcases Nat.lt_trichotomy i (firstE (setB cs)) with h1 | h1 | h1
 ·rw [addB_lt h1] at h
  exact .inl ⟨h1,(Option.some.inj h).symm⟩
 ·subst h1
  rw [addB_at'] at h
  exact .inr (.inl ⟨rfl,(Option.some.inj h).symm⟩)
 ·rw [addB_gt h1] at h
  have hlt:i<bitsN cs.length:=by
   have:=(List.getElem?_eq_some_iff.1 h).1
   rwa [setB_len] at this
  rw [setB_get cs i hlt] at h
  exact .inr (.inr ⟨h1,hlt,(Option.some.inj h).symm⟩)
theorem HInv.add [DecidableEq α] {S:HS α} (h:HInv S) (x:α) (hx:S.mp.lookup x=none) (hl:S.cs.length<100000):HInv (addS S x):=by
 have hnums:((S.cs++[(x,S.al.length)]).map (·.2)).Pairwise (· < ·):=by
  rw [List.map_append,List.pairwise_append]
  refine ⟨h.nums,by simp,fun a ha b hb=>?_⟩
  obtain ⟨y,hy,rfl⟩:=List.mem_map.1 ha
  simp at hb
  subst hb
  exact h.lt y hy
 have hcong:∀b,(∀y∈b,y∈S.cs)→liv (S.al++[true]) b=liv S.al b:=fun b hb=>liv_congr fun y hy=>getD_snoc _ _ _ (h.lt y (hb y hy))
 have hliv:liv (S.al++[true]) (S.cs++[(x,S.al.length)])=liv S.al S.cs++[(x,S.al.length)]:=by
  rw [liv_app,hcong S.cs fun y hy=>hy]
  have:liv (S.al++[true]) [(x,S.al.length)] = [(x,S.al.length)]:=by
   unfold liv
   rw [List.filter_cons,if_pos (getD_last S.al true),List.filter_nil]
  rw [this]
 have hlt:∀y∈S.cs++[(x,S.al.length)],y.2<(S.al++[true]).length:=by
  intro y hy
  rw [List.length_append]
  rcases List.mem_append.1 hy with hy | hy
  ·have:=h.lt y hy;simp;omega
  ·simp at hy;subst hy;simp
 have hb20:firstE (setB S.cs)≤17:=by
  have h1:=firstE_le (setB S.cs)
  rw [setB_len] at h1
  have h2:=bitsN_le S.cs.length 17 (by omega)
  omega
 refine ⟨hnums,hlt,?_,?_,nodup_mput h.keys x _,?_,?_,?_⟩
 ·show (lvSet (S.lv++[firstE (setB S.cs)]) (firstE (setB S.cs)) (gath (setB S.cs) (x,S.al.length))).length=(S.al++[true]).length
  rw [lvSet_len,List.length_append,List.length_append,h.lvl]
  rfl
 ·show (mput S.mp x S.al.length).Perm _
  unfold mput
  rw [mdel_none hx]
  show ((x,(S.al.length:Int))::S.mp).Perm ((liv (S.al++[true]) (S.cs++[(x,S.al.length)])).map fun y=>(y.1,(y.2:Int)))
  rw [hliv,List.map_append]
  exact (List.Perm.cons _ h.mpp).trans (List.perm_append_singleton _ _).symm
 ·intro i hi hne
  show ∃N,N≤(bucketOf (S.cs++[(x,S.al.length)]) i).length∧(addS S x).tr[i]? = some (some (N,live (S.al++[true]) (bucketOf (S.cs++[(x,S.al.length)]) i)))
  change bucketOf (S.cs++[(x,S.al.length)]) i≠[] at hne
  rcases bucket_add hi with ⟨h1,h2⟩ | ⟨h1,h2⟩ | ⟨h1,h2,h3⟩
  ·exact absurd h2 hne
  ·rw [h2,h1]
   exact ⟨_,live_len _ _,fill_at _ _ _⟩
  ·rw [h3] at hne ⊢
   obtain ⟨N,hN,ht⟩:=h.trees i h2 hne
   refine ⟨N,hN,fill_other _ _ _ _ _ (by omega) ?_⟩
   show (clearTr S.tr (firstE (setB S.cs)))[i]? = _
   rw [clear_get _ _ _ (by omega),ht]
   unfold live
   rw [hcong _ fun y hy=>bucket_mem hy]
 ·intro i hi y hy
  change y∈bucketOf (S.cs++[(x,S.al.length)]) i at hy
  show (lvSet (S.lv++[firstE (setB S.cs)]) (firstE (setB S.cs)) (gath (setB S.cs) (x,S.al.length)))[y.2]? = some i
  have hyl:=hlt y (bucket_mem hy)
  rw [List.length_append] at hyl
  rcases bucket_add hi with ⟨h1,h2⟩ | ⟨h1,h2⟩ | ⟨h1,h2,h3⟩
  ·rw [h2] at hy;simp at hy
  ·rw [h2] at hy
   rw [lvSet_same _ _ _ _ ⟨y,hy,rfl⟩ (by rw [List.length_append,h.lvl];exact hyl),h1]
  ·have hb:firstE (setB S.cs)<bitsN (S.cs++[(x,S.al.length)]).length:=by
    change i<bitsN (S.cs++[(x,S.al.length)]).length at hi
    omega
   have hg:bucketOf (S.cs++[(x,S.al.length)]) (firstE (setB S.cs))=gath (setB S.cs) (x,S.al.length):=by
    rcases bucket_add hb with ⟨g1,_⟩ | ⟨_,g2⟩ | ⟨g1,_⟩
    ·omega
    ·exact g2
    ·omega
   rw [lvSet_other _ _ _ _ fun z hz e=>buckets_apart hnums hb hi (by omega) (by rw [hg];exact hz) hy e]
   rw [h3] at hy
   have hyc:=h.lt y (bucket_mem hy)
   rw [List.getElem?_append_left (by rw [h.lvl];exact hyc)]
   exact h.levs i h2 y hy
 ·show (fillS (addS1 S x) _ _).tr.length≤20
  rw [fill_len]
  show max (clearTr S.tr (firstE (setB S.cs))).length _≤20
  rw [clear_len]
  have:=h.trl
  omega
def dropS1 [DecidableEq α] (S:HS α) (x:α) (k:Nat):HS α:={ S with al:=S.al.set k false,mp:=mdel S.mp x }
def strike [DecidableEq α] (S:HS α) (k:Nat) (x:α):HS α:={ S with tr:=S.tr.set (S.lv.getD k 0) ((S.tr.getD (S.lv.getD k 0) none).map fun l=>(l.1,l.2.erase x)) }
def anewS0 (S:HS α):HS α:={ S with cs:=liv S.al S.cs,wk:=S.wk+(liv S.al S.cs).length,tr:=[] }
def anewStep (S:HS α) (i:Nat):HS α:=if (bucketOf S.cs i).isEmpty then S else fillS S i (bucketOf S.cs i)
def anewTo (S:HS α) (n:Nat):HS α:=(List.range n).foldl anewStep S
def anewS (S:HS α):HS α:=anewTo (anewS0 S) (bitsN (liv S.al S.cs).length)
def dropS [DecidableEq α] (S:HS α) (x:α) (k:Nat):HS α:=if 2*(mdel S.mp x).length<S.cs.length then anewS (dropS1 S x k) else strike (dropS1 S x k) k x
structure HCore (S:HS α):Prop where
 nums:(S.cs.map (·.2)).Pairwise (· < ·)
 lt:∀y∈S.cs,y.2<S.al.length
 lvl:S.lv.length=S.al.length
 mpp:S.mp.Perm ((liv S.al S.cs).map fun y=>(y.1,(y.2:Int)))
 keys:(S.mp.map (·.1)).Nodup
theorem HInv.core {S:HS α} (h:HInv S):HCore S:=⟨h.nums,h.lt,h.lvl,h.mpp,h.keys⟩
theorem mem_lookup [DecidableEq α] {m:List (α×Int)} (h:(m.map (·.1)).Nodup) {x:α} {k:Int}:m.lookup x=some k↔(x,k)∈m:=by
 induction m with
 |nil=>simp
 |cons a m ih=>
  rcases a with ⟨y,v⟩
  rw [List.map_cons,List.nodup_cons] at h
  have ih:=ih h.2
  rw [List.lookup_cons,List.mem_cons]
  by_cases hy:x=y
  ·subst hy
   simp only [beq_self_eq_true,Prod.mk.injEq,true_and]
   constructor
   ·intro e;exact .inl (Option.some.inj e).symm
   ·rintro (e | e)
    ·rw [e]
    ·exact absurd (List.mem_map.2 ⟨_,e,rfl⟩) h.1
  ·have:(x==y)=false:=by simpa using hy
   rw [this]
   simp only [Prod.mk.injEq,hy,false_and,false_or]
   exact ih
theorem HCore.look [DecidableEq α] {S:HS α} (h:HCore S) {x:α} {k:Int}:S.mp.lookup x=some k↔∃y∈S.cs,y.1=x∧(y.2:Int)=k∧S.al.getD y.2 false=true:=by
 rw [mem_lookup h.keys,h.mpp.mem_iff,List.mem_map]
 unfold liv
 constructor
 ·rintro ⟨y,hy,e⟩
  rw [List.mem_filter] at hy
  cases e
  exact ⟨y,hy.1,rfl,rfl,hy.2⟩
 ·rintro ⟨y,hy,rfl,rfl,ha⟩
  exact ⟨y,List.mem_filter.2 ⟨hy,ha⟩,rfl⟩
theorem HCore.one [DecidableEq α] {S:HS α} (h:HCore S) {y z:α×Nat} (hy:y∈S.cs) (hz:z∈S.cs) (ha:S.al.getD y.2 false=true) (hb:S.al.getD z.2 false=true) (e:y.1=z.1):y.2=z.2:=by
 have h1:=h.look.2 ⟨y,hy,rfl,rfl,ha⟩
 have h2:=h.look.2 ⟨z,hz,rfl,rfl,hb⟩
 rw [e,h2] at h1
 have:=Option.some.inj h1
 omega
theorem HCore.same [DecidableEq α] {S:HS α} (h:HCore S) {y z:α×Nat} (hy:y∈S.cs) (hz:z∈S.cs) (e:y.2=z.2):y=z:=by
 have h1:S.cs.Pairwise fun a b=>a.2<b.2:=List.pairwise_map.1 h.nums
 rw [List.pairwise_iff_getElem] at h1
 obtain ⟨i,hi,rfl⟩:=List.mem_iff_getElem.1 hy
 obtain ⟨j,hj,rfl⟩:=List.mem_iff_getElem.1 hz
 rcases Nat.lt_trichotomy i j with h2 | h2 | h2
 ·have:=h1 i j hi hj h2;omega
 ·subst h2;rfl
 ·have:=h1 j i hj hi h2;omega
theorem getD_set (al:List Bool) (k j:Nat):(al.set k false).getD j false=(al.getD j false&&j != k):=by
 rw [List.getD_eq_getElem?_getD,List.getD_eq_getElem?_getD]
 by_cases h:j=k
 ·subst h
  rcases Nat.lt_or_ge j al.length with h1 | h1
  ·rw [List.getElem?_set_self h1];simp
  ·rw [List.getElem?_eq_none (by rw [List.length_set];exact h1)];simp
 ·rw [List.getElem?_set_ne (Ne.symm h)]
  simp [h]
theorem liv_set (al:List Bool) (k:Nat) (b:List (α×Nat)):liv (al.set k false) b=(liv al b).filter fun y=>y.2 != k:=by
 unfold liv
 rw [List.filter_filter]
 exact List.filter_congr fun y _=>by rw [getD_set,Bool.and_comm]
theorem HCore.drop1 [DecidableEq α] {S:HS α} (h:HCore S) {x:α} {k:Nat} (hk:S.mp.lookup x=some (k:Int)):HCore (dropS1 S x k):=by
 refine ⟨h.nums,fun y hy=>?_,?_,?_,nodup_mdel h.keys x⟩
 ·show y.2<(S.al.set k false).length
  rw [List.length_set];exact h.lt y hy
 ·show S.lv.length=(S.al.set k false).length
  rw [List.length_set];exact h.lvl
 ·show (mdel S.mp x).Perm ((liv (S.al.set k false) S.cs).map fun y=>(y.1,(y.2:Int)))
  have h1:((liv S.al S.cs).map fun y=>(y.1,(y.2:Int))).filter (fun p=>p.1 != x)=(liv (S.al.set k false) S.cs).map fun y=>(y.1,(y.2:Int)):=by
   rw [liv_set,List.filter_map]
   congr 1
   refine List.filter_congr fun y hy=>?_
   unfold liv at hy
   rw [List.mem_filter] at hy
   obtain ⟨z,hz,hz1,hz2,hz3⟩:=h.look.1 hk
   show (y.1 != x)=(y.2 != k)
   by_cases e:y.1=x
   ·have:=h.one hy.1 hz hy.2 hz3 (by rw [e,hz1])
    rw [e,show y.2=k by omega];simp
   ·have:y.2≠k:=by
     intro e2
     have:=h.same hy.1 hz (by omega)
     exact e (by rw [this,hz1])
    rw [bne_iff_ne.2 e,bne_iff_ne.2 this]
  rw [←h1]
  exact h.mpp.filter _
theorem HCore.anew0 {S:HS α} (h:HCore S):HCore (anewS0 S):=by
 have hsub:(liv S.al S.cs).Sublist S.cs:=List.filter_sublist
 refine ⟨h.nums.sublist (hsub.map _),fun y hy=>h.lt y (hsub.subset hy),h.lvl,?_,h.keys⟩
 show S.mp.Perm ((liv S.al (liv S.al S.cs)).map fun y=>(y.1,(y.2:Int)))
 have:liv S.al (liv S.al S.cs)=liv S.al S.cs:=by unfold liv;rw [List.filter_filter];simp
 rw [this]
 exact h.mpp
theorem anewTo_succ (S:HS α) (n:Nat):anewTo S (n+1)=anewStep (anewTo S n) n:=by unfold anewTo;rw [List.range_succ,List.foldl_append];rfl
theorem anewTo_keep [DecidableEq α] (S:HS α) (n:Nat):(anewTo S n).cs=S.cs∧(anewTo S n).al=S.al∧(anewTo S n).mp=S.mp∧(anewTo S n).wk=S.wk∧(anewTo S n).lv.length=S.lv.length:=by
 induction n with
 |zero=>exact ⟨rfl,rfl,rfl,rfl,rfl⟩
 |succ n ih=>
  rw [anewTo_succ]
  unfold anewStep
  split
  ·exact ih
  ·obtain ⟨h1,h2,h3,h4,h5⟩:=ih
   exact ⟨h1,h2,h3,h4,by unfold fillS;simp only [lvSet_len];exact h5⟩
theorem anewTo_trees [DecidableEq α] {S:HS α} (h:HCore S) (h0:S.tr = []) (n:Nat) (hn:n≤bitsN S.cs.length) :
 (∀i,i<n→bucketOf S.cs i≠[]→∃N,N≤(bucketOf S.cs i).length∧(anewTo S n).tr[i]? = some (some (N,live S.al (bucketOf S.cs i))))∧(∀i,i<n→∀y∈bucketOf S.cs i,(anewTo S n).lv[y.2]? = some i)∧(anewTo S n).tr.length≤n:=by
 induction n with
 |zero=>exact ⟨fun i hi=>by omega,fun i hi=>by omega,by show S.tr.length≤0;rw [h0];simp⟩
 |succ n ih=>
  obtain ⟨i1,i2,i3⟩:=ih (by omega)
  obtain ⟨k1,k2,k3,k4,k5⟩:=anewTo_keep S n
  rw [anewTo_succ]
  unfold anewStep
  rw [k1]
  by_cases he:(bucketOf S.cs n).isEmpty=true
  ·rw [if_pos he]
   have he':bucketOf S.cs n = []:=by simpa using he
   refine ⟨fun i hi hne=>?_,fun i hi y hy=>?_,by omega⟩
   ·rcases Nat.lt_or_ge i n with h1 | h1
    ·exact i1 i h1 hne
    ·have:i=n:=by omega
     subst this
     exact absurd he' hne
   ·rcases Nat.lt_or_ge i n with h1 | h1
    ·exact i2 i h1 y hy
    ·have:i=n:=by omega
     subst this
     rw [he'] at hy;simp at hy
  ·rw [if_neg he]
   refine ⟨fun i hi hne=>?_,fun i hi y hy=>?_,?_⟩
   ·rcases Nat.lt_or_ge i n with h1 | h1
    ·obtain ⟨N,hN,ht⟩:=i1 i h1 hne
     exact ⟨N,hN,fill_other _ _ _ _ _ (by omega) ht⟩
    ·have:i=n:=by omega
     subst this
     refine ⟨_,live_len S.al _,?_⟩
     rw [fill_at,k2]
   ·show (lvSet (anewTo S n).lv n (bucketOf S.cs n))[y.2]? = some i
    have hyl:y.2<(anewTo S n).lv.length:=by rw [k5,h.lvl];exact h.lt y (bucket_mem hy)
    rcases Nat.lt_or_ge i n with h1 | h1
    ·rw [lvSet_other _ _ _ _ fun z hz e=>buckets_apart h.nums (by omega) (by omega) (by omega) hz hy e]
     exact i2 i h1 y hy
    ·have:i=n:=by omega
     subst this
     exact lvSet_same _ _ _ _ ⟨y,hy,rfl⟩ hyl
   ·rw [fill_len];omega
theorem HCore.anew [DecidableEq α] {S:HS α} (h:HCore S) (hl:S.cs.length<100000):HInv (anewS S):=by
 have h0:=h.anew0
 have hlen:(liv S.al S.cs).length≤S.cs.length:=List.length_filter_le _ _
 have hb:=bitsN_le (liv S.al S.cs).length 17 (by omega)
 obtain ⟨k1,k2,k3,k4,k5⟩:=anewTo_keep (anewS0 S) (bitsN (liv S.al S.cs).length)
 obtain ⟨i1,i2,i3⟩:=anewTo_trees h0 rfl (bitsN (liv S.al S.cs).length) (Nat.le_refl _)
 unfold anewS
 refine ⟨by rw [k1];exact h0.nums,by rw [k1,k2];exact h0.lt,by rw [k5,k2];exact h0.lvl,by rw [k1,k2,k3];exact h0.mpp,by rw [k3];exact h0.keys,?_,?_,by omega⟩
 ·rw [k1,k2];exact i1
 ·rw [k1];exact i2
theorem erase_num [DecidableEq α]:∀(L:List (α×Nat)) (x:α) (k:Nat),L.Pairwise (fun a b=>a.2≠b.2)→(∀y∈L,y.1=x↔y.2=k)→(L.map (·.1)).erase x=(L.filter fun y=>y.2 != k).map (·.1)
 | [],_,_,_,_=>rfl
 |y::L,x,k,hp,h=>by
  rw [List.pairwise_cons] at hp
  by_cases e:y.1=x
  ·have hk:=(h y (by simp)).1 e
   have hf:(L.filter fun y=>y.2 != k)=L:=by
    rw [List.filter_eq_self]
    intro z hz
    rw [bne_iff_ne]
    exact fun e2=>hp.1 z hz (by rw [hk,e2])
   rw [List.map_cons,e,List.erase_cons_head,List.filter_cons,if_neg (by simp [hk]),hf]
  ·have hk:y.2≠k:=fun e2=>e ((h y (by simp)).2 e2)
   rw [List.map_cons,List.erase_cons_tail (by simpa using e),List.filter_cons,if_pos (by simpa using hk),List.map_cons,erase_num L x k hp.2 fun z hz=>h z (by simp [hz])]
theorem HInv.at [DecidableEq α] {S:HS α} (h:HInv S) {x:α} {k:Nat} (hk:S.mp.lookup x=some (k:Int)) :
 ∃i,i<bitsN S.cs.length∧(x,k)∈bucketOf S.cs i∧S.lv[k]? = some i∧S.al.getD k false=true∧∃N,N≤(bucketOf S.cs i).length∧S.tr[i]? = some (some (N,live S.al (bucketOf S.cs i))):=by
 obtain ⟨y,hy,h1,h2,h3⟩:=h.core.look.1 hk
 have e2:y.2=k:=by omega
 obtain ⟨i,hi,hb⟩:=mem_bucket hy
 have e:y=(x,k):=by rw [←h1,←e2]
 rw [e] at hb h3
 have hl:=h.levs i hi _ hb
 exact ⟨i,hi,hb,hl,h3,h.trees i hi (fun e0=>by rw [e0] at hb;simp at hb)⟩
theorem HInv.drop [DecidableEq α] {S:HS α} (h:HInv S) {x:α} {k:Nat} (hk:S.mp.lookup x=some (k:Int)) (hl:S.cs.length<100000):HInv (dropS S x k):=by
 have hc:=h.core.drop1 hk
 unfold dropS
 split
 ·exact hc.anew hl
 ·obtain ⟨i0,hi0,hb0,hlv,hal,N0,hN0,htr⟩:=h.at hk
  have hgl:S.lv.getD k 0=i0:=by rw [List.getD_eq_getElem?_getD,hlv];rfl
  have hti:i0<S.tr.length:=(List.getElem?_eq_some_iff.1 htr).1
  refine ⟨hc.nums,hc.lt,hc.lvl,hc.mpp,hc.keys,?_,h.levs,?_⟩
  ·intro i hi hne
   change i<bitsN S.cs.length at hi
   change bucketOf S.cs i≠[] at hne
   show ∃N,N≤(bucketOf S.cs i).length∧(S.tr.set (S.lv.getD k 0) ((S.tr.getD (S.lv.getD k 0) none).map fun l=>(l.1,l.2.erase x)))[i]? = some (some (N,live (S.al.set k false) (bucketOf S.cs i)))
   rw [hgl]
   by_cases e:i=i0
   ·subst e
    refine ⟨N0,hN0,?_⟩
    rw [List.getElem?_set_self hti,List.getD_eq_getElem?_getD,htr]
    show some (some (N0,((live S.al (bucketOf S.cs i))).erase x))=_
    unfold live
    rw [liv_set,erase_num]
    ·have h1:S.cs.Pairwise fun a b=>a.2≠b.2:=(List.pairwise_map.1 h.nums).imp fun h=>Nat.ne_of_lt h
     have h2:(bucketOf S.cs i).Sublist S.cs:=by
      unfold bucketOf
      split
      ·exact (List.take_sublist _ _).trans (List.drop_sublist _ _)
      ·exact List.nil_sublist _
     exact h1.sublist (List.filter_sublist.trans h2)
    ·intro y hy
     unfold liv at hy
     rw [List.mem_filter] at hy
     have hyc:=bucket_mem hy.1
     have h0c:=bucket_mem hb0
     constructor
     ·intro e;exact h.core.one hyc h0c hy.2 hal e
     ·intro e;rw [h.core.same hyc h0c e]
   ·obtain ⟨N,hN,ht⟩:=h.trees i hi hne
    refine ⟨N,hN,?_⟩
    rw [List.getElem?_set_ne (Ne.symm e),ht]
    congr 3
    unfold live
    rw [liv_set]
    congr 1
    rw [eq_comm,List.filter_eq_self]
    intro y hy
    unfold liv at hy
    rw [List.mem_filter] at hy
    rw [bne_iff_ne]
    exact buckets_apart h.nums hi hi0 e hy.1 hb0
  ·show (S.tr.set _ _).length≤20
   rw [List.length_set];exact h.trl
def view (S:HS α):List (α×Bool):=S.cs.map fun y=>(y.1,S.al.getD y.2 false)
def viewAll (V:List (α×Bool)):List α:=(V.filter (·.2)).map (·.1)
def viewKill [DecidableEq α] (V:List (α×Bool)) (x:α):List (α×Bool):=V.map fun p=>if p.1=x then (p.1,false) else p
def viewDrop [DecidableEq α] (V:List (α×Bool)) (x:α):List (α×Bool):=if 2*(viewAll (viewKill V x)).length<V.length then (viewAll (viewKill V x)).map fun y=>(y,true) else viewKill V x
theorem view_len (S:HS α):(view S).length=S.cs.length:=by simp [view]
theorem view_all (S:HS α):viewAll (view S)=live S.al S.cs:=by
 unfold viewAll view live liv
 rw [List.filter_map,List.map_map]
 rfl
theorem HCore.mp_len [DecidableEq α] {S:HS α} (h:HCore S):S.mp.length=(viewAll (view S)).length:=by
 rw [view_all,h.mpp.length_eq]
 simp [live]
theorem HCore.there [DecidableEq α] {S:HS α} (h:HCore S) (x:α):(S.mp.lookup x).isSome=decide ((x,true)∈view S):=by
 have h1:(x,true)∈view S↔∃k,S.mp.lookup x=some k:=by
  unfold view
  rw [List.mem_map]
  constructor
  ·rintro ⟨y,hy,e⟩
   simp only [Prod.mk.injEq] at e
   exact ⟨_,h.look.2 ⟨y,hy,e.1,rfl,e.2⟩⟩
  ·rintro ⟨k,hk⟩
   obtain ⟨y,hy,h1,h2,h3⟩:=h.look.1 hk
   exact ⟨y,hy,by rw [h1,h3]⟩
 rw [Bool.eq_iff_iff,decide_eq_true_iff,h1,Option.isSome_iff_exists]
theorem HCore.num [DecidableEq α] {S:HS α} (h:HCore S) {x:α} {k:Int} (hk:S.mp.lookup x=some k):∃n:Nat,k=n∧n<S.al.length:=by
 obtain ⟨y,hy,h1,h2,h3⟩:=h.look.1 hk
 exact ⟨y.2,h2.symm,h.lt y hy⟩
theorem view_drop1 [DecidableEq α] {S:HS α} (h:HCore S) {x:α} {k:Nat} (hk:S.mp.lookup x=some (k:Int)):view (dropS1 S x k)=viewKill (view S) x:=by
 obtain ⟨z,hz,hz1,hz2,hz3⟩:=h.look.1 hk
 show S.cs.map (fun y=>(y.1,(S.al.set k false).getD y.2 false))=_
 unfold viewKill view
 rw [List.map_map]
 refine List.map_congr_left fun y hy=>?_
 show (y.1,(S.al.set k false).getD y.2 false)=if y.1=x then (y.1,false) else (y.1,S.al.getD y.2 false)
 rw [getD_set]
 by_cases e:y.1=x
 ·rw [if_pos e]
  by_cases ha:S.al.getD y.2 false=true
  ·have:=h.one hy hz ha hz3 (by rw [e,hz1])
   rw [show y.2=k by omega];simp
  ·simp at ha
   simp [ha]
 ·rw [if_neg e]
  have:y.2≠k:=by
   intro e2
   have:=h.same hy hz (by omega)
   exact e (by rw [this,hz1])
  rw [bne_iff_ne.2 this,Bool.and_true]
theorem view_anew [DecidableEq α] {S:HS α}:view (anewS S)=(viewAll (view S)).map fun y=>(y,true):=by
 obtain ⟨k1,k2,k3,k4,k5⟩:=anewTo_keep (anewS0 S) (bitsN (liv S.al S.cs).length)
 unfold anewS view
 rw [k1,k2]
 have:=view_all S
 unfold view at this
 rw [this]
 unfold live
 rw [List.map_map]
 refine List.map_congr_left fun y hy=>?_
 have hy':y∈liv S.al S.cs:=hy
 unfold liv at hy'
 rw [List.mem_filter] at hy'
 show (y.1,S.al.getD y.2 false)=(y.1,true)
 rw [hy'.2]
theorem view_drop [DecidableEq α] {S:HS α} (h:HInv S) {x:α} {k:Nat} (hk:S.mp.lookup x=some (k:Int)):view (dropS S x k)=viewDrop (view S) x:=by
 have h1:=view_drop1 h.core hk
 have hc:=(h.core.drop1 hk).mp_len
 rw [h1] at hc
 unfold dropS viewDrop
 rw [←hc,view_len]
 show view (if 2*(mdel S.mp x).length<S.cs.length then _ else _)=if 2*(mdel S.mp x).length<S.cs.length then _ else _
 split
 ·rw [view_anew,h1]
 ·exact h1
theorem wk_drop [DecidableEq α] {S:HS α} (h:HInv S) {x:α} {k:Nat} (hk:S.mp.lookup x=some (k:Int)) :
 (dropS S x k).wk=S.wk+(if 2*(viewAll (viewKill (view S) x)).length<(view S).length then (viewAll (viewKill (view S) x)).length else 0):=by
 have h1:=view_drop1 h.core hk
 have hc:=(h.core.drop1 hk).mp_len
 rw [h1] at hc
 unfold dropS
 rw [←hc,view_len]
 show (if 2*(mdel S.mp x).length<S.cs.length then _ else _:HS α).wk=S.wk+if 2*(mdel S.mp x).length<S.cs.length then (mdel S.mp x).length else 0
 split
 ·obtain ⟨_,_,_,k4,_⟩:=anewTo_keep (anewS0 (dropS1 S x k)) (bitsN (liv (dropS1 S x k).al (dropS1 S x k).cs).length)
  unfold anewS
  rw [k4]
  show S.wk+(liv (dropS1 S x k).al (dropS1 S x k).cs).length=_
  have:=(h.core.drop1 hk).mpp.length_eq
  rw [List.length_map] at this
  rw [←this]
  rfl
 ·rfl
theorem live_gath {S:HS α} (I:HInv S) (x:α):(live (S.al++[true]) (gath (setB S.cs) (x,S.al.length))).Sublist (live S.al S.cs++[x]):=by
 rw [(gath_set S.cs (x,S.al.length)).1]
 have hcong:∀b,(∀y∈b,y∈S.cs)→liv (S.al++[true]) b=liv S.al b:=fun b hb=>liv_congr fun y hy=>getD_snoc _ _ _ (I.lt y (hb y hy))
 unfold live
 rw [liv_app,List.map_append,hcong _ fun y hy=>List.mem_of_mem_drop hy]
 have e:liv (S.al++[true]) [(x,S.al.length)] = [(x,S.al.length)]:=by
  unfold liv
  rw [List.filter_cons,if_pos (getD_last S.al true),List.filter_nil]
 rw [e]
 refine List.Sublist.append (List.Sublist.map _ ?_) (List.Sublist.refl _)
 unfold liv
 exact (List.drop_sublist _ _).filter _
theorem live_addS {S:HS α} [DecidableEq α] (I:HInv S) (x:α):live (addS S x).al (addS S x).cs=live S.al S.cs++[x]:=by
 show live (S.al++[true]) (S.cs++[(x,S.al.length)])=_
 unfold live
 rw [liv_app,List.map_append]
 have hcong:liv (S.al++[true]) S.cs=liv S.al S.cs:=liv_congr fun y hy=>getD_snoc _ _ _ (I.lt y hy)
 have e:liv (S.al++[true]) [(x,S.al.length)] = [(x,S.al.length)]:=by
  unfold liv
  rw [List.filter_cons,if_pos (getD_last S.al true),List.filter_nil]
 rw [hcong,e]
 rfl
end
open Go.RowKit
section
variable {α:Type}
def See (K:Kind α) (w:World) (v:Value) (l:List α):Prop:=Sees w K.sz v l.length (K.all l)
theorem See.form {K:Kind α} {w:World} {v:Value} {l:List α} (h:See K w v l):∃A C,v=.slice A l.length C:=sees_form h
theorem Kind.all_get (K:Kind α) (l:List α):∀(k j:Nat) (hk:k<l.length) (u:Value),(K.enc l[k])[j]? = some u→(K.all l)[k*K.sz+j]? = some u:=by
 induction l with
 |nil=>intro k j hk;simp at hk
 |cons a l ih=>
  intro k j hk u hu
  have e:K.all (a::l)=K.enc a++K.all l:=by simp [Kind.all]
  rw [e]
  rcases k with _ | k
  ·have hj:=(List.getElem?_eq_some_iff.1 hu).1
   rw [Nat.zero_mul,Nat.zero_add]
   exact (List.getElem?_append_left (l₁:=K.enc a) hj).trans hu
  ·have hl:=K.len a
   rw [List.getElem?_append_right (by rw [hl,Nat.add_mul,Nat.one_mul];omega),hl]
   rw [show (k+1)*K.sz+j - K.sz=k*K.sz+j by rw [Nat.add_mul,Nat.one_mul];omega]
   exact ih k j (by simpa using hk) u (by simpa using hu)
theorem See.at {K:Kind α} {w:World} {A:Option Addr} {n C:Nat} {l:List α} (h:See K w (.slice A n C) l) {k:Nat} {x:α} (hx:l[k]? = some x) :
 ∃b o,A=some ⟨b,o,none⟩∧n≤C∧C≤maxLen∧∀j u,(K.enc x)[j]? = some u→w.cell? ⟨b,o+k*K.sz+j,none⟩=some u:=by
 obtain ⟨hk,hx⟩:=List.getElem?_eq_some_iff.1 hx
 rcases h.2 with ⟨h1,h2⟩ | ⟨b,o,s,cap,h1,h2,h3,h4,h5⟩
 ·omega
 ·cases h1
  have:=h2 (by omega)
  subst this
  refine ⟨b,o,rfl,h3,h4,fun j u hu=>?_⟩
  rw [←hx] at hu
  have:=h5 _ _ (K.all_get l k j hk u hu)
  rwa [←Nat.add_assoc] at this
theorem See.upd {K:Kind α} {F:List Nat} {w w':World} {v:Value} {l:List α} (h:See K w v l) (hu:Upd F w w') (hd:0<l.length→∀k∈blk v,k<w.heap.size→k∉F):See K w' v l:=sees_upd h hu hd
theorem See.upd0 {K:Kind α} {w w':World} {v:Value} {l:List α} (h:See K w v l) (hu:Upd [] w w'):See K w' v l:=sees_upd h hu (by simp)
theorem See.of_row {K:Kind α} {w:World} {base:Nat} {v:Value} {l:List α} (h:K.row w base v l):See K w v l:=sees_of_own h
theorem See.take {K:Kind α} {P:Program} {i:TypeInfo} (ht:P.underlying K.sT=some (.slice K.eT)) (hi:P.info? K.eT=some i) (hsize:i.size=K.sz) {w:World} {v:Value} {l:List α} (h:See K w v l) (k:Nat) (hk:k≤l.length) :
 ∃A C,(∀w',(Instr.slice K.sT v none (some (.int .i64 (k:Int))) none).run P w'=.ok (.slice A k C) w')∧(∀w',See K w' v l→See K w' (.slice A k C) (l.take k))∧blk (.slice A k C)=blk v:=by
 obtain ⟨A,C,h1,h2,h3⟩:=cut_to (P:=P) ht hi hsize h k hk
 refine ⟨A,C,h1,fun w' hw=>?_,h3⟩
 have:=h2 w' hw
 unfold See
 rw [Kind.all_take,List.length_take,Nat.min_eq_left hk]
 exact this
end
theorem own_take {w:World} {base:Nat} {e:TypeId} {size g n C:Nat} {xs:List Value} (h:w.ownsRow base e size (.slice (some ⟨g,0,none⟩) n C) n xs) (k:Nat) (hk:k≤n) :
 w.ownsRow base e size (.slice (some ⟨g,0,none⟩) k C) k (xs.take (k*size)):=by
 obtain ⟨h1,h2⟩:=h
 have hks:k*size≤n*size:=Nat.mul_le_mul_right _ hk
 refine ⟨by rw [List.length_take,h1];exact Nat.min_eq_left hks,?_⟩
 rcases h2 with ⟨h2,_⟩ | ⟨g',cap,cur,h2,h3,h4,h5,h6,h7,h8⟩
 ·cases h2
 ·cases h2
  exact .inr ⟨g,C,cur,rfl,h3,h4,Nat.le_trans hk h5,h6,h7,by rw [←h8,List.take_take,Nat.min_eq_left hks]⟩
theorem own_cap {w:World} {base:Nat} {e:TypeId} {size g n C:Nat} {xs:List Value} (h:w.ownsRow base e size (.slice (some ⟨g,0,none⟩) n C) n xs):n≤C:=by
 rcases h.2 with ⟨h2,_⟩ | ⟨g',cap,cur,h2,h3,h4,h5,h6,h7,h8⟩
 ·cases h2
 ·cases h2;exact h5
theorem cut_head {P:Program} {t e:TypeId} {i:TypeInfo} (ht:P.underlying t=some (.slice e)) (hi:P.info? e=some i) (q n C k:Nat) (hk:k≤C) (w:World) :
 (Instr.slice t (.slice (some ⟨q,0,none⟩) n C) none (some (.int .i64 (k:Int))) none).run P w=.ok (.slice (some ⟨q,0,none⟩) k C) w:=by
 have hel:P.elem t=e:=by simp [Program.elem,ht]
 rw [run_slice_h w t _ n C (elem_of ht) .i64 _ (by omega) (by omega)]
 simp [hel,sizeOf,typeInfo,hi,sliced,Addr.add]
def KL:Kind Int:={ T:=0,sT:=57,eT:=2,sz:=1,enc:=fun x=>[.int .i64 x],len:=fun _=>rfl,one:=fun x u hu=>by simp at hu;subst hu;rfl }
def KN:Kind Nat:={ T:=0,sT:=163,eT:=3,sz:=1,enc:=fun x=>[.int .i64 (x:Int)],len:=fun _=>rfl,one:=fun x u hu=>by simp at hu;subst hu;rfl }
def KB:Kind Bool:={ T:=0,sT:=162,eT:=4,sz:=1,enc:=fun x=>[.bool x],len:=fun _=>rfl,one:=fun x u hu=>by simp at hu;subst hu;rfl }
theorem KL.at {w:World} {A:Option Addr} {n C:Nat} {l:List Int} (h:See KL w (.slice A n C) l) {k:Nat} {x:Int} (hx:l[k]? = some x) :
 ∃b o,A=some ⟨b,o,none⟩∧n≤C∧C≤maxLen∧w.cell? ⟨b,o+k,none⟩=some (.int .i64 x):=by
 obtain ⟨b,o,h1,h2,h3,h4⟩:=h.at hx
 have:=h4 0 _ rfl
 exact ⟨b,o,h1,h2,h3,by simpa [KL] using this⟩
open Go.Maps (Keyed Tidy IsMap)
structure MK (α:Type) where
 T:TypeId
 k:TypeId
 e:TypeId
 enc:α→Value
 zero:α
 hT:Tryz.prog.underlying T=some (.map k e)
 hk:Tryz.prog.underlying k=some (.int .u32)
 hz:∀w,(zeroValue e).run Tryz.prog w=.ok (enc zero) w
 inj:∀x y,enc x=enc y→x=y
open Classical in
noncomputable def RV {α:Type} (enc:α→Value) (v:Value):Option (DataW Value×List MemPlace):=if ∃x,v=enc x then some (.held v,[]) else none
section
variable {α:Type} (K:MK α) {w w':World} {b r n:Nat} {f:Nat→Option α}
theorem RV_enc (enc:α→Value) (x:α):RV enc (enc x)=some (.held (enc x),[]):=by
 unfold RV;rw [if_pos ⟨x,rfl⟩]
theorem RV_inv {enc:α→Value} {v:Value} {z:DataW Value×List MemPlace} (h:RV enc v=some z):∃x,v=enc x∧z=(.held (enc x),[]):=by
 unfold RV at h
 split at h
 ·rename_i hx
  obtain ⟨x,rfl⟩:=hx
  cases h
  exact ⟨x,rfl,rfl⟩
 ·cases h
theorem MK.keyed:Keyed Tryz.prog K.k:=Maps.int_keyed K.hk
def FnOf (K:MK α) (D:DataW Value) (f:Nat→Option α):Prop:=
 (∀x:Nat,x<4294967296→Maps.has D (.int .u32 (x:Int))=(f x).isSome)∧∀x y,f x=some y→x<4294967296∧∀z,D.atKey (.int .u32 (x:Int)) z=.held (K.enc y)
def MapU (w:World) (b:Nat) (f:Nat→Option α) (n:Nat):Prop:=∃D,w.ownsMap Tryz.prog K.k (RV K.enc) b n D∧Maps.size D=n∧FnOf K D f
variable {K}
theorem wf_u32 {x:Nat} (h:x<4294967296):(Lit.int .u32 (x:Int)).wf=true:=by
 have h1:(0:Int)≤(x:Int):=Int.natCast_nonneg _
 have h2:(x:Int)<4294967296:=by omega
 simp [Lit.wf,IntKind.min,IntKind.max,IntKind.signed,IntKind.bits]
 omega
theorem key_u32 (K:MK α) {x:Nat} (h:x<4294967296):keyOf Tryz.prog K.k (.int .u32 (x:Int))=some (.int .u32 (x:Int)):=Maps.keyOf_int_mk K.hk (wf_u32 h)
theorem klit_u32 (x:Nat):WideAt.IsKeyLit (.int .u32 (x:Int)):=by simp [WideAt.IsKeyLit]
theorem lit_ne32 {x y:Nat} (h:y≠x):(Lit.int .u32 (y:Int))≠(Lit.int .u32 (x:Int)):=by
 intro e;simp at e;omega
theorem MapU.lt (h:MapU K w b f n):b<w.heap.size:=by
 obtain ⟨D,h1,_⟩:=h
 exact h1.lt
theorem MapU.upd {F:List Nat} (h:MapU K w b f n) (hu:Upd F w w') (hb:b∉F):MapU K w' b f n:=by
 obtain ⟨D,h1,h2⟩:=h
 have hlt:=h1.lt
 obtain ⟨es,clock,hb',hr⟩:=h1
 exact ⟨D,⟨es,clock,(hu.block b hlt hb).trans hb',hr⟩,h2⟩
theorem MapU.made (K:MK α) (w:World):MapU K (w.alloc (.map #[] 0)) w.heap.size (fun _=>none) 0:=
 ⟨.map [],World.ownsMap_made _ _ _ _,rfl,fun x _=>by simp [Maps.has],fun x y h=>by cases h⟩
theorem MapU.look1 (h:MapU K w b f n) {x:Nat} (hx:x<4294967296) :
 (Instr.lookup K.T (.map (some b)) (.int .u32 (x:Int)) false).run Tryz.prog w=.ok (K.enc ((f x).getD K.zero)) w:=by
 obtain ⟨D,h1,h2,h3,h4⟩:=h
 obtain ⟨v,ps,hrun,hv⟩:=h1.lookup K.keyed K.hT (K.hz w) (RV_enc K.enc K.zero) (key_u32 K hx)
 rw [hrun]
 obtain ⟨y,rfl,hy⟩:=RV_inv hv
 cases hf:f x with
 |none=>
  have hn:Maps.has D (.int .u32 (x:Int))=false:=by rw [h3 x hx,hf];rfl
  rw [Maps.atKey_of_not_has hn] at hy
  simp only [Prod.mk.injEq,DataW.held.injEq] at hy
  rw [←hy.1];rfl
 |some z=>
  rw [(h4 x z hf).2] at hy
  simp only [Prod.mk.injEq,DataW.held.injEq] at hy
  rw [←hy.1];rfl
theorem MapU.len (h:MapU K w b f n) (ty:TypeId):(Builtin.len_ #[K.T] ty #[.map (some b)]).run Tryz.prog w=.ok (.int .i64 n) w:=by
 obtain ⟨D,h1,h2,_⟩:=h
 rw [h1.len K.hT ty,h2]
theorem FnOf.put {D:DataW Value} (h:FnOf K D f) (hm:IsMap D) {x:Nat} (hx:x<4294967296) (v:α):FnOf K (D.put (.int .u32 (x:Int)) (.held (K.enc v))) (fun y=>if y=x then some v else f y):=by
 refine ⟨fun y hy=>?_,fun y z hz=>?_⟩
 ·show _=(if y=x then some v else f y).isSome
  by_cases e:y=x
  ·subst e;rw [if_pos rfl,Maps.has_put_same hm (klit_u32 y)];rfl
  ·rw [if_neg e,Maps.has_put_other (lit_ne32 e),h.1 y hy]
 ·replace hz:(if y=x then some v else f y)=some z:=hz
  by_cases e:y=x
  ·subst e;rw [if_pos rfl] at hz;cases hz
   exact ⟨hx,fun z=>Maps.atKey_put_same hm (klit_u32 y) _ _⟩
  ·rw [if_neg e] at hz
   exact ⟨(h.2 y z hz).1,fun u=>by rw [Maps.atKey_put_other (lit_ne32 e),(h.2 y z hz).2]⟩
theorem grown_updU {row:Nat} (h:w.grownBy w' (some row)):Upd [row] w w':=(Upd.refl _ _).grown h fun k hk=>.inl (by simpa using hk.symm)
theorem MapU.put (h:MapU K w b f n) {x:Nat} (hx:x<4294967296) (v:α) (hn:n<maxLen) :
 ∃w',(Instr.mapUpdate K.T (.map (some b)) (.int .u32 (x:Int)) (K.enc v)).run Tryz.prog w=.ok () w'∧MapU K w' b (fun y=>if y=x then some v else f y) (if (f x).isSome then n else n+1)∧Upd [b] w w'∧w'.heap.size=w.heap.size:=by
 obtain ⟨D,h1,h2,h3⟩:=h
 have ht:=h1.tidy K.keyed
 obtain ⟨w',hrun,ho,hturn⟩:=h1.store K.keyed K.hT hn (key_u32 K hx) (RV_enc K.enc v)
 have hsz:Maps.size (D.put (.int .u32 (x:Int)) (.held (K.enc v)))=if (f x).isSome then n else n+1:=by
  rw [Maps.size_put ht,h3.1 x hx,h2]
 refine ⟨w',hrun,⟨_,?_,hsz,h3.put h1.isMap hx v⟩,grown_updU hturn.grown,?_⟩
 ·obtain ⟨es,clock,hb,F,_,hD⟩:=ho
  refine ⟨es,clock,hb,F,?_,hD⟩
  rw [←hsz,hD]
  simp [Maps.size,length_sorted]
 ·obtain ⟨es,clock,es',clock',hb,rfl⟩:=hturn
  simp [Go.ChangeMaps.setBlock]
variable {ops:Array Oper} {rest:List Oper} {o:Oper} {a:Act} {Q:Exit→Act→World→Prop}
end
theorem info_int64:(Tryz.prog.info? 2).map (fun i=>(i.zero,i.size,i.bytes))=some (some (.int .i64 0),1,8):=by kernel_rfl
theorem clone_int64 (s:Value) (n:Nat) (xs:List Value) (w:World) (hs:Sees w 1 s n xs) (h1:∀u∈xs,u.oneCell'=true) (hb:n*8≤140737488355328) :
 Calls Tryz.prog 152 #[s] w fun e w'=>∃A C,e=.returned (.slice A n C)∧w'.ownsRow w.heap.size 2 1 (.slice A n C) n xs∧Below w.heap.size w w':=by
 obtain ⟨i0,hi,hz0,hz1,hz2⟩:=info_parts info_int64
 have HS:=Lib.hid hs
 have H1:=Lib.hid h1;clear h1
 have HB:=Lib.hid hb;clear hb
 rcases hs.2 with ⟨rfl,rfl⟩ | ⟨b,o,sp,cap,rfl,_⟩
 ·clear hs
  have he:=fun w=>Lib.run_eql_slice_nil (P:=Tryz.prog) (w:=w) 57 2 none 0 0 0 0 Tryz.underlying57
  go_enter Tryz.func152,Tryz.ntmps152
  go_wp2
  go_ret
  have hx:xs = []:=List.eq_nil_of_length_eq_zero (by simpa using HS.out.1)
  subst hx
  exact ⟨_,_,rfl,World.ownsRow_nil _ _ _ _,Below.refl _ _⟩
 ·clear hs
  have he:=fun w=>Lib.run_eql_slice_nil (P:=Tryz.prog) (w:=w) 57 2 (some ⟨b,o,sp⟩) n cap 0 0 Tryz.underlying57
  go_enter Tryz.func152,Tryz.ntmps152
  go_wp2_with (at_builtin;refine wpList_app _ rfl _ _ 57 rfl w.heap.size 2 i0 (.int .i64 0) 1 8 Tryz.underlying57 hi hz0 hz1 hz2 rfl (by decide) _ 0 [] rfl (World.ownsRow_made w #[] 0 (Nat.le_refl _) (by decide) rfl) _ n xs rfl (sees_upd HS.out ((Upd.refl [] w).alloc _) (by simp)) H1.out (by have:=HB.out;unfold maxLen;omega) (by have:=HB.out;omega) (by simp) ?_)
  intro A C w1 HP
  have HU:=HP.upd
  have hb1:Below w.heap.size w w1:=(((Upd.refl [] w).alloc _).trans' HU (fun k hk=>by simp [blk] at hk;omega)).below
  have hown:w1.ownsRow w.heap.size 2 1 (.slice A n C) n xs:=by simpa using HP.own
  clear he
  go_wp2
  go_ret
  exact ⟨_,_,rfl,hown,hb1⟩
theorem KL_all (cs:List Int):KL.all cs=cs.map fun x=>(.int .i64 x:Value):=by
 induction cs with
 |nil=>rfl
 |cons x cs ih=>
  rw [List.map_cons,←ih]
  rfl
end Go.Proofs.YtkbaaonchdeneaaGreat
