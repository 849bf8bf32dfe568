/- A directory of names, plainly: what Put and Drop make of it. Things with names that come and go, -/
import Derived.Test.YtkbaaonchdeneaaGreatPc31
set_option maxHeartbeats 2000000
set_option maxRecDepth 100000
namespace Go.Proofs.YtkbaaonchdeneaaGreat
namespace Nm
def bD (S:NS) (k p:Nat):NS:={ S with al:=S.al.set k true,pl:=S.pl.set k p,n:=S.n+1 }
def MC (S:NS) (x p:Nat):NS:={ cs:=S.cs++[(x,S.al.length)],al:=S.al++[true],pl:=S.pl++[p],n:=S.n+1,wk:=S.wk+(Ec (setB S.cs) (x,S.al.length)).length }
def Nz (S:NS) (x p:Nat):NS:=match S.cs.lookup x with | some k=>bD S k p | none=>MC S x p
def Pj (S:NS) (k:Nat):NS:={ S with al:=S.al.set k false,n:=S.n - 1 }
def Dk (S:NS) (x:Nat):NS:=match S.cs.lookup x with | some k=>if S.cs.length > 2*(S.n - 1) then Ph (Pj S k) else Pj S k | none=>S
theorem Uk {l:List Bool} {k:Nat} (hk:k<l.length) (h:l.getD k false=false):(l.set k true).count true=l.count true+1:=by
 induction l generalizing k with
 |nil=>simp at hk
 |cons a l ih=>
  rcases k with _ | k
  ·simp at h;subst h;simp
  ·have:=ih (k:=k) (by simpa using hk) (by simpa using h);rw [List.set_cons_succ,List.count_cons,List.count_cons,this];omega
theorem KR {l:List Bool} {k:Nat} (h:l.getD k false=true):(l.set k false).count true+1=l.count true:=by
 induction l generalizing k with
 |nil=>simp at h
 |cons a l ih=>
  rcases k with _ | k
  ·simp at h;subst h;simp
  ·have:=ih (k:=k) (by simpa using h);rw [List.set_cons_succ,List.count_cons,List.count_cons];omega
theorem getD_lt {l:List Bool} {k:Nat} (h:l.getD k false=true):k<l.length:=by
 rcases Nat.lt_or_ge k l.length with h1 | h1
 ·exact h1
 ·rw [List.getD_eq_getElem?_getD,List.getElem?_eq_none h1] at h
  cases h
theorem iC {S:NS} (I:ED S) {x y k:Nat} (hx:S.cs.lookup x=some k) (hy:S.cs.lookup y=some k):x=y:=by
 rw [Eu I.ids] at hx hy;obtain ⟨i,hi⟩:=List.mem_iff_getElem?.1 hx;obtain ⟨j,hj⟩:=List.mem_iff_getElem?.1 hy;have hi':(S.cs.map (·.2))[i]? = some k:=by rw [List.getElem?_map,hi];rfl
 have hj':(S.cs.map (·.2))[j]? = some k:=by rw [List.getElem?_map,hj];rfl
 have e:i=j:=by
  obtain ⟨l1,e1⟩:=AZ hi';obtain ⟨l2,e2⟩:=AZ hj';have hp:=List.pairwise_iff_getElem.1 I.nums;rcases Nat.lt_trichotomy i j with h | h | h
  ·exact (hp i j l1 l2 h (e1.trans e2.symm)).elim
  ·exact h
  ·exact (hp j i l2 l1 h (e2.trans e1.symm)).elim
 subst e;rw [hi] at hj;simpa using hj
theorem zX {S:NS} (I:ED S) {x k:Nat} (p:Nat) (hk:S.cs.lookup x=some k) (hd:S.al.getD k false=false):ED (bD S k p):=by
 obtain ⟨k1,k2⟩:=Ou I hk;refine ⟨I.ids,I.nums,λy hy=>by show y.2<(S.al.set k true).length;rw [List.length_set];exact I.lt y hy,by show (S.pl.set k p).length=(S.al.set k true).length;rw [List.length_set,List.length_set,I.pll],?_,?_⟩
 ·show S.n+1=(S.al.set k true).count true
  rw [Uk k1 hd,I.cnt]
 ·intro j hj;have hj':(S.al.set k true)[j]? = some true:=hj;rw [List.getElem?_set] at hj';split at hj'
  ·rename_i e
   subst e;rw [Eu I.ids] at hk;exact ⟨_,hk,rfl⟩
  ·exact I.all j hj'
theorem lJ {S:NS} (I:ED S) {x k:Nat} (p:Nat) (hk:S.cs.lookup x=some k) (y:Nat):place (bD S k p) y=if y=x then some p else place S y:=by
 obtain ⟨k1,k2⟩:=Ou I hk;unfold place;show (match S.cs.lookup y with | some j=>if (S.al.set k true).getD j false then some ((S.pl.set k p).getD j 0) else none | none=>none)=_
 by_cases e:y=x
 ·subst e;rw [hk,if_pos rfl];simp [List.getD_eq_getElem?_getD,k1,k2]
 ·rw [if_neg e]
  cases hy:S.cs.lookup y with
  |none=>rfl
  |some j=>
   have hne:k≠j:=λh=>e (iC I (by rw [h];exact hy) hk)
   simp only [List.getD_eq_getElem?_getD,List.getElem?_set_ne hne]
theorem push_inv {S:NS} (I:ED S) {x:Nat} (p:Nat) (hk:S.cs.lookup x=none):ED (MC S x p):=by
 rw [Ho] at hk;refine ⟨?_,?_,?_,?_,?_,?_⟩
 ·show ((S.cs++[(x,S.al.length)]).map (·.1)).Nodup
  rw [List.map_append,List.nodup_append];refine ⟨I.ids,by simp,?_⟩
  intro a ha b hb;simp at hb;obtain ⟨y,hy,rfl⟩:=List.mem_map.1 ha;rw [hb];exact hk y hy
 ·show ((S.cs++[(x,S.al.length)]).map (·.2)).Nodup
  rw [List.map_append,List.nodup_append];refine ⟨I.nums,by simp,?_⟩
  intro a ha b hb;simp at hb;obtain ⟨y,hy,rfl⟩:=List.mem_map.1 ha;have:=I.lt y hy;omega
 ·intro y hy;show y.2<(S.al++[true]).length
  rw [Bc];rcases List.mem_append.1 (show y∈S.cs++[(x,S.al.length)] from hy) with h | h
  ·have:=I.lt y h;omega
  ·simp at h;subst h;simp
 ·show (S.pl++[p]).length=(S.al++[true]).length
  rw [Bc,Bc,I.pll];rfl
 ·show S.n+1=(S.al++[true]).count true
  rw [List.count_append,I.cnt];rfl
 ·intro j hj;have hj':(S.al++[true])[j]? = some true:=hj;rw [List.getElem?_append] at hj';split at hj'
  ·obtain ⟨y,hy,e⟩:=I.all j hj';exact ⟨y,List.mem_append.2 (.inl hy),e⟩
  ·rename_i hge
   have hl:=(AZ hj').1;simp at hl;exact ⟨(x,S.al.length),List.mem_append.2 (.inr (by simp)),by show S.al.length=j;omega⟩
theorem bF {S:NS} (I:ED S) {x:Nat} (p:Nat) (hk:S.cs.lookup x=none) (y:Nat):place (MC S x p) y=if y=x then some p else place S y:=by
 have I2:=push_inv I p hk;unfold place;show (match (S.cs++[(x,S.al.length)]).lookup y with | some j=>if (S.al++[true]).getD j false then some ((S.pl++[p]).getD j 0) else none | none=>none)=_
 by_cases e:y=x
 ·subst e;have h:(S.cs++[(y,S.al.length)]).lookup y=some S.al.length:=(Eu I2.ids y S.al.length).2 (List.mem_append.2 (.inr (by simp)));rw [h,if_pos rfl];have hp:=I.pll;simp [List.getD_eq_getElem?_getD,<-hp]
 ·rw [if_neg e]
  cases hy:S.cs.lookup y with
  |none=>
   have h:(S.cs++[(x,S.al.length)]).lookup y=none:=by
    rw [Ho] at hy |-;intro z hz;rcases List.mem_append.1 hz with hz | hz
    ·exact hy z hz
    ·simp at hz;subst hz;exact λh=>e h.symm
   rw [h]
  |some j=>
   obtain ⟨k1,k2⟩:=Ou I hy
   have h:(S.cs++[(x,S.al.length)]).lookup y=some j:=by
    rw [Eu I.ids] at hy;exact (Eu I2.ids y j).2 (List.mem_append.2 (.inl hy))
   rw [h];simp only [List.getD_eq_getElem?_getD,List.getElem?_append_left k1,List.getElem?_append_left k2]
theorem zY {S:NS} (I:ED S) {x:Nat} (p:Nat) (h:place S x=none):ED (Nz S x p):=by
 unfold Nz
 cases hk:S.cs.lookup x with
 |none=>exact push_inv I p hk
 |some k=>
  refine zX I p hk ?_
  unfold place at h;rw [hk] at h;simp at h;simpa using h
theorem VT {S:NS} (I:ED S) {x:Nat} (p:Nat) (y:Nat):place (Nz S x p) y=if y=x then some p else place S y:=by
 unfold Nz
 cases hk:S.cs.lookup x with
 |none=>exact bF I p hk y
 |some k=>exact lJ I p hk y
theorem Ul {S:NS} (I:ED S) {k:Nat} (h:S.al.getD k false=true):ED (Pj S k):=by
 have hk:=getD_lt h;refine ⟨I.ids,I.nums,λy hy=>by show y.2<(S.al.set k false).length;rw [List.length_set];exact I.lt y hy,by show S.pl.length=(S.al.set k false).length;rw [List.length_set,I.pll],?_,?_⟩
 ·show S.n - 1=(S.al.set k false).count true
  have:=KR h;rw [I.cnt];omega
 ·intro j hj;have hj':(S.al.set k false)[j]? = some true:=hj;rw [List.getElem?_set] at hj';split at hj'
  ·simp at hj'
  ·exact I.all j hj'
theorem Um {S:NS} (I:ED S) {x k:Nat} (hk:S.cs.lookup x=some k) (y:Nat):place (Pj S k) y=if y=x then none else place S y:=by
 obtain ⟨k1,k2⟩:=Ou I hk;unfold place;show (match S.cs.lookup y with | some j=>if (S.al.set k false).getD j false then some (S.pl.getD j 0) else none | none=>none)=_
 by_cases e:y=x
 ·subst e;rw [hk,if_pos rfl];simp [List.getD_eq_getElem?_getD,k1]
 ·rw [if_neg e]
  cases hy:S.cs.lookup y with
  |none=>rfl
  |some j=>
   have hne:k≠j:=λh=>e (iC I (by rw [h];exact hy) hk)
   simp only [List.getD_eq_getElem?_getD,List.getElem?_set_ne hne]
theorem YJ {S:NS} (I:ED S):ED (Ph S):=by
 have hs:(CW S.al S.cs).Sublist S.cs:=List.filter_sublist;refine ⟨I.ids.sublist (hs.map _),I.nums.sublist (hs.map _),λy hy=>I.lt y (hs.subset hy),I.pll,I.cnt,λk hk=>?_⟩
 have hk':S.al[k]? = some true:=hk;obtain ⟨y,hy,e⟩:=I.all k hk';refine ⟨y,?_,e⟩
 show y∈CW S.al S.cs
 unfold CW;rw [List.mem_filter];refine ⟨hy,?_⟩
 rw [e,List.getD_eq_getElem?_getD,hk'];rfl
theorem bG {S:NS} (I:ED S) (y:Nat):place (Ph S) y=place S y:=by
 have I2:=YJ I;unfold place;show (match (CW S.al S.cs).lookup y with | some j=>if S.al.getD j false then some (S.pl.getD j 0) else none | none=>none)=_
 cases hy:S.cs.lookup y with
 |none=>
  have h:(CW S.al S.cs).lookup y=none:=by
   rw [Ho] at hy |-;intro z hz;unfold CW at hz;rw [List.mem_filter] at hz;exact hy z hz.1
  rw [h]
 |some j=>
  have hm:=(Eu I.ids y j).1 hy;by_cases hj:S.al.getD j false=true
  ·have h:(CW S.al S.cs).lookup y=some j:=(Eu I2.ids y j).2 (by show _∈CW S.al S.cs;unfold CW;rw [List.mem_filter];exact ⟨hm,hj⟩);rw [h]
  ·have h:(CW S.al S.cs).lookup y=none:=by
    rw [Ho];intro z hz e;unfold CW at hz;rw [List.mem_filter] at hz;obtain ⟨z1,z2⟩:=z;dsimp only at e;subst e;have h2:=(Eu I.ids z1 z2).2 hz.1;rw [hy] at h2
    cases h2
    exact hj hz.2
   rw [h];dsimp only;rw [if_neg hj]
theorem Un {S:NS} (I:ED S) {x:Nat} (h:(place S x).isSome=true):ED (Dk S x):=by
 unfold Dk;unfold place at h
 cases hk:S.cs.lookup x with
 |none=>rw [hk] at h;simp at h
 |some k=>
  rw [hk] at h
  have hl:S.al.getD k false=true:=by
   by_cases hh:S.al.getD k false=true
   ·exact hh
   ·dsimp only at h;rw [if_neg hh] at h;simp at h
  dsimp only;split
  ·exact YJ (Ul I hl)
  ·exact Ul I hl
theorem Uo {S:NS} (I:ED S) {x:Nat} (h:(place S x).isSome=true) (y:Nat):place (Dk S x) y=if y=x then none else place S y:=by
 unfold Dk;have h':=h;unfold place at h'
 cases hk:S.cs.lookup x with
 |none=>rw [hk] at h';simp at h'
 |some k=>
  rw [hk] at h'
  have hl:S.al.getD k false=true:=by
   by_cases hh:S.al.getD k false=true
   ·exact hh
   ·dsimp only at h';rw [if_neg hh] at h';simp at h'
  dsimp only;split
  ·rw [bG (Ul I hl),Um I hk]
  ·exact Um I hk y
theorem ED.len {S:NS} (I:ED S):S.cs.length<=S.al.length:=by
 have h1:(S.cs.map (·.2)).length<=(List.range S.al.length).length:=by
  refine List.Nodup.length_le_of_subset I.nums ?_
  intro k hk;obtain ⟨y,hy,rfl⟩:=List.mem_map.1 hk;exact List.mem_range.2 (I.lt y hy)
 simpa using h1
def Low (t:Nat) (S:NS):Prop:=S.al.length<=t/\S.wk<=100000*t
theorem zZ {S:NS} {t:Nat} (I:ED S) (h:Low t S) (ht:t<90000) (x p:Nat):Low (t+1) (Nz S x p):=by
 unfold Nz Low at *;have:=I.len
 cases S.cs.lookup x with
 |none=>
  have hg:(Ec (setB S.cs) (x,S.al.length)).length<=S.cs.length+1:=by
   rw [(Fz S.cs (x,S.al.length)).1,Bc,List.length_drop];simp
  show (S.al++[true]).length<=t+1/\S.wk+_<=_
  rw [Bc];simp only [List.length_cons,List.length_nil];omega
 |some k=>
  show (S.al.set k true).length<=t+1/\S.wk<=_
  rw [List.length_set];omega
theorem tu {S:NS} {t:Nat} (I:ED S) (h:Low t S) (ht:t<90000) (x:Nat):Low (t+1) (Dk S x):=by
 unfold Dk Low at *;have:=I.len
 cases S.cs.lookup x with
 |none=>dsimp only;omega
 |some k=>
  dsimp only;split
  ·have hg:=Pg (S.al.set k false) S.cs;show (S.al.set k false).length<=t+1/\S.wk+(CW (S.al.set k false) S.cs).length<=_
   rw [List.length_set];omega
  ·show (S.al.set k false).length<=t+1/\S.wk<=_
   rw [List.length_set];omega
theorem a0a {cs:List (Nat×Nat)} {bk:List (List (Nat×Nat))} (h:WT (setB cs) bk) {e:Nat×Nat} {l:List (Nat×Nat)} (hl:l.Perm (Ec (setB cs) e)) (hs:l.Pairwise λa b=>a.1<=b.1) :
 WT (setB (cs++[e])) (List.replicate (Bv (setB cs)) []++l::bk.drop (Bv (setB cs)+1)):=by
 rw [<-RH];unfold Nu;have hle:=DT (setB cs);have hb:=h.1;obtain ⟨t,ht⟩:=AU (Bv (setB cs));rw [ht] at hle |-;refine ⟨by simp;omega,λi a b ha hb'=>?_⟩
 rw [List.getElem?_append] at ha hb';simp only [List.length_replicate] at ha hb';split at ha
 ·rename_i hi
  rw [if_pos hi] at hb';rw [List.getElem?_replicate,if_pos hi] at ha hb'
  cases ha;cases hb'
  exact ⟨List.Perm.refl _,List.Pairwise.nil⟩
 ·rename_i hi
  rw [if_neg hi] at hb';rcases hj:i - t with _ | j
  ·rw [hj] at ha hb';simp at ha hb';subst ha hb';exact ⟨hl,hs⟩
  ·rw [hj] at ha hb';rw [List.getElem?_cons_succ] at ha hb';rw [List.getElem?_drop] at ha hb';exact h.2 _ a b ha hb'
end Nm
namespace Ps
open Go.Proofs.YtkbaaonchdeneaaGreat.Nm (NS ED Low place Nz N0)
structure PS (α:Type) where
 H:HS α
 N:NS
 all:List α
 t:Nat
section
variable {α:Type} [DecidableEq α]
def Dw (S:PS α):List α:=live S.H.al S.H.cs
def get (S:PS α) (x:Nat):Option α:=(place S.N x).bind λi=>S.all[i]?
structure EW (nm:α->Nat) (S:PS α):Prop where
 half:ET S.H
 dir:ED S.N
 low:Low S.t S.N
 al:S.H.al.length<=S.t
 wk:S.H.wk<=100000*S.t
 lK:S.all.length<=S.t
 tos:∀x i,place S.N x=some i->∃s∈Dw S,S.all[i]? = some s/\nm s=x
 ofs:∀s∈Dw S,∃i,place S.N (nm s)=some i/\S.all[i]? = some s
 names:((Dw S).map nm).Nodup
omit [DecidableEq α] in
theorem ET.len {S:HS α} (I:ET S):S.cs.length<=S.al.length:=by
 have h2:(S.cs.map (·.2)).Nodup:=I.nums.imp (λh=>Nat.ne_of_lt h)
 have h1:(S.cs.map (·.2)).length<=(List.range S.al.length).length:=by
  refine List.Nodup.length_le_of_subset h2 ?_
  intro k hk;obtain ⟨y,hy,rfl⟩:=List.mem_map.1 hk;exact List.mem_range.2 (I.lt y hy)
 simpa using h1
omit [DecidableEq α] in
theorem Ur {nm:α->Nat} {l:List α} (h:(l.map nm).Nodup) {a b:α} (ha:a∈l) (hb:b∈l) (e:nm a=nm b):a=b:=by
 induction l with
 |nil=>cases ha
 |cons c l ih=>
  rw [List.map_cons,List.nodup_cons] at h;rcases List.mem_cons.1 ha with e1 | ha
  ·rcases List.mem_cons.1 hb with e2 | hb
   ·rw [e1,e2]
   ·exact (h.1 (List.mem_map.2 ⟨b,hb,by rw [<-e,e1]⟩)).elim
  ·rcases List.mem_cons.1 hb with e2 | hb
   ·exact (h.1 (List.mem_map.2 ⟨a,ha,by rw [e,e2]⟩)).elim
   ·exact ih h.2 ha hb
omit [DecidableEq α] in
theorem EW.get {nm:α->Nat} {S:PS α} (I:EW nm S) (x:Nat) (s:α):get S x=some s↔s∈Dw S/\nm s=x:=by
 unfold Ps.get;constructor
 ·intro h;rw [Option.bind_eq_some_iff] at h;obtain ⟨i,h1,h2⟩:=h;obtain ⟨t,ht,h3,h4⟩:=I.tos x i h1;rw [h2] at h3
  cases h3
  exact ⟨ht,h4⟩
 ·rintro ⟨h1,rfl⟩;obtain ⟨i,h2,h3⟩:=I.ofs s h1;rw [h2];exact h3
omit [DecidableEq α] in
theorem EW.none {nm:α->Nat} {S:PS α} (I:EW nm S) (x:Nat):place S.N x=none↔∀s∈Dw S,nm s≠x:=by
 constructor
 ·intro h s hs e;obtain ⟨i,h2,-⟩:=I.ofs s hs;rw [e,h] at h2
  cases h2
 ·intro h
  cases hp:place S.N x with
  |none=>rfl
  |some i=>
   obtain ⟨t,ht,-,h4⟩:=I.tos x i hp;exact (h t ht h4).elim
theorem Si {S:HS α} (I:ET S) (s:α):S.mp.lookup s=none↔s∉live S.al S.cs:=by
 have h:=I.core.there s;rw [<-Hg]
 have e:s∈Df (view S)↔(s,true)∈view S:=by
  unfold Df;rw [List.mem_map];constructor
  ·rintro ⟨⟨a,b⟩,hab,rfl⟩;rw [List.mem_filter] at hab;obtain ⟨h1,h2⟩:=hab;dsimp only at h2;subst h2;exact h1
  ·intro h;exact ⟨(s,true),List.mem_filter.2 ⟨h,rfl⟩,rfl⟩
 rw [e];constructor
 ·intro hn hm;rw [hn] at h;simp [hm] at h
 ·intro hm
  cases hl:S.mp.lookup s with
  |none=>rfl
  |some v=>
   rw [hl] at h;simp [hm] at h
theorem iD {S:HS α} (I:ET S) {s:α} (h:s∈live S.al S.cs):∃k:Nat,S.mp.lookup s=some (k:Int):=by
 cases hl:S.mp.lookup s with
 |none=>exact ((Si I s).1 hl h).elim
 |some v=>
  obtain ⟨n,rfl,-⟩:=I.core.num hl;exact ⟨n,rfl⟩
def P0:PS α:={ H:={ cs:=[],al:=[],lv:=[],tr:=[],mp:=[],wk:=0 },N:=N0,all:=[],t:=0 }
def bH (nm:α->Nat) (S:PS α) (s:α):PS α:={ H:=Vd S.H s,N:=Nz S.N (nm s) S.all.length,all:=S.all++[s],t:=S.t+1 }
theorem Pm {nm:α->Nat} {S:PS α} (I:EW nm S) (s:α):Dw (bH nm S s)=Dw S++[s]:=Vz I.half s
theorem a0b {nm:α->Nat} {S:PS α} (I:EW nm S) (s:α) (hp:place S.N (nm s)=none) (ht:S.t<90000):EW nm (bH nm S s):=by
 have hn:=(I.none (nm s)).1 hp;have hm:S.H.mp.lookup s=none:=(Si I.half s).2 λh=>hn s h rfl
 have hlen:=ET.len I.half;have hal:=I.al;have hal2:=I.lK
 have hg:2 ^ Bv (setB S.H.cs)<=S.H.cs.length+1:=by
  rw [<-(Fz S.H.cs (s,S.H.al.length)).2];rw [(Fz S.H.cs (s,S.H.al.length)).1,Bc,List.length_drop];simp
 refine ⟨I.half.add s hm (by omega),Nm.zY I.dir _ hp,Nm.zZ I.dir I.low ht _ _,?_,?_,?_,?_,?_,?_⟩
 ·show (S.H.al++[true]).length<=S.t+1
  rw [Bc];simp;omega
 ·show S.H.wk+2 ^ Bv (setB S.H.cs)<=100000*(S.t+1)
  have:=I.wk;omega
 ·show (S.all++[s]).length<=S.t+1
  rw [Bc];simp;omega
 ·intro x i h;have h':place (Nz S.N (nm s) S.all.length) x=some i:=h;rw [Nm.VT I.dir] at h';rw [Pm I];show ∃s'∈Dw S++[s],(S.all++[s])[i]? = some s'/\nm s'=x
  split at h'
  ·rename_i e
   cases h'
   exact ⟨s,by simp,by simp,e.symm⟩
  ·obtain ⟨t,h1,h2,h3⟩:=I.tos x i h';exact ⟨t,by simp [h1],by rw [List.getElem?_append_left (AZ h2).1];exact h2,h3⟩
 ·intro u hu;rw [Pm I] at hu;show ∃i,place (Nz S.N (nm s) S.all.length) (nm u)=some i/\(S.all++[s])[i]? = some u
  rw [Nm.VT I.dir];rcases List.mem_append.1 hu with h | h
  ·rw [if_neg (hn u h)];obtain ⟨i,h1,h2⟩:=I.ofs u h;exact ⟨i,h1,by rw [List.getElem?_append_left (AZ h2).1];exact h2⟩
  ·simp at h;subst h;rw [if_pos rfl];exact ⟨_,rfl,by simp⟩
 ·rw [Pm I,List.map_append,List.nodup_append];refine ⟨I.names,by simp,?_⟩
  intro a ha b hb;obtain ⟨u,hu,rfl⟩:=List.mem_map.1 ha;simp at hb;rw [hb];exact hn u hu
def Pn (S:PS α) (x:Nat) (s:α) (k:Nat):PS α:={ H:=Dk S.H s k,N:=Nm.Dk S.N x,all:=S.all,t:=S.t+1 }
theorem Kr (V:List (α×Bool)) (s:α):Df (Dy V s)=(Df V).filter λy=>y != s:=by
 unfold Df Dy;induction V with
 |nil=>rfl
 |cons p V ih=>
  rcases p with ⟨a,b⟩;simp only [List.map_cons] at ih |-;by_cases e:a=s
  ·subst e;rw [if_pos rfl,List.filter_cons,if_neg (by simp),ih]
   cases b
   ·rw [List.filter_cons,if_neg (by simp)]
   ·rw [List.filter_cons,if_pos rfl,List.map_cons,List.filter_cons,if_neg (by simp)]
  ·rw [if_neg e]
   cases b
   ·rw [List.filter_cons,if_neg (by simp),List.filter_cons,if_neg (by simp),ih]
   ·rw [List.filter_cons,if_pos rfl,List.map_cons,List.filter_cons,if_pos rfl,List.map_cons,List.filter_cons,if_pos (by simpa using e),ih]
theorem Po (V:List (α×Bool)) (s:α):Df (Iy V s)=(Df V).filter λy=>y != s:=by
 unfold Iy;split
 ·rw [<-Kr];generalize Df (Dy V s)=L;unfold Df;induction L with
  |nil=>rfl
  |cons a L ih=>
   rw [List.map_cons,List.filter_cons,if_pos rfl,List.map_cons,ih]
 ·exact Kr V s
theorem lM {S:HS α} (I:ET S) {s:α} {k:Nat} (hk:S.mp.lookup s=some (k:Int)):live (Dk S s k).al (Dk S s k).cs=(live S.al S.cs).filter λy=>y != s:=by
 rw [<-Hg,Vy I hk,Po,Hg]
theorem YK {nm:α->Nat} {S:PS α} (I:EW nm S) {x k:Nat} {s:α} (hs:get S x=some s) (hk:S.H.mp.lookup s=some (k:Int)):Dw (Pn S x s k)=(Dw S).filter λy=>nm y != x:=by
 show live (Dk S.H s k).al (Dk S.H s k).cs=_
 rw [lM I.half hk];obtain ⟨h1,h2⟩:=(I.get x s).1 hs;refine List.filter_congr λy hy=>?_
 have hy':y∈Dw S:=hy;by_cases e:y=s
 ·subst e;simp [h2]
 ·have:nm y≠x:=λh=>e (Ur I.names hy' h1 (h.trans h2.symm))
  have g1:(y != s)=true:=by simpa using e
  have g2:(nm y != x)=true:=by simpa using this
  rw [g1,g2]
theorem a0c {S:HS α} (s:α) (k:Nat):(Dk S s k).al.length=S.al.length:=by
 unfold Dk;split
 ·unfold Ls;rw [(FC _ _).2.1];show (S.al.set k false).length=_
  rw [List.length_set]
 ·show (S.al.set k false).length=_
  rw [List.length_set]
theorem a0d {S:HS α} (s:α) (k:Nat):(Dk S s k).wk<=S.wk+S.cs.length:=by
 unfold Dk;split
 ·unfold Ls;rw [(FC _ _).2.2.2.1];show S.wk+(CW (S.al.set k false) S.cs).length<=_
  have:(CW (S.al.set k false) S.cs).length<=S.cs.length:=List.length_filter_le _ _;omega
 ·show S.wk<=_
  omega
theorem Un {nm:α->Nat} {S:PS α} (I:EW nm S) {x k:Nat} {s:α} (hs:get S x=some s) (hk:S.H.mp.lookup s=some (k:Int)) (ht:S.t<90000):EW nm (Pn S x s k):=by
 have hlen:=ET.len I.half;have hal:=I.al;have hal2:=I.lK;obtain ⟨h1,h2⟩:=(I.get x s).1 hs
 have hpx:(place S.N x).isSome=true:=by
  obtain ⟨i,hi,-⟩:=I.ofs s h1;rw [h2] at hi;rw [hi];rfl
 have hl:=YK I hs hk;refine ⟨I.half.drop hk (by omega),Nm.Un I.dir hpx,Nm.tu I.dir I.low ht _,?_,?_,?_,?_,?_,?_⟩
 ·show (Dk S.H s k).al.length<=S.t+1
  rw [a0c];omega
 ·show (Dk S.H s k).wk<=100000*(S.t+1)
  have h3:=a0d (S:=S.H) s k;have h4:=I.wk;omega
 ·show S.all.length<=S.t+1
  omega
 ·intro y i h;have h':place (Nm.Dk S.N x) y=some i:=h;rw [Nm.Uo I.dir hpx] at h';split at h'
  ·cases h'
  ·rename_i e
   obtain ⟨u,g1,g2,g3⟩:=I.tos y i h';refine ⟨u,?_,g2,g3⟩
   rw [hl,List.mem_filter];refine ⟨g1,?_⟩
   rw [g3];simp [e]
 ·intro u hu;rw [hl,List.mem_filter] at hu;obtain ⟨i,g1,g2⟩:=I.ofs u hu.1;refine ⟨i,?_,g2⟩
  show place (Nm.Dk S.N x) (nm u)=some i
  rw [Nm.Uo I.dir hpx,if_neg (by simpa using hu.2)];exact g1
 ·rw [hl];exact I.names.sublist (List.filter_sublist.map _)
theorem iE {nm:α->Nat} {S:PS α} (I:EW nm S):S.H.mp.length=(Dw S).length:=by
 rw [I.half.core.NU,Hg];rfl
omit [DecidableEq α] in
theorem inv0 {nm:α->Nat} (h:ET (P0:PS α).H):EW nm (P0:PS α) where
 half:=h
 dir:=ED.zero
 low:=⟨Nat.le_refl _,Nat.le_refl _⟩
 al:=Nat.le_refl _
 wk:=Nat.le_refl _
 lK:=Nat.le_refl _
 tos:=by intro x i h;simp [P0,N0,place] at h
 ofs:=by intro s hs;simp [Dw,P0,live,CW] at hs
 names:=by simp [Dw,P0,live,CW]
end
end Ps
namespace Nm
open Go.RowKit
attribute [local go_sem ↓] Go.wp_at_zero Go.wp_at_succ
theorem Xp {Ps:List (List Nat)} (h:Ps.Pairwise CU) {i:Nat} {G':List Nat} (hG:∀j (hj:j<Ps.length),j≠i->CU G' Ps[j]):(Ps.set i G').Pairwise CU:=by
 rw [List.pairwise_iff_getElem] at h |-;intro a b ha hb hab;rw [List.length_set] at ha hb;rw [List.getElem_set,List.getElem_set];split
 ·split
  ·omega
  ·exact hG b hb (by omega)
 ·split
  ·exact (hG a ha (by omega)).symm
  ·exact h a b ha hb hab
theorem Nj {w:World} {b1 b2:Nat} {e1 e2:TypeId} {s1 s2:Nat} {v1 v2:Value} {n1 n2:Nat} {x1 x2:List Value} (h1:w.ownsRow b1 e1 s1 v1 n1 x1) (h2:w.ownsRow b2 e2 s2 v2 n2 x2) (hne:e1≠e2):CU (blk v1) (blk v2):=by
 intro x hx hc;rcases h1.2 with ⟨rfl,_⟩ | ⟨g1,c1,k1,rfl,_,g,_⟩
 ·simp [blk] at hx
 ·rcases h2.2 with ⟨rfl,_⟩ | ⟨g2,c2,k2,rfl,_,g',_⟩
  ·simp [blk] at hc
  ·simp [blk] at hx hc;subst hx;rw [hc] at g;rw [g] at g';injection g' with g';injection g' with g1 g2;exact hne g2
theorem O9 {w wb w4:World} {e n m A C:_} {xs news:List Value} {v:Value} (hb:Bj [] w wb) (HP:DK wb w4 0 e 1 v n xs m news A C) :
 Bj (blk v) w w4/\w4.ownsRow 0 e 1 (.slice A (n+m) C) (n+m) (xs++news)/\∀x∈blk (.slice A (n+m) C),x∈blk v\/w.heap.size<=x:=by
 refine ⟨(hb.mono (by simp)).trans HP.upd,HP.own,λx hx=>?_⟩
 rcases HP.at with h | h
 ·rw [h] at hx;exact .inl hx
 ·rw [h] at hx;simp at hx;rw [hx];exact .inr hb.size
theorem Qo:(Tryz.prog.info? 4).map (λi=>(i.zero,i.size,i.bytes))=some (some (.bool false),1,1):=by kernel_rfl
theorem Uh:(Tryz.prog.info? 3).map (λi=>(i.zero,i.size,i.bytes))=some (some (.int .i64 0),1,8):=by kernel_rfl
variable {w w':World} {q cb:Nat} {vb vp va:Value} {vs:List Value} {bk:List (List (Nat×Nat))} {Fc:List Nat} {S:NS}
theorem Eh.two (H:Eh w q cb vb vp va vs bk Fc S) {vp' zV:Value} {al:List Bool} {pl:List Nat} (hu:Bj (q::(blk va++blk vp)) w w') (hh:JX w' q #[.pointer (some cb),vb,vp',zV,(S.n:Int)] 175)
 (ha:boolRow w' zV al) (hl:Jp w' vp' pl) (hba:∀x∈blk zV,x∈blk va\/w.heap.size<=x) (hbl:∀x∈blk vp',x∈blk vp\/w.heap.size<=x) :
 Eh w' q cb vb vp' zV vs bk Fc { S with al:=al,pl:=pl }:=by
 have d:∀(j:Nat) (Q:List Nat),j≠0->j≠3->j≠4->(parts q Fc vb vs vp va)[j]? = some Q->CU Q (q::(blk va++blk vp)):=by
  intro j Q h0 h3 h4 hj x hx hc;rcases List.mem_cons.1 hc with rfl | hc
  ·exact H.E5 hj (j:=0) rfl h0 x hx (by simp)
  ·rcases List.mem_append.1 hc with hc | hc
   ·exact H.E5 hj (j:=4) rfl h4 x hx hc
   ·exact H.E5 hj (j:=3) rfl h3 x hx hc
 refine ⟨hh,H.Om.upd hu (d 1 _ (by omega) (by omega) (by omega) rfl),H.rows.upd hu (d 2 _ (by omega) (by omega) (by omega) rfl),hl,ha,?_⟩
 have h1:((parts q Fc vb vs vp va).set 4 (blk zV)).Pairwise CU:=Gz H.apart H.lt rfl hba
 have h2:(((parts q Fc vb vs vp va).set 4 (blk zV)).set 3 (blk vp')).Pairwise CU:=by
  refine Xp h1 λj hj hne x hx hc=>?_
  rw [List.getElem_set] at hc;split at hc
  ·exact Nj hl ha (by decide) x hx hc
  ·rw [List.length_set] at hj;rcases hbl x hx with g | g
   ·exact H.E5 (i:=3) (j:=j) rfl (Ba hj) (Ne.symm hne) x g hc
   ·have:=H.lt _ (List.getElem_mem hj) x hc;omega
 simpa [parts] using h2
theorem Eh.pushed {w4 w5 wf:World} (H:Eh w q cb vb vp va vs bk Fc S) {A4 A5:Option Addr} {C4 C5 t:Nat}
 (EI:Bj (blk va) w w4) (zL:w4.ownsRow 0 4 1 (.slice A4 (S.al.length+1) C4) (S.al.length+1) (S.al.map .bool++[.bool true])) (hb4:∀x∈blk (.slice A4 (S.al.length+1) C4),x∈blk va\/w.heap.size<=x)
 (EZ:Bj (blk vp) w4 w5) (zM:w5.ownsRow 0 3 1 (.slice A5 (S.pl.length+1) C5) (S.pl.length+1) ((S.pl.map λ(n:Nat)=>.int .i64 (n:Int))++[.int .i64 (t:Int)])) (hb5:∀x∈blk (.slice A5 (S.pl.length+1) C5),x∈blk vp\/w4.heap.size<=x)
 (hwf:wf=(w5.setCell ⟨q,3,none⟩ (.slice A4 (S.al.length+1) C4)).setCell ⟨q,2,none⟩ (.slice A5 (S.pl.length+1) C5)\/wf=(w5.setCell ⟨q,2,none⟩ (.slice A5 (S.pl.length+1) C5)).setCell ⟨q,3,none⟩ (.slice A4 (S.al.length+1) C4)) :
 Dp w wf q cb (parts q Fc vb vs vp va).flatten bk { S with al:=S.al++[true],pl:=S.pl++[t] }:=by
 have hha:q∉blk va:=λhc=>H.E5 (i:=0) (j:=4) rfl rfl (by omega) q (by simp) hc
 have hhl:q∉blk vp:=λhc=>H.E5 (i:=0) (j:=3) rfl rfl (by omega) q (by simp) hc
 have hlt:=H.head.lt;have hh5:=(H.head.upd EI hha).upd EZ hhl;have a2n:Bj (q::(blk va++blk vp)) w w5:=(EI.mono (by intro x hx;left;simp [hx])).trans (EZ.mono (by intro x hx;left;simp [hx]));have hl4:=BJ H.Ny
 have n4:∀x∈blk (.slice A4 (S.al.length+1) C4),x≠q:=by
  intro x hx e;subst e;rcases hb4 x hx with g | g
  ·exact hha g
  ·omega
 have n5:∀x∈blk (.slice A5 (S.pl.length+1) C5),x≠q:=by
  intro x hx e;subst e;rcases hb5 x hx with g | g
  ·exact hhl g
  ·have:=EI.size;omega
 have d45:∀x∈blk (.slice A4 (S.al.length+1) C4),x∉blk vp:=by
  intro x hx hc;rcases hb4 x hx with g | g
  ·exact H.E5 (i:=4) (j:=3) rfl rfl (by omega) x g hc
  ·have:=hl4 x hc;omega
 have a2o:=Bl zL EZ d45
 have huf:Bj [q] w5 wf:=by
  rcases hwf with rfl | rfl
  ·exact ((Bj.refl _ _).setCell (p:=⟨q,3,none⟩) (.inl (by simp)) _).setCell (p:=⟨q,2,none⟩) (.inl (by simp)) _
  ·exact ((Bj.refl _ _).setCell (p:=⟨q,2,none⟩) (.inl (by simp)) _).setCell (p:=⟨q,3,none⟩) (.inl (by simp)) _
 have hhf:JX wf q #[.pointer (some ⟨cb,0,none⟩),vb,.slice A5 (S.pl.length+1) C5,.slice A4 (S.al.length+1) C4,.int .i64 (S.n:Int)] 175:=by
  rcases hwf with rfl | rfl
  ·have g:=(hh5.set 3 (.slice A4 (S.al.length+1) C4)).set 2 (.slice A5 (S.pl.length+1) C5);simpa using g
  ·have g:=(hh5.set 2 (.slice A5 (S.pl.length+1) C5)).set 3 (.slice A4 (S.al.length+1) C4);simpa using g
 have hu:Bj (q::(blk va++blk vp)) w wf:=a2n.trans (huf.mono (by intro x hx;left;simp at hx;simp [hx]));have sF:∀x∈blk (.slice A5 (S.pl.length+1) C5),x∈blk vp\/w.heap.size<=x:=λx hx=>(hb5 x hx).imp id λg=>Bh EI.size g
 have hr:=H.two (al:=S.al++[true]) (pl:=S.pl++[t]) hu hhf
  (by have:=Bl a2o huf (λx hx=>by simpa using n4 x hx);unfold boolRow;simpa using this)
  (by have:=Bl zM huf (λx hx=>by simpa using n5 x hx);unfold Jp;simpa using this) hb4 sF
 refine ⟨_,_,_,_,_,hr,hu.mono λx hx=>.inl ?_,λx hx=>?_⟩
 ·rcases List.mem_cons.1 hx with rfl | hx
  ·exact Bz (i:=0) (P:=[x]) rfl (by simp)
  ·rcases List.mem_append.1 hx with hx | hx
   ·exact Bz (i:=4) rfl hx
   ·exact Bz (i:=3) rfl hx
 ·obtain ⟨P,hP,VR⟩:=List.mem_flatten.1 hx;simp only [parts,List.mem_cons,List.not_mem_nil,or_false] at hP;rcases hP with rfl | rfl | rfl | rfl | rfl
  ·exact .inl (Bz (i:=0) (P:=[q]) rfl VR)
  ·exact .inl (Bz (i:=1) rfl VR)
  ·exact .inl (Bz (i:=2) rfl VR)
  ·exact (sF x VR).imp (Bz (i:=3) rfl) id
  ·exact (hb4 x VR).imp (Bz (i:=4) rfl) id
theorem Dp.next {w'':World} {F F1:List Nat} (hu:Bj F w w') (hF:∀x∈F1,x∈F\/w.heap.size<=x) (K:Dp w' w'' q cb F1 bk S):Dp w w'' q cb F bk S:=by
 obtain ⟨vb,vp,va,vs,Fc,h,h1,h2⟩:=K;refine ⟨vb,vp,va,vs,Fc,h,hu.trans' h1 hF,λx hx=>?_⟩
 rcases h2 x hx with g | g
 ·exact hF x g
 ·exact .inr (Bh hu.size g)
theorem tC (tv:Value) (F:List Nat) (S:NS) (x p k:Nat) (w:World) (H:Gi w tv F S) (I:ED S) (hl:S.cs.length<90000) (hn:S.n<100000) (hk:S.cs.lookup x=some k) :
 Calls Tryz.prog 72 #[tv,.int .u32 (x:Int),(p:Int)] w λe w'=>
  (S.al.getD k false=true/\e=.returned (.int .i64 2)/\Bj [] w w')\/(S.al.getD k false=false/\e=.returned (.int .i64 0)/\Ee w w' tv F (bD S k p)):=by
 have HN:=AX (gZ tv F w H);have hfc:=ig tv F S x w H I hl;unfold MB at hfc;rw [hk] at hfc;have HF:=AX hfc;have HH:=AX H;have HI:=AX I;obtain ⟨q,cb,vb,vp,va,vs,bk,Fc,rfl,-⟩:=H;obtain ⟨hk1,hk2⟩:=Ou I hk;have hd:jA (some k)=(k:Int):=rfl;rw [hd] at HF;clear I hk hfc hd;go_enter Tryz.func72,Tryz.ntmps72
 go_wp2_with fail
 go_fit HN.out
 rintro e w' ⟨rfl,rfl⟩;go_wp2_with fail
 go_fit HF.out
 rintro e w1 ⟨t,rfl,ht,hu⟩;have HU:=AX hu;obtain ⟨q,cb,vb,vp,va,vs,bk,Fc,he,H1,hb,hF⟩:=HH.out.upd hu (by simp)
 cases he
 obtain ⟨-,-,h2,h3,h4,hfr⟩:=H1.cell;obtain ⟨ga,Ca,rfl,a1,a2,-⟩:=Ui H1.FK hk1;obtain ⟨gp,Cp,rfl,p1,p2,-⟩:=Pe H1.Ny hk2;have hf4:=hfr 4;have k0:(0:Int)<=(k:Int):=AY _;have k1:(k:Int)<(S.al.length:Int):=by omega
 have k2:(k:Int)<(S.pl.length:Int):=by omega
 have U9:=Aq H1 hb hF;by_cases hal:S.al.getD k false=true
 ·rw [hal] at a1;clear H1 hb hF hu hfr hk1 hk2 p1 p2 a2 hf4 h4 U9;have O5:=AX hal;clear hal;dsimp only;go_wp2_with fail
  go_ret
  exact .inl ⟨O5.out,rfl,HU.out⟩
 ·have hal2:S.al.getD k false=false:=by simpa using hal
  rw [hal2] at a1;have O5:=AX hal2;clear hal hal2;have n0:(0:Int)<=(S.n:Int):=AY _;have n1:(S.n:Int)<100000:=by omega
  have hqa:q≠ga:=λe=>H1.E5 (i:=0) (j:=4) rfl rfl (by omega) q (by simp) (by simp [blk,e])
  have xR:q≠gp:=λe=>H1.E5 (i:=0) (j:=3) rfl rfl (by omega) q (by simp) (by simp [blk,e])
  have hap:ga≠gp:=λe=>H1.E5 (i:=4) (j:=3) rfl rfl (by omega) ga (by simp [blk]) (by simp [blk,e])
  have hcn:=H1.count (S.n+1);have he:Value.int .i64 ((S.n+1:Nat):Int)=Value.int .i64 ((S.n:Int)+1):=by congr 1
  rw [he] at hcn;have hm1:=hcn.mark rfl k true;have hm2:=hm1.lay rfl k p
  have hus:Bj (parts q Fc vb vs (.slice (some ⟨gp,0,none⟩) S.pl.length Cp) (.slice (some ⟨ga,0,none⟩) S.al.length Ca)).flatten w1 (((w1.setCell ⟨q,4,none⟩ (.int .i64 ((S.n:Int)+1))).setCell ⟨ga,k,none⟩ (.bool true)).setCell ⟨gp,k,none⟩ (.int .i64 (p:Int))):=
   (((Bj.refl _ _).setCell (p:=⟨q,4,none⟩) (.inl (Bz (i:=0) (P:=[q]) rfl (by simp))) _).setCell (p:=⟨ga,k,none⟩) (.inl (Bz (i:=4) (P:=[ga]) rfl (by simp))) _).setCell (p:=⟨gp,k,none⟩) (.inl (Bz (i:=3) (P:=[gp]) rfl (by simp))) _
  have hfin:Ee w1 (((w1.setCell ⟨q,4,none⟩ (.int .i64 ((S.n:Int)+1))).setCell ⟨ga,k,none⟩ (.bool true)).setCell ⟨gp,k,none⟩ (.int .i64 (p:Int))).drew (.pointer (some q)) (parts q Fc vb vs (.slice (some ⟨gp,0,none⟩) S.pl.length Cp) (.slice (some ⟨ga,0,none⟩) S.al.length Ca)).flatten (bD S k p):=by
   refine (Dp.is (bk:=bk) ⟨_,_,_,_,_,hm2,hus,λx hx=>.inl hx⟩ (by exact hb)).quiet ((Bj.refl _ _).drew)
  have hm3:=(hcn.lay rfl k p).mark rfl k true
  have lI:Bj (parts q Fc vb vs (.slice (some ⟨gp,0,none⟩) S.pl.length Cp) (.slice (some ⟨ga,0,none⟩) S.al.length Ca)).flatten w1 (((w1.setCell ⟨q,4,none⟩ (.int .i64 ((S.n:Int)+1))).setCell ⟨gp,k,none⟩ (.int .i64 (p:Int))).setCell ⟨ga,k,none⟩ (.bool true)):=
   (((Bj.refl _ _).setCell (p:=⟨q,4,none⟩) (.inl (Bz (i:=0) (P:=[q]) rfl (by simp))) _).setCell (p:=⟨gp,k,none⟩) (.inl (Bz (i:=3) (P:=[gp]) rfl (by simp))) _).setCell (p:=⟨ga,k,none⟩) (.inl (Bz (i:=4) (P:=[ga]) rfl (by simp))) _
  have YL:Ee w1 (((w1.setCell ⟨q,4,none⟩ (.int .i64 ((S.n:Int)+1))).setCell ⟨gp,k,none⟩ (.int .i64 (p:Int))).setCell ⟨ga,k,none⟩ (.bool true)).drew (.pointer (some q)) (parts q Fc vb vs (.slice (some ⟨gp,0,none⟩) S.pl.length Cp) (.slice (some ⟨ga,0,none⟩) S.al.length Ca)).flatten (bD S k p):=by
   refine (Dp.is (bk:=bk) ⟨_,_,_,_,_,hm3,lI,λx hx=>.inl hx⟩ (by exact hb)).quiet ((Bj.refl _ _).drew)
  have Ih:=Aq hfin YL hF;clear hm1 hm2 hm3 hus lI hfin YL hcn hb hF H1 hu hfr hk1 hk2;dsimp only;go_upto_region 7 with fail
  have e2:(w1.setCell ⟨q,4,none⟩ (.int .i64 ((S.n:Int)+1))).cell? ⟨q,2,none⟩=some (.slice (some ⟨gp,0,none⟩) S.pl.length Cp):=by rw [World.cell?_setCell_other _ _ _ _ (by simp)];exact h2
  have e3:(w1.setCell ⟨q,4,none⟩ (.int .i64 ((S.n:Int)+1))).cell? ⟨q,3,none⟩=some (.slice (some ⟨ga,0,none⟩) S.al.length Ca):=by rw [World.cell?_setCell_other _ _ _ _ (by simp)];exact h3
  have e4:(w1.setCell ⟨q,4,none⟩ (.int .i64 ((S.n:Int)+1))).cell? ⟨ga,k,none⟩=some (.bool false):=by rw [World.cell?_setCell_other _ _ _ _ (by simp)];exact a1
  have e5:(w1.setCell ⟨q,4,none⟩ (.int .i64 ((S.n:Int)+1))).cell? ⟨gp,k,none⟩=some (.int .i64 ((S.pl.getD k 0:Nat):Int)):=by rw [World.cell?_setCell_other _ _ _ _ (by simp)];exact p1
  have e6:(w1.setCell ⟨q,4,none⟩ (.int .i64 ((S.n:Int)+1))).frozen? ⟨ga,k,none⟩=false:=by rw [World.frozen?_setCell];exact a2
  have e7:(w1.setCell ⟨q,4,none⟩ (.int .i64 ((S.n:Int)+1))).frozen? ⟨gp,k,none⟩=false:=by rw [World.frozen?_setCell];exact p2
  generalize (w1.setCell ⟨q,4,none⟩ (.int .i64 ((S.n:Int)+1)))=w2 at Ih e2 e3 e4 e5 e6 e7 |-;clear h2 h3 h4 a1 a2 p1 p2 hf4 hqa xR;go_upto_region 8 with fail
  go_region
  all_goals
   go_wp2_with fail
   go_ret
   refine .inr ⟨O5.out,rfl,?_⟩
   obtain ⟨h9,h8,hF⟩:=Ih.out;rw [<-hF] at h9 h8
   first
    |exact h9.ahead HU.out
    |exact h8.ahead HU.out
end Nm
namespace Nm
open Go.RowKit
attribute [local go_sem ↓] Go.wp_at_zero Go.wp_at_succ
variable {w w':World} {q cb:Nat} {vb vp va:Value} {vs:List Value} {bk:List (List (Nat×Nat))} {Fc:List Nat} {S:NS}
theorem Eh.wide {w1 w2:World} (H:Eh w q cb vb vp va vs bk Fc S) {o:Obj} {A:Option Addr} {C:Nat} (HP:DK (w.alloc o) w1 0 187 1 vb vs.length vs 1 [.slice none 0 0] A C)
 (hw:w2=w1.setCell ⟨q,1,none⟩ (.slice A (vs.length+1) C)) :
 Dp w w2 q cb (parts q Fc vb vs vp va).flatten (bk++[[]]) S:=by
 subst hw;obtain ⟨p1,p2⟩:=H.rows.snoc HP;have PO:q∉D8 vb vs:=λhc=>H.E5 (i:=0) (j:=2) rfl rfl (by omega) q (by simp) hc
 have hu1:Bj (D8 vb vs) w w1:=(((Bj.refl _ _).alloc _).trans HP.upd).mono (λx hx=>.inl (BQ.2 (.inl hx)));have hh1:=(H.head.upd hu1 PO).set 1 (.slice A (vs.length+1) C);have hus:Bj [q] w1 (w1.setCell ⟨q,1,none⟩ (.slice A (vs.length+1) C)):=(Bj.refl _ _).setCell (p:=⟨q,1,none⟩) (.inl (by simp)) _
 have hnq:∀x∈D8 (.slice A (vs.length+1) C) (vs++[.slice none 0 0]),x∉[q]:=by
  intro x hx hc;simp at hc;subst hc;rcases p2 x hx with g | g
  ·exact PO g
  ·have:=H.head.lt;omega
 have a2r:=H.bks (gQ:=.slice A (vs.length+1) C) (vs':=vs++[.slice none 0 0]) (bk':=bk++[[]]) (w':=w1.setCell ⟨q,1,none⟩ (.slice A (vs.length+1) C)) ((hu1.mono (by intro x hx;left;simp [hx])).trans (hus.mono (by intro x hx;left;simp at hx;simp [hx])))
  (by simpa using hh1) (p1.upd hus hnq) p2
 refine ⟨_,_,_,_,_,a2r,(hu1.mono (λx hx=>.inl (Bz (i:=2) rfl hx))).trans (hus.mono (λx hx=>.inl (Bz (i:=0) (P:=[q]) rfl hx))),λx hx=>?_⟩
 have e:parts q Fc (.slice A (vs.length+1) C) (vs++[.slice none 0 0]) vp va=(parts q Fc vb vs vp va).set 2 (D8 (.slice A (vs.length+1) C) (vs++[.slice none 0 0])):=rfl;rw [e] at hx;rcases Ed hx with g | g
 ·exact .inl g
 ·rcases p2 x g with g | g
  ·exact .inl (Bz (i:=2) rfl g)
  ·exact .inr g
theorem Eh.turn (H:Eh w q cb vb vp va vs bk Fc S) {g N C:Nat} (hv:vb=.slice (some ⟨g,0,none⟩) N C) (i:Nat) (u:Value) (l:List (Nat×Nat)) (hrow:NH.KI.row w 0 u l) (hap:∀k∈blk u,k∉(parts q Fc vb vs vp va).flatten) :
 Eh (w.setCell ⟨g,i,none⟩ u) q cb vb vp va (vs.set i u) (bk.set i l) Fc S/\Bj (parts q Fc vb vs vp va).flatten w (w.setCell ⟨g,i,none⟩ u)/\∀x∈(parts q Fc vb (vs.set i u) vp va).flatten,x∈(parts q Fc vb vs vp va).flatten\/x∈blk u:=by
 subst hv;have hgF:g∈(parts q Fc (.slice (some ⟨g,0,none⟩) N C) vs vp va).flatten:=Bz (i:=2) rfl (BQ.2 (.inl (by simp [blk])))
 have hN:N=vs.length:=by
  obtain ⟨A',C',he⟩:=BD H.rows.list
  cases he;rfl
 have hu:Bj [g] w (w.setCell ⟨g,i,none⟩ u):=(Bj.refl _ _).setCell (p:=⟨g,i,none⟩) (.inl (by simp)) _
 have d:∀(j:Nat) (Q:List Nat),j≠2->(parts q Fc (.slice (some ⟨g,0,none⟩) N C) vs vp va)[j]? = some Q->CU Q [g]:=λj Q hne hj x hx hc=>by
  simp at hc;subst hc;exact H.E5 hj (j:=2) rfl hne x hx (BQ.2 (.inl (by simp [blk])))
 have hr:=H.rows.put hN i u l hrow (λk hk=>⟨λe=>hap k hk (by rw [e];exact hgF),λj t _ ht hc=>hap k hk (Bz (i:=2) rfl (BQ.2 (.inr ⟨j,t,ht,hc⟩)))⟩)
 have hrf:∀x∈D8 (.slice (some ⟨g,0,none⟩) N C) (vs.set i u),x∈D8 (.slice (some ⟨g,0,none⟩) N C) vs\/x∈blk u:=by
  intro x hx;rcases BQ.1 hx with h | ⟨j,t,ht,hx⟩
  ·exact .inl (BQ.2 (.inl h))
  ·rw [List.getElem?_set] at ht;split at ht
   ·split at ht
    ·simp at ht;subst ht;exact .inr hx
    ·cases ht
   ·exact .inl (BQ.2 (.inr ⟨j,t,ht,hx⟩))
 refine ⟨⟨H.head.upd hu (d 0 [q] (by omega) rfl q (by simp)),H.Om.upd hu (d 1 _ (by omega) rfl),hr,Bl H.Ny hu (d 3 _ (by omega) rfl),Bl H.FK hu (d 4 _ (by omega) rfl),?_⟩,hu.mono (λx hx=>.inl (by simp at hx;subst hx;exact hgF)),?_⟩
 ·have:=Xp H.apart (i:=2) (G':=D8 (.slice (some ⟨g,0,none⟩) N C) (vs.set i u)) (λj hj hne x hx hc=>by
   rcases hrf x hx with g1 | g1
   ·exact H.E5 (i:=2) (j:=j) rfl (Ba hj) (Ne.symm hne) x g1 hc
   ·exact hap x g1 (Bz (Ba hj) hc))
  exact this
 ·intro x hx;have e:parts q Fc (.slice (some ⟨g,0,none⟩) N C) (vs.set i u) vp va=(parts q Fc (.slice (some ⟨g,0,none⟩) N C) vs vp va).set 2 (D8 (.slice (some ⟨g,0,none⟩) N C) (vs.set i u)):=rfl;rw [e] at hx;rcases Ed hx with h | h
  ·exact .inl h
  ·exact (hrf x h).imp (Bz (i:=2) rfl) id
theorem lN (bk:List (List (Nat×Nat))) (i:Nat) (hi:i<bk.length):(List.replicate i []++bk.drop i).set i []=List.replicate (i+1) []++bk.drop (i+1):=by
 apply List.ext_getElem?
 intro j;rw [List.getElem?_set];simp only [Bc,List.length_replicate,List.length_drop];rcases Nat.lt_trichotomy i j with h | h | h
 ·rw [if_neg (by omega),List.getElem?_append_right (by simp;omega),List.getElem?_append_right (by simp;omega)];simp only [List.length_replicate,List.getElem?_drop];congr 1
  omega
 ·subst h;rw [if_pos rfl,if_pos (by omega),List.getElem?_append_left (by simp),List.getElem?_replicate,if_pos (by omega)]
 ·rw [if_neg (by omega),List.getElem?_append_left (by simp;omega),List.getElem?_append_left (by simp;omega),List.getElem?_replicate,List.getElem?_replicate,if_pos (by omega),if_pos (by omega)]
theorem a2s (bk:List (List (Nat×Nat))) (t:Nat) (l:List (Nat×Nat)) (ht:t<bk.length):(List.replicate t []++bk.drop t).set t l=List.replicate t []++l::bk.drop (t+1):=by
 rw [List.set_append_right _ _ (by simp)];simp only [List.length_replicate,Nat.sub_self];rw [List.drop_eq_getElem_cons ht];rfl
end Nm
section
theorem tH {α:Type} (l:List α) (x:α):2 ^ Bv (setB l)<=l.length+1/\(l.length+1) % 2 ^ Bv (setB l)=0/\(l.length+1) % 2 ^ (Bv (setB l)+1)≠0:=by
 obtain ⟨h1,h2⟩:=IZ l;obtain ⟨h3,h4,h5⟩:=PX _ _ h1 h2;obtain ⟨h6,h7⟩:=Fz l x;generalize Bv (setB l)=t at *;have hp:=Nat.two_pow_pos t;have hpt:2 ^ (t+1)=2*2 ^ t:=by rw [Nat.pow_succ,Nat.mul_comm]
 have hr:=G5 l.length (t+1);have hle:l.length / 2 ^ (t+1)*2 ^ (t+1)<=l.length:=Nat.div_mul_le_self _ _;have hq:l.length / 2 ^ (t+1)*2 ^ (t+1)=l.length+1 - 2 ^ t:=by omega
 have hm:(l.length+1) % 2 ^ (t+1)=2 ^ t:=by
  have:=Nat.div_add_mod l.length (2 ^ (t+1));have e:l.length+1=2 ^ (t+1)*(l.length / 2 ^ (t+1))+2 ^ t:=by omega
  rw [e,Nat.mul_add_mod,Nat.mod_eq_of_lt (by omega)]
 refine ⟨by omega,?_,by omega⟩
 have:=Nat.div_add_mod (l.length+1) (2 ^ (t+1));rw [hm,hpt] at this
 have e:l.length+1=2 ^ t*(2*((l.length+1) / (2*2 ^ t))+1):=by
  rw [Nat.mul_add,Nat.mul_one,<-Nat.mul_assoc,Nat.mul_comm (2 ^ t) 2];exact this.symm
 rw [e];exact Nat.mul_mod_right _ _
def wN:Nat->Nat
 |0=>0
 |n+1=>wN n+Nat.gcd (n+1) 512
def wG (n:Nat):Nat->Nat
 |0=>0
 |t+1=>wG n t+2 ^ t*((n+2 ^ t) / (2*2 ^ t))
theorem tJ:∀n<402,wN n=wG n 9:=by decide +kernel
def a1e (n t:Nat):Bool:=!((n+1) % 2 ^ t==0&&(n+1) % 2 ^ (t+1) != 0)||Nat.gcd (n+1) 512==2 ^ t
theorem a0e:∀n<402,∀t<9,a1e n t=true:=by decide +kernel
theorem a0f (n:Nat) (hn:n<402) {α:Type} (l:List α) (hl:l.length=n) (x:α):2 ^ Bv (setB l)=Nat.gcd (n+1) 512:=by
 obtain ⟨h1,h2,h3⟩:=tH l x;rw [hl] at h1 h2 h3
 have ht:Bv (setB l)<9:=by
  refine Nat.lt_of_not_le λh=>?_
  have:=Nat.pow_le_pow_right (n:=2) (by omega) h;omega
 have:=a0e n hn _ ht;unfold a1e at this;simp [h2,h3] at this;exact this.symm
theorem a5f (n k p:Nat) (hk:k<=n) (hp:0<p):2*(p*((n+p) / (2*p)))<=2*(p*((k+p) / (2*p)))+(n - k)+2*p:=by
 have h1:2*p*((n+p) / (2*p))<=n+p:=Nat.mul_div_le _ _;have h2:=Nat.div_add_mod (k+p) (2*p);have h3:=Nat.mod_lt (k+p) (show 2*p > 0 by omega);rw [<-Nat.mul_assoc,<-Nat.mul_assoc];omega
theorem a5g (n p:Nat) (h:n<p):(n+p) / (2*p)=0:=Nat.div_eq_of_lt (by omega)
theorem lQ (n T T0:Nat) (h1:n<2 ^ (T+1)) (h2:2 ^ T0<=n):T0<=T:=by
 refine Nat.le_of_not_lt λh=>?_
 have:=Nat.pow_le_pow_right (n:=2) (by omega) (show T+1<=T0 from h);omega
theorem iF (n k:Nat) (hk:k<=n):∀t,2*wG n t+2<=2*wG k t+(n - k)*t+2*2 ^ t
 |0=>by simp [wG]
 |t+1=>by
  have ih:=iF n k hk t;have h:=a5f n k (2 ^ t) hk (Nat.pow_pos (by omega));simp only [wG];rw [Nat.mul_add,Nat.mul_add,Nat.mul_add (n - k),Nat.mul_one,Nat.pow_succ];omega
theorem Xw (n s:Nat) (h:n<2 ^ s):∀t,wG n (s+t)=wG n s
 |0=>rfl
 |t+1=>by
  have h1:2 ^ s<=2 ^ (s+t):=Nat.pow_le_pow_right (by omega) (by omega);show wG n (s+t)+2 ^ (s+t)*((n+2 ^ (s+t)) / (2*2 ^ (s+t)))=wG n s
  rw [a5g n _ (by omega),Xw n s h t];omega
theorem a1f (T n k:Nat) (hk:k<=n) (hn:n<402) (hT:n<2 ^ (T+1)):2*wN n<=2*wN k+(n - k)*(T+1)+4*n:=by
 rw [tJ n hn,tJ k (by omega)];by_cases h0:n=0
 ·have:k=0:=by omega
  subst h0 this;omega
 ·have h1:=Nat.log2_self_le h0;have h2:=Nat.lt_log2_self (n:=n);have h3:=lQ n T _ hT h1;obtain ⟨L,hL⟩:=AU (Nat.log2 n);rw [hL] at h1 h2 h3
  have h8:L<=8:=by
   refine Nat.le_of_not_lt λh=>?_
   have:=Nat.pow_le_pow_right (n:=2) (by omega) (show 9<=L from h);omega
  have e1:=Xw n (L+1) h2 (8 - L);have e2:=Xw k (L+1) (by omega) (8 - L);rw [show L+1+(8 - L)=9 by omega] at e1 e2;have h5:=iF n k hk (L+1);have h6:(n - k)*(L+1)<=(n - k)*(T+1):=Nat.mul_le_mul_left _ (by omega);rw [e1,e2];rw [Nat.pow_succ] at h5;omega
def tK (n v wk A D:Nat):Prop:=∃k R a d,n=k+a/\v+d=n/\a<=A/\d<=D/\n<=A/\n<=2*v/\wk+wN k<=wN n+R/\
 ∀T,A+D<2 ^ (T+1)->2*R+4*k<=(A - a)*(T+1)+4*(A - a)+6*(D - d)
theorem bd0:tK 0 0 0 0 0:=⟨0,0,0,0,rfl,rfl,by omega,by omega,by omega,by omega,by simp [wN],λ_ _=>by omega⟩
theorem a2t {n v wk A D:Nat} (h:tK n v wk A D):tK (n+1) (v+1) (wk+Nat.gcd (n+1) 512) (A+1) D:=by
 obtain ⟨k,R,a,d,h1,h2,h3,h4,h5,h6,h7,h8⟩:=h;refine ⟨k,R,a+1,d,by omega,by omega,by omega,h4,by omega,by omega,?_,λT hT=>?_⟩
 ·show wk+Nat.gcd (n+1) 512+wN k<=wN n+Nat.gcd (n+1) 512+R
  omega
 ·have:=h8 T (by omega);rw [show A+1 - (a+1)=A - a by omega];exact this
theorem a0g {n v wk A D:Nat} (h:tK n (v+1) wk A D) (hn:¬2*v<n):tK n v wk A (D+1):=by
 obtain ⟨k,R,a,d,h1,h2,h3,h4,h5,h6,h7,h8⟩:=h;refine ⟨k,R,a,d+1,h1,by omega,h3,by omega,h5,by omega,h7,λT hT=>?_⟩
 have:=h8 T (by omega);rw [show D+1 - (d+1)=D - d by omega];exact this
theorem a0h {n v wk A D:Nat} (h:tK n (v+1) wk A D) (hn:2*v<n) (hl:n<402):tK v v (wk+v) A (D+1):=by
 obtain ⟨k,R,a,d,h1,h2,h3,h4,h5,h6,h7,h8⟩:=h;refine ⟨v,wk+v,0,0,rfl,by omega,by omega,by omega,by omega,by omega,by omega,λT hT=>?_⟩
 have e1:=h8 T (by omega);have e2:=a1f T n k (by omega) hl (by omega);rw [show n - k=a by omega] at e2;have e3:a*(T+1)+(A - a)*(T+1)=A*(T+1):=by rw [<-Nat.add_mul];congr 1;omega
 rw [Nat.sub_zero,Nat.sub_zero];generalize a*(T+1)=p at *;generalize (A - a)*(T+1)=q at *;omega
theorem a2u {n v wk A D:Nat} (h:tK n v wk A D) (hl:n<402):wk<=(A+D)*(BA (A+D)+2):=by
 obtain ⟨k,R,a,d,h1,h2,h3,h4,h5,h6,h7,h8⟩:=h;have hb:=Di (A+D);obtain ⟨b,hbb⟩:=AU (BA (A+D));rw [hbb] at hb |-;by_cases h0:b=0
 ·subst h0;have:A+D=0:=by simp at hb;omega
  have hA:A=0:=by omega
  have hD:D=0:=by omega
  subst hA hD;have e1:=h8 0 (by simp);have ha:a=0:=by omega
  have hk:k=0:=by omega
  subst ha hk;have hn:n=0:=by omega
  subst hn;simp [wN] at h7;omega
 ·obtain ⟨T,rfl⟩:∃T,b=T+1:=⟨b - 1,by omega⟩;have e1:=h8 T hb;have e2:=a1f T n k (by omega) hl (by omega);rw [show n - k=a by omega] at e2;have e3:a*(T+1)+(A - a)*(T+1)=A*(T+1):=by rw [<-Nat.add_mul];congr 1;omega
  have e4:D<=D*(T+1):=Nat.le_mul_of_pos_right _ (by omega);have e5:(A+D)*(T+1+2)=A*(T+1)+D*(T+1)+2*A+2*D:=by rw [Nat.mul_add,Nat.add_mul];omega
  rw [e5];generalize a*(T+1)=p at *;generalize (A - a)*(T+1)=q at *;generalize A*(T+1)=r at *;generalize D*(T+1)=t at *;omega
theorem a2v {n v wk A D:Nat} (h:tK n v wk A D):v<=n/\n<=2*v:=by
 obtain ⟨k,R,a,d,h1,h2,h3,h4,h5,h6,h7,h8⟩:=h;omega
section
variable {α:Type} [DecidableEq α]
def BdS (S:HS α) (A D:Nat):Prop:=tK S.cs.length (live S.al S.cs).length S.wk A D
theorem a0i {S:HS α} {A D:Nat} (h:BdS S A D) (I:ET S) (x:α) (hm:S.cs.length<401):BdS (Vd S x) (A+1) D:=by
 have e1:=Vz I x;have e2:=a0f S.cs.length (by omega) S.cs rfl (x,S.al.length);unfold BdS;rw [e1,Bc];show tK (S.cs++[(x,S.al.length)]).length ((live S.al S.cs).length+1) (S.wk+2 ^ Bv (setB S.cs)) (A+1) D
 rw [Bc,e2];exact a2t h
theorem tN {S:HS α} {A D:Nat} (h:BdS S A D) (I:ET S) {x:α} {k:Nat} (hk:S.mp.lookup x=some (k:Int)) (hm:S.cs.length<402):BdS (Dk S x k) A (D+1):=by
 have e2:=eG I hk;have e3:=Vy I hk
 have e0:(Df (Dy (view S) x)).length+1=(live S.al S.cs).length:=by
  have h1:=(I.core.drop1 hk).NU;rw [JY I.core hk] at h1;have h1':(Il S.mp x).length=(Df (Dy (view S) x)).length:=h1;have h2:=I5 I.keys x;rw [hk] at h2;simp at h2;have h3:=I.core.NU;rw [Hg] at h3;omega
 unfold BdS at h |-;rw [<-Hg (Dk S x k),<-Iz (Dk S x k),e2,e3];rw [<-e0,<-Iz] at h;have hcl:(view S).length<402:=by rw [Iz];omega
 have e4:(Df (Iy (view S) x)).length=(Df (Dy (view S) x)).length:=by rw [Ps.Po,Ps.Kr]
 have e5:(Iy (view S) x).length=if 2*(Df (Dy (view S) x)).length<(view S).length then (Df (Dy (view S) x)).length else (view S).length:=by
  unfold Iy;split
  ·rw [List.length_map]
  ·unfold Dy;rw [List.length_map]
 rw [e4,e5];generalize (Df (Dy (view S) x)).length=v at *;by_cases hv:2*v<(view S).length
 ·rw [if_pos hv,if_pos hv];exact a0h h hv hcl
 ·rw [if_neg hv,if_neg hv];exact a0g h hv
