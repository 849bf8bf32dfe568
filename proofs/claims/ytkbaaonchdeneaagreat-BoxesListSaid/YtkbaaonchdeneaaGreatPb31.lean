/- A directory of names, plainly: what Put and Drop make of it. names' Put. Printed by genNmI.py. -/
import Derived.Test.YtkbaaonchdeneaaGreatPb30
set_option maxHeartbeats 2000000
set_option maxRecDepth 100000
namespace Go.Proofs.YtkbaaonchdeneaaGreat.Nm
def jP (S:NS) (k p:Nat):NS:={ S with al:=S.al.set k true,pl:=S.pl.set k p,n:=S.n+1 }
def P5 (S:NS) (x p:Nat):NS:={ cs:=S.cs++[(x,S.al.length)],al:=S.al++[true],pl:=S.pl++[p],n:=S.n+1,wk:=S.wk+(EF (setB S.cs) (x,S.al.length)).length }
def Rf (S:NS) (x p:Nat):NS:=match S.cs.lookup x with | some k=>jP S k p | none=>P5 S x p
def TP (S:NS) (k:Nat):NS:={ S with al:=S.al.set k false,n:=S.n - 1 }
def Dx (S:NS) (x:Nat):NS:=match S.cs.lookup x with | some k=>if S.cs.length > 2*(S.n - 1) then TN (TP S k) else TP S k | none=>S
theorem Xz {l:List Bool} {k:Nat} (hk:k<l.length) (h:l.getD k false=false):(l.set k true).count true=l.count true+1:=by
 induction l generalizing k with
 |nil=>simp at hk
 |cons a l ih=>
  rcases k with _ | k
  ·simp at h;subst h;simp
  ·have:=ih (k:=k) (by simpa using hk) (by simpa using h);rw [List.set_cons_succ,List.count_cons,List.count_cons,this];omega
theorem OQ {l:List Bool} {k:Nat} (h:l.getD k false=true):(l.set k false).count true+1=l.count true:=by
 induction l generalizing k with
 |nil=>simp at h
 |cons a l ih=>
  rcases k with _ | k
  ·simp at h;subst h;simp
  ·have:=ih (k:=k) (by simpa using h);rw [List.set_cons_succ,List.count_cons,List.count_cons];omega
theorem getD_lt {l:List Bool} {k:Nat} (h:l.getD k false=true):k<l.length:=by
 rcases Nat.lt_or_ge k l.length with h1 | h1
 ·exact h1
 ·rw [List.getD_eq_getElem?_getD,List.getElem?_eq_none h1] at h
  cases h
theorem nK {S:NS} (I:Fz S) {x y k:Nat} (hx:S.cs.lookup x=some k) (hy:S.cs.lookup y=some k):x=y:=by
 rw [Fp I.ids] at hx hy;obtain ⟨i,hi⟩:=List.mem_iff_getElem?.1 hx;obtain ⟨j,hj⟩:=List.mem_iff_getElem?.1 hy;have hi':(S.cs.map (·.2))[i]? = some k:=by rw [List.getElem?_map,hi];rfl
 have hj':(S.cs.map (·.2))[j]? = some k:=by rw [List.getElem?_map,hj];rfl
 have e:i=j:=by
  obtain ⟨l1,e1⟩:=AV hi';obtain ⟨l2,e2⟩:=AV hj';have hp:=List.pairwise_iff_getElem.1 I.nums;rcases Nat.lt_trichotomy i j with h | h | h
  ·exact (hp i j l1 l2 h (e1.trans e2.symm)).elim
  ·exact h
  ·exact (hp j i l2 l1 h (e2.trans e1.symm)).elim
 subst e;rw [hi] at hj;simpa using hj
theorem a1j {S:NS} (I:Fz S) {x k:Nat} (p:Nat) (hk:S.cs.lookup x=some k) (hd:S.al.getD k false=false):Fz (jP S k p):=by
 obtain ⟨k1,k2⟩:=PZ I hk;refine ⟨I.ids,I.nums,fun y hy=>by show y.2<(S.al.set k true).length;rw [List.length_set];exact I.lt y hy,by show (S.pl.set k p).length=(S.al.set k true).length;rw [List.length_set,List.length_set,I.pll],?_,?_⟩
 ·show S.n+1=(S.al.set k true).count true
  rw [Xz k1 hd,I.cnt]
 ·intro j hj;have hj':(S.al.set k true)[j]? = some true:=hj;rw [List.getElem?_set] at hj';split at hj'
  ·rename_i e
   subst e;rw [Fp I.ids] at hk;exact ⟨_,hk,rfl⟩
  ·exact I.all j hj'
theorem rH {S:NS} (I:Fz S) {x k:Nat} (p:Nat) (hk:S.cs.lookup x=some k) (y:Nat):place (jP S k p) y=if y=x then some p else place S y:=by
 obtain ⟨k1,k2⟩:=PZ I hk;unfold place;show (match S.cs.lookup y with | some j=>if (S.al.set k true).getD j false then some ((S.pl.set k p).getD j 0) else none | none=>none)=_
 by_cases e:y=x
 ·subst e;rw [hk,if_pos rfl];simp [List.getD_eq_getElem?_getD,k1,k2]
 ·rw [if_neg e]
  cases hy:S.cs.lookup y with
  |none=>rfl
  |some j=>
   have hne:k≠j:=fun h=>e (nK I (by rw [h];exact hy) hk)
   simp only [List.getD_eq_getElem?_getD,List.getElem?_set_ne hne]
theorem push_inv {S:NS} (I:Fz S) {x:Nat} (p:Nat) (hk:S.cs.lookup x=none):Fz (P5 S x p):=by
 rw [JF] at hk;refine ⟨?_,?_,?_,?_,?_,?_⟩
 ·show ((S.cs++[(x,S.al.length)]).map (·.1)).Nodup
  rw [List.map_append,List.nodup_append];refine ⟨I.ids,by simp,?_⟩
  intro a ha b hb;simp at hb;obtain ⟨y,hy,rfl⟩:=List.mem_map.1 ha;rw [hb];exact hk y hy
 ·show ((S.cs++[(x,S.al.length)]).map (·.2)).Nodup
  rw [List.map_append,List.nodup_append];refine ⟨I.nums,by simp,?_⟩
  intro a ha b hb;simp at hb;obtain ⟨y,hy,rfl⟩:=List.mem_map.1 ha;have:=I.lt y hy;omega
 ·intro y hy;show y.2<(S.al++[true]).length
  rw [AY];rcases List.mem_append.1 (show y∈S.cs++[(x,S.al.length)] from hy) with h | h
  ·have:=I.lt y h;omega
  ·simp at h;subst h;simp
 ·show (S.pl++[p]).length=(S.al++[true]).length
  rw [AY,AY,I.pll];rfl
 ·show S.n+1=(S.al++[true]).count true
  rw [List.count_append,I.cnt];rfl
 ·intro j hj;have hj':(S.al++[true])[j]? = some true:=hj;rw [List.getElem?_append] at hj';split at hj'
  ·obtain ⟨y,hy,e⟩:=I.all j hj';exact ⟨y,List.mem_append.2 (.inl hy),e⟩
  ·rename_i hge
   have hl:=(AV hj').1;simp at hl;exact ⟨(x,S.al.length),List.mem_append.2 (.inr (by simp)),by show S.al.length=j;omega⟩
theorem jQ {S:NS} (I:Fz S) {x:Nat} (p:Nat) (hk:S.cs.lookup x=none) (y:Nat):place (P5 S x p) y=if y=x then some p else place S y:=by
 have I2:=push_inv I p hk;unfold place;show (match (S.cs++[(x,S.al.length)]).lookup y with | some j=>if (S.al++[true]).getD j false then some ((S.pl++[p]).getD j 0) else none | none=>none)=_
 by_cases e:y=x
 ·subst e;have h:(S.cs++[(y,S.al.length)]).lookup y=some S.al.length:=(Fp I2.ids y S.al.length).2 (List.mem_append.2 (.inr (by simp)));rw [h,if_pos rfl];have hp:=I.pll;simp [List.getD_eq_getElem?_getD,←hp]
 ·rw [if_neg e]
  cases hy:S.cs.lookup y with
  |none=>
   have h:(S.cs++[(x,S.al.length)]).lookup y=none:=by
    rw [JF] at hy ⊢;intro z hz;rcases List.mem_append.1 hz with hz | hz
    ·exact hy z hz
    ·simp at hz;subst hz;exact fun h=>e h.symm
   rw [h]
  |some j=>
   obtain ⟨k1,k2⟩:=PZ I hy
   have h:(S.cs++[(x,S.al.length)]).lookup y=some j:=by
    rw [Fp I.ids] at hy;exact (Fp I2.ids y j).2 (List.mem_append.2 (.inl hy))
   rw [h];simp only [List.getD_eq_getElem?_getD,List.getElem?_append_left k1,List.getElem?_append_left k2]
theorem a1k {S:NS} (I:Fz S) {x:Nat} (p:Nat) (h:place S x=none):Fz (Rf S x p):=by
 unfold Rf
 cases hk:S.cs.lookup x with
 |none=>exact push_inv I p hk
 |some k=>
  refine a1j I p hk ?_
  unfold place at h;rw [hk] at h;simp at h;simpa using h
theorem Y4 {S:NS} (I:Fz S) {x:Nat} (p:Nat) (y:Nat):place (Rf S x p) y=if y=x then some p else place S y:=by
 unfold Rf
 cases hk:S.cs.lookup x with
 |none=>exact jQ I p hk y
 |some k=>exact rH I p hk y
theorem XA {S:NS} (I:Fz S) {k:Nat} (h:S.al.getD k false=true):Fz (TP S k):=by
 have hk:=getD_lt h;refine ⟨I.ids,I.nums,fun y hy=>by show y.2<(S.al.set k false).length;rw [List.length_set];exact I.lt y hy,by show S.pl.length=(S.al.set k false).length;rw [List.length_set,I.pll],?_,?_⟩
 ·show S.n - 1=(S.al.set k false).count true
  have:=OQ h;rw [I.cnt];omega
 ·intro j hj;have hj':(S.al.set k false)[j]? = some true:=hj;rw [List.getElem?_set] at hj';split at hj'
  ·simp at hj'
  ·exact I.all j hj'
theorem XB {S:NS} (I:Fz S) {x k:Nat} (hk:S.cs.lookup x=some k) (y:Nat):place (TP S k) y=if y=x then none else place S y:=by
 obtain ⟨k1,k2⟩:=PZ I hk;unfold place;show (match S.cs.lookup y with | some j=>if (S.al.set k false).getD j false then some (S.pl.getD j 0) else none | none=>none)=_
 by_cases e:y=x
 ·subst e;rw [hk,if_pos rfl];simp [List.getD_eq_getElem?_getD,k1]
 ·rw [if_neg e]
  cases hy:S.cs.lookup y with
  |none=>rfl
  |some j=>
   have hne:k≠j:=fun h=>e (nK I (by rw [h];exact hy) hk)
   simp only [List.getD_eq_getElem?_getD,List.getElem?_set_ne hne]
theorem dY {S:NS} (I:Fz S):Fz (TN S):=by
 have hs:(CZ S.al S.cs).Sublist S.cs:=List.filter_sublist;refine ⟨I.ids.sublist (hs.map _),I.nums.sublist (hs.map _),fun y hy=>I.lt y (hs.subset hy),I.pll,I.cnt,fun k hk=>?_⟩
 have hk':S.al[k]? = some true:=hk;obtain ⟨y,hy,e⟩:=I.all k hk';refine ⟨y,?_,e⟩
 show y∈CZ S.al S.cs
 unfold CZ;rw [List.mem_filter];refine ⟨hy,?_⟩
 rw [e,List.getD_eq_getElem?_getD,hk'];rfl
theorem jR {S:NS} (I:Fz S) (y:Nat):place (TN S) y=place S y:=by
 have I2:=dY I;unfold place;show (match (CZ S.al S.cs).lookup y with | some j=>if S.al.getD j false then some (S.pl.getD j 0) else none | none=>none)=_
 cases hy:S.cs.lookup y with
 |none=>
  have h:(CZ S.al S.cs).lookup y=none:=by
   rw [JF] at hy ⊢;intro z hz;unfold CZ at hz;rw [List.mem_filter] at hz;exact hy z hz.1
  rw [h]
 |some j=>
  have hm:=(Fp I.ids y j).1 hy;by_cases hj:S.al.getD j false=true
  ·have h:(CZ S.al S.cs).lookup y=some j:=(Fp I2.ids y j).2 (by show _∈CZ S.al S.cs;unfold CZ;rw [List.mem_filter];exact ⟨hm,hj⟩);rw [h]
  ·have h:(CZ S.al S.cs).lookup y=none:=by
    rw [JF];intro z hz e;unfold CZ at hz;rw [List.mem_filter] at hz;obtain ⟨z1,z2⟩:=z;dsimp only at e;subst e;have h2:=(Fp I.ids z1 z2).2 hz.1;rw [hy] at h2
    cases h2
    exact hj hz.2
   rw [h];dsimp only;rw [if_neg hj]
theorem P6 {S:NS} (I:Fz S) {x:Nat} (h:(place S x).isSome=true):Fz (Dx S x):=by
 unfold Dx;unfold place at h
 cases hk:S.cs.lookup x with
 |none=>rw [hk] at h;simp at h
 |some k=>
  rw [hk] at h
  have hl:S.al.getD k false=true:=by
   by_cases hh:S.al.getD k false=true
   ·exact hh
   ·dsimp only at h;rw [if_neg hh] at h;simp at h
  dsimp only;split
  ·exact dY (XA I hl)
  ·exact XA I hl
theorem XC {S:NS} (I:Fz S) {x:Nat} (h:(place S x).isSome=true) (y:Nat):place (Dx S x) y=if y=x then none else place S y:=by
 unfold Dx;have h':=h;unfold place at h'
 cases hk:S.cs.lookup x with
 |none=>rw [hk] at h';simp at h'
 |some k=>
  rw [hk] at h'
  have hl:S.al.getD k false=true:=by
   by_cases hh:S.al.getD k false=true
   ·exact hh
   ·dsimp only at h';rw [if_neg hh] at h';simp at h'
  dsimp only;split
  ·rw [jR (XA I hl),XB I hk]
  ·exact XB I hk y
theorem Fz.len {S:NS} (I:Fz S):S.cs.length≤S.al.length:=by
 have h1:(S.cs.map (·.2)).length≤(List.range S.al.length).length:=by
  refine List.Nodup.length_le_of_subset I.nums ?_
  intro k hk;obtain ⟨y,hy,rfl⟩:=List.mem_map.1 hk;exact List.mem_range.2 (I.lt y hy)
 simpa using h1
def Low (t:Nat) (S:NS):Prop:=S.al.length≤t∧S.wk≤100000*t
theorem a1l {S:NS} {t:Nat} (I:Fz S) (h:Low t S) (ht:t<90000) (x p:Nat):Low (t+1) (Rf S x p):=by
 unfold Rf Low at *;have:=I.len
 cases S.cs.lookup x with
 |none=>
  have hg:(EF (setB S.cs) (x,S.al.length)).length≤S.cs.length+1:=by
   rw [(GU S.cs (x,S.al.length)).1,AY,List.length_drop];simp
  show (S.al++[true]).length≤t+1∧S.wk+_≤_
  rw [AY];simp only [List.length_cons,List.length_nil];omega
 |some k=>
  show (S.al.set k true).length≤t+1∧S.wk≤_
  rw [List.length_set];omega
theorem xM {S:NS} {t:Nat} (I:Fz S) (h:Low t S) (ht:t<90000) (x:Nat):Low (t+1) (Dx S x):=by
 unfold Dx Low at *;have:=I.len
 cases S.cs.lookup x with
 |none=>dsimp only;omega
 |some k=>
  dsimp only;split
  ·have hg:=TM (S.al.set k false) S.cs;show (S.al.set k false).length≤t+1∧S.wk+(CZ (S.al.set k false) S.cs).length≤_
   rw [List.length_set];omega
  ·show (S.al.set k false).length≤t+1∧S.wk≤_
   rw [List.length_set];omega
theorem a1m {cs:List (Nat×Nat)} {bk:List (List (Nat×Nat))} (h:Zq (setB cs) bk) {e:Nat×Nat} {l:List (Nat×Nat)} (hl:l.Perm (EF (setB cs) e)) (hs:l.Pairwise fun a b=>a.1≤b.1) :
 Zq (setB (cs++[e])) (List.replicate (Bl (setB cs)) []++l::bk.drop (Bl (setB cs)+1)):=by
 rw [←VU];unfold QZ;have hle:=Eo (setB cs);have hb:=h.1;obtain ⟨t,ht⟩:=AO (Bl (setB cs));rw [ht] at hle ⊢;refine ⟨by simp;omega,fun i a b ha hb'=>?_⟩
 rw [List.getElem?_append] at ha hb';simp only [List.length_replicate] at ha hb';split at ha
 ·rename_i hi
  rw [if_pos hi] at hb';rw [List.getElem?_replicate,if_pos hi] at ha hb'
  cases ha;cases hb'
  exact ⟨List.Perm.refl _,List.Pairwise.nil⟩
 ·rename_i hi
  rw [if_neg hi] at hb';rcases hj:i - t with _ | j
  ·rw [hj] at ha hb';simp at ha hb';subst ha hb';exact ⟨hl,hs⟩
  ·rw [hj] at ha hb';rw [List.getElem?_cons_succ] at ha hb';rw [List.getElem?_drop] at ha hb';exact h.2 _ a b ha hb'
end Go.Proofs.YtkbaaonchdeneaaGreat.Nm
namespace Go.Proofs.YtkbaaonchdeneaaGreat.Nm
open Go.RowKit
attribute [local go_sem ↓] Go.wp_at_zero Go.wp_at_succ
theorem ZJ {Ps:List (List Nat)} (h:Ps.Pairwise Dh) {i:Nat} {G':List Nat} (hG:∀j (hj:j<Ps.length),j≠i→Dh G' Ps[j]):(Ps.set i G').Pairwise Dh:=by
 rw [List.pairwise_iff_getElem] at h ⊢;intro a b ha hb hab;rw [List.length_set] at ha hb;rw [List.getElem_set,List.getElem_set];split
 ·split
  ·omega
  ·exact hG b hb (by omega)
 ·split
  ·exact (hG a ha (by omega)).symm
  ·exact h a b ha hb hab
theorem QH {w:World} {b1 b2:Nat} {e1 e2:TypeId} {s1 s2:Nat} {v1 v2:Value} {n1 n2:Nat} {x1 x2:List Value} (h1:w.ownsRow b1 e1 s1 v1 n1 x1) (h2:w.ownsRow b2 e2 s2 v2 n2 x2) (hne:e1≠e2):Dh (blk v1) (blk v2):=by
 intro x hx hc;rcases h1.2 with ⟨rfl,_⟩ | ⟨g1,c1,k1,rfl,_,g,_⟩
 ·simp [blk] at hx
 ·rcases h2.2 with ⟨rfl,_⟩ | ⟨g2,c2,k2,rfl,_,g',_⟩
  ·simp [blk] at hc
  ·simp [blk] at hx hc;subst hx;rw [hc] at g;rw [g] at g';injection g' with g';injection g' with g1 g2;exact hne g2
theorem TJ {w wb w4:World} {e n m A C:_} {xs news:List Value} {v:Value} (hb:Bf [] w wb) (HP:DY wb w4 0 e 1 v n xs m news A C) :
 Bf (blk v) w w4∧w4.ownsRow 0 e 1 (.slice A (n+m) C) (n+m) (xs++news)∧∀x∈blk (.slice A (n+m) C),x∈blk v∨w.heap.size≤x:=by
 refine ⟨(hb.mono (by simp)).trans HP.upd,HP.own,fun x hx=>?_⟩
 rcases HP.at with h | h
 ·rw [h] at hx;exact .inl hx
 ·rw [h] at hx;simp at hx;rw [hx];exact .inr hb.size
theorem U2:(Tryz.prog.info? 4).map (fun i=>(i.zero,i.size,i.bytes))=some (some (.bool false),1,1):=by kernel_rfl
theorem Xx:(Tryz.prog.info? 3).map (fun i=>(i.zero,i.size,i.bytes))=some (some (.int .i64 0),1,8):=by kernel_rfl
variable {w w':World} {q cb:Nat} {vb vp va:Value} {vs:List Value} {bk:List (List (Nat×Nat))} {Fc:List Nat} {S:NS}
theorem EN.two (H:EN w q cb vb vp va vs bk Fc S) {vp' va':Value} {al:List Bool} {pl:List Nat} (hu:Bf (q::(blk va++blk vp)) w w') (hh:Ic w' q #[.pointer (some ⟨cb,0,none⟩),vb,vp',va',.int .i64 (S.n:Int)] 175)
 (ha:boolRow w' va' al) (hl:MV w' vp' pl) (hba:∀x∈blk va',x∈blk va∨w.heap.size≤x) (hbl:∀x∈blk vp',x∈blk vp∨w.heap.size≤x) :
 EN w' q cb vb vp' va' vs bk Fc { S with al:=al,pl:=pl }:=by
 have d:∀(j:Nat) (Q:List Nat),j≠0→j≠3→j≠4→(parts q Fc vb vs vp va)[j]? = some Q→Dh Q (q::(blk va++blk vp)):=by
  intro j Q h0 h3 h4 hj x hx hc;rcases List.mem_cons.1 hc with rfl | hc
  ·exact H.Gu hj (j:=0) rfl h0 x hx (by simp)
  ·rcases List.mem_append.1 hc with hc | hc
   ·exact H.Gu hj (j:=4) rfl h4 x hx hc
   ·exact H.Gu hj (j:=3) rfl h3 x hx hc
 refine ⟨hh,H.TI.upd hu (d 1 _ (by omega) (by omega) (by omega) rfl),H.rows.upd hu (d 2 _ (by omega) (by omega) (by omega) rfl),hl,ha,?_⟩
 have h1:((parts q Fc vb vs vp va).set 4 (blk va')).Pairwise Dh:=IY H.apart H.lt rfl hba
 have h2:(((parts q Fc vb vs vp va).set 4 (blk va')).set 3 (blk vp')).Pairwise Dh:=by
  refine ZJ h1 fun j hj hne x hx hc=>?_
  rw [List.getElem_set] at hc;split at hc
  ·exact QH hl ha (by decide) x hx hc
  ·rw [List.length_set] at hj;rcases hbl x hx with g | g
   ·exact H.Gu (i:=3) (j:=j) rfl (AX hj) (Ne.symm hne) x g hc
   ·have:=H.lt _ (List.getElem_mem hj) x hc;omega
 simpa [parts] using h2
theorem EN.pushed {w4 w5 wf:World} (H:EN w q cb vb vp va vs bk Fc S) {A4 A5:Option Addr} {C4 C5 t:Nat}
 (Gt:Bf (blk va) w w4) (ho4:w4.ownsRow 0 4 1 (.slice A4 (S.al.length+1) C4) (S.al.length+1) (S.al.map .bool++[.bool true])) (hb4:∀x∈blk (.slice A4 (S.al.length+1) C4),x∈blk va∨w.heap.size≤x)
 (GR:Bf (blk vp) w4 w5) (ho5:w5.ownsRow 0 3 1 (.slice A5 (S.pl.length+1) C5) (S.pl.length+1) ((S.pl.map fun (n:Nat)=>.int .i64 (n:Int))++[.int .i64 (t:Int)])) (hb5:∀x∈blk (.slice A5 (S.pl.length+1) C5),x∈blk vp∨w4.heap.size≤x)
 (hwf:wf=(w5.setCell ⟨q,3,none⟩ (.slice A4 (S.al.length+1) C4)).setCell ⟨q,2,none⟩ (.slice A5 (S.pl.length+1) C5)∨wf=(w5.setCell ⟨q,2,none⟩ (.slice A5 (S.pl.length+1) C5)).setCell ⟨q,3,none⟩ (.slice A4 (S.al.length+1) C4)) :
 DT w wf q cb (parts q Fc vb vs vp va).flatten bk { S with al:=S.al++[true],pl:=S.pl++[t] }:=by
 have hha:q∉blk va:=fun hc=>H.Gu (i:=0) (j:=4) rfl rfl (by omega) q (by simp) hc
 have hhl:q∉blk vp:=fun hc=>H.Gu (i:=0) (j:=3) rfl rfl (by omega) q (by simp) hc
 have hlt:=H.head.lt;have hh5:=(H.head.upd Gt hha).upd GR hhl;have a4x:Bf (q::(blk va++blk vp)) w w5:=(Gt.mono (by intro x hx;left;simp [hx])).trans (GR.mono (by intro x hx;left;simp [hx]));have hl4:=BK H.PW
 have n4:∀x∈blk (.slice A4 (S.al.length+1) C4),x≠q:=by
  intro x hx e;subst e;rcases hb4 x hx with g | g
  ·exact hha g
  ·omega
 have n5:∀x∈blk (.slice A5 (S.pl.length+1) C5),x≠q:=by
  intro x hx e;subst e;rcases hb5 x hx with g | g
  ·exact hhl g
  ·have:=Gt.size;omega
 have d45:∀x∈blk (.slice A4 (S.al.length+1) C4),x∉blk vp:=by
  intro x hx hc;rcases hb4 x hx with g | g
  ·exact H.Gu (i:=4) (j:=3) rfl rfl (by omega) x g hc
  ·have:=hl4 x hc;omega
 have a4y:=Bg ho4 GR d45
 have huf:Bf [q] w5 wf:=by
  rcases hwf with rfl | rfl
  ·exact ((Bf.refl _ _).setCell (p:=⟨q,3,none⟩) (.inl (by simp)) _).setCell (p:=⟨q,2,none⟩) (.inl (by simp)) _
  ·exact ((Bf.refl _ _).setCell (p:=⟨q,2,none⟩) (.inl (by simp)) _).setCell (p:=⟨q,3,none⟩) (.inl (by simp)) _
 have hhf:Ic wf q #[.pointer (some ⟨cb,0,none⟩),vb,.slice A5 (S.pl.length+1) C5,.slice A4 (S.al.length+1) C4,.int .i64 (S.n:Int)] 175:=by
  rcases hwf with rfl | rfl
  ·have g:=(hh5.set 3 (.slice A4 (S.al.length+1) C4)).set 2 (.slice A5 (S.pl.length+1) C5);simpa using g
  ·have g:=(hh5.set 2 (.slice A5 (S.pl.length+1) C5)).set 3 (.slice A4 (S.al.length+1) C4);simpa using g
 have hu:Bf (q::(blk va++blk vp)) w wf:=a4x.trans (huf.mono (by intro x hx;left;simp at hx;simp [hx]));have xg:∀x∈blk (.slice A5 (S.pl.length+1) C5),x∈blk vp∨w.heap.size≤x:=fun x hx=>(hb5 x hx).imp id fun g=>Bd Gt.size g
 have hr:=H.two (al:=S.al++[true]) (pl:=S.pl++[t]) hu hhf
  (by have:=Bg a4y huf (fun x hx=>by simpa using n4 x hx);unfold boolRow;simpa using this)
  (by have:=Bg ho5 huf (fun x hx=>by simpa using n5 x hx);unfold MV;simpa using this) hb4 xg
 refine ⟨_,_,_,_,_,hr,hu.mono fun x hx=>.inl ?_,fun x hx=>?_⟩
 ·rcases List.mem_cons.1 hx with rfl | hx
  ·exact Bq (i:=0) (P:=[x]) rfl (by simp)
  ·rcases List.mem_append.1 hx with hx | hx
   ·exact Bq (i:=4) rfl hx
   ·exact Bq (i:=3) rfl hx
 ·obtain ⟨P,hP,Y0⟩:=List.mem_flatten.1 hx;simp only [parts,List.mem_cons,List.not_mem_nil,or_false] at hP;rcases hP with rfl | rfl | rfl | rfl | rfl
  ·exact .inl (Bq (i:=0) (P:=[q]) rfl Y0)
  ·exact .inl (Bq (i:=1) rfl Y0)
  ·exact .inl (Bq (i:=2) rfl Y0)
  ·exact (xg x Y0).imp (Bq (i:=3) rfl) id
  ·exact (hb4 x Y0).imp (Bq (i:=4) rfl) id
theorem DT.next {w'':World} {F F1:List Nat} (hu:Bf F w w') (hF:∀x∈F1,x∈F∨w.heap.size≤x) (K:DT w' w'' q cb F1 bk S):DT w w'' q cb F bk S:=by
 obtain ⟨vb,vp,va,vs,Fc,h,h1,h2⟩:=K;refine ⟨vb,vp,va,vs,Fc,h,hu.trans' h1 hF,fun x hx=>?_⟩
 rcases h2 x hx with g | g
 ·exact hF x g
 ·exact .inr (Bd hu.size g)
theorem xO (tv:Value) (F:List Nat) (S:NS) (x p k:Nat) (w:World) (H:Hz w tv F S) (I:Fz S) (hl:S.cs.length<90000) (hn:S.n<100000) (hk:S.cs.lookup x=some k) :
 Calls Tryz.prog 72 #[tv,.int .u32 (x:Int),.int .i64 (p:Int)] w fun e w'=>
  (S.al.getD k false=true∧e=.returned (.int .i64 2)∧Bf [] w w')∨(S.al.getD k false=false∧e=.returned (.int .i64 0)∧EK w w' tv F (jP S k p)):=by
 have HN:=AQ (dV tv F w H);have hfc:=dX tv F S x w H I hl;unfold PX at hfc;rw [hk] at hfc;have HF:=AQ hfc;have HH:=AQ H;have HI:=AQ I;obtain ⟨q,cb,vb,vp,va,vs,bk,Fc,rfl,-⟩:=H;obtain ⟨hk1,hk2⟩:=PZ I hk;have hd:bP (some k)=(k:Int):=rfl;rw [hd] at HF;clear I hk hfc hd;go_enter Tryz.func72,Tryz.ntmps72
 go_wp2_with fail
 (with_reducible refine HN.out.mono ?_);rintro e w' ⟨rfl,rfl⟩;go_wp2_with fail
 (with_reducible refine HF.out.mono ?_);rintro e w1 ⟨t,rfl,ht,hu⟩;have HU:=AQ hu;obtain ⟨q,cb,vb,vp,va,vs,bk,Fc,he,H1,hb,hF⟩:=HH.out.upd hu (by simp)
 cases he
 obtain ⟨-,-,h2,h3,h4,hfr⟩:=H1.cell;obtain ⟨ga,Ca,rfl,a1,a2,-⟩:=TK H1.GK hk1;obtain ⟨gp,Cp,rfl,p1,p2,-⟩:=PY H1.PW hk2;have hf4:=hfr 4;have k0:(0:Int)≤(k:Int):=AU _;have k1:(k:Int)<(S.al.length:Int):=by omega
 have k2:(k:Int)<(S.pl.length:Int):=by omega
 have Yo:=Aj H1 hb hF;by_cases hal:S.al.getD k false=true
 ·rw [hal] at a1;clear H1 hb hF hu hfr hk1 hk2 p1 p2 a2 hf4 h4 Yo;have TF:=AQ hal;clear hal;dsimp only;go_wp2_with fail
  go_ret
  exact .inl ⟨TF.out,rfl,HU.out⟩
 ·have hal2:S.al.getD k false=false:=by simpa using hal
  rw [hal2] at a1;have TF:=AQ hal2;clear hal hal2;have n0:(0:Int)≤(S.n:Int):=AU _;have n1:(S.n:Int)<100000:=by omega
  have hqa:q≠ga:=fun e=>H1.Gu (i:=0) (j:=4) rfl rfl (by omega) q (by simp) (by simp [blk,e])
  have hqp:q≠gp:=fun e=>H1.Gu (i:=0) (j:=3) rfl rfl (by omega) q (by simp) (by simp [blk,e])
  have hap:ga≠gp:=fun e=>H1.Gu (i:=4) (j:=3) rfl rfl (by omega) ga (by simp [blk]) (by simp [blk,e])
  have hcn:=H1.count (S.n+1);have he:Value.int .i64 ((S.n+1:Nat):Int)=Value.int .i64 ((S.n:Int)+1):=by congr 1
  rw [he] at hcn;have hm1:=hcn.mark rfl k true;have hm2:=hm1.lay rfl k p
  have hus:Bf (parts q Fc vb vs (.slice (some ⟨gp,0,none⟩) S.pl.length Cp) (.slice (some ⟨ga,0,none⟩) S.al.length Ca)).flatten w1 (((w1.setCell ⟨q,4,none⟩ (.int .i64 ((S.n:Int)+1))).setCell ⟨ga,k,none⟩ (.bool true)).setCell ⟨gp,k,none⟩ (.int .i64 (p:Int))):=
   (((Bf.refl _ _).setCell (p:=⟨q,4,none⟩) (.inl (Bq (i:=0) (P:=[q]) rfl (by simp))) _).setCell (p:=⟨ga,k,none⟩) (.inl (Bq (i:=4) (P:=[ga]) rfl (by simp))) _).setCell (p:=⟨gp,k,none⟩) (.inl (Bq (i:=3) (P:=[gp]) rfl (by simp))) _
  have hfin:EK w1 (((w1.setCell ⟨q,4,none⟩ (.int .i64 ((S.n:Int)+1))).setCell ⟨ga,k,none⟩ (.bool true)).setCell ⟨gp,k,none⟩ (.int .i64 (p:Int))).drew (.pointer (some ⟨q,0,none⟩)) (parts q Fc vb vs (.slice (some ⟨gp,0,none⟩) S.pl.length Cp) (.slice (some ⟨ga,0,none⟩) S.al.length Ca)).flatten (jP S k p):=by
   refine (DT.is (bk:=bk) ⟨_,_,_,_,_,hm2,hus,fun x hx=>.inl hx⟩ (by exact hb)).quiet ((Bf.refl _ _).drew)
  have hm3:=(hcn.lay rfl k p).mark rfl k true
  have rG:Bf (parts q Fc vb vs (.slice (some ⟨gp,0,none⟩) S.pl.length Cp) (.slice (some ⟨ga,0,none⟩) S.al.length Ca)).flatten w1 (((w1.setCell ⟨q,4,none⟩ (.int .i64 ((S.n:Int)+1))).setCell ⟨gp,k,none⟩ (.int .i64 (p:Int))).setCell ⟨ga,k,none⟩ (.bool true)):=
   (((Bf.refl _ _).setCell (p:=⟨q,4,none⟩) (.inl (Bq (i:=0) (P:=[q]) rfl (by simp))) _).setCell (p:=⟨gp,k,none⟩) (.inl (Bq (i:=3) (P:=[gp]) rfl (by simp))) _).setCell (p:=⟨ga,k,none⟩) (.inl (Bq (i:=4) (P:=[ga]) rfl (by simp))) _
  have dZ:EK w1 (((w1.setCell ⟨q,4,none⟩ (.int .i64 ((S.n:Int)+1))).setCell ⟨gp,k,none⟩ (.int .i64 (p:Int))).setCell ⟨ga,k,none⟩ (.bool true)).drew (.pointer (some ⟨q,0,none⟩)) (parts q Fc vb vs (.slice (some ⟨gp,0,none⟩) S.pl.length Cp) (.slice (some ⟨ga,0,none⟩) S.al.length Ca)).flatten (jP S k p):=by
   refine (DT.is (bk:=bk) ⟨_,_,_,_,_,hm3,rG,fun x hx=>.inl hx⟩ (by exact hb)).quiet ((Bf.refl _ _).drew)
  have Gv:=Aj hfin dZ hF;clear hm1 hm2 hm3 hus rG hfin dZ hcn hb hF H1 hu hfr hk1 hk2;dsimp only;go_upto_region 7 with fail
  have e2:(w1.setCell ⟨q,4,none⟩ (.int .i64 ((S.n:Int)+1))).cell? ⟨q,2,none⟩=some (.slice (some ⟨gp,0,none⟩) S.pl.length Cp):=by rw [World.cell?_setCell_other _ _ _ _ (by simp)];exact h2
  have e3:(w1.setCell ⟨q,4,none⟩ (.int .i64 ((S.n:Int)+1))).cell? ⟨q,3,none⟩=some (.slice (some ⟨ga,0,none⟩) S.al.length Ca):=by rw [World.cell?_setCell_other _ _ _ _ (by simp)];exact h3
  have e4:(w1.setCell ⟨q,4,none⟩ (.int .i64 ((S.n:Int)+1))).cell? ⟨ga,k,none⟩=some (.bool false):=by rw [World.cell?_setCell_other _ _ _ _ (by simp)];exact a1
  have e5:(w1.setCell ⟨q,4,none⟩ (.int .i64 ((S.n:Int)+1))).cell? ⟨gp,k,none⟩=some (.int .i64 ((S.pl.getD k 0:Nat):Int)):=by rw [World.cell?_setCell_other _ _ _ _ (by simp)];exact p1
  have e6:(w1.setCell ⟨q,4,none⟩ (.int .i64 ((S.n:Int)+1))).frozen? ⟨ga,k,none⟩=false:=by rw [World.frozen?_setCell];exact a2
  have e7:(w1.setCell ⟨q,4,none⟩ (.int .i64 ((S.n:Int)+1))).frozen? ⟨gp,k,none⟩=false:=by rw [World.frozen?_setCell];exact p2
  generalize (w1.setCell ⟨q,4,none⟩ (.int .i64 ((S.n:Int)+1)))=w2 at Gv e2 e3 e4 e5 e6 e7 ⊢;clear h2 h3 h4 a1 a2 p1 p2 hf4 hqa hqp;go_upto_region 8 with fail
  go_region
  all_goals
   go_wp2_with fail
   go_ret
   refine .inr ⟨TF.out,rfl,?_⟩
   obtain ⟨h9,h8,hF⟩:=Gv.out;rw [←hF] at h9 h8
   first
    |exact h9.ahead HU.out
    |exact h8.ahead HU.out
