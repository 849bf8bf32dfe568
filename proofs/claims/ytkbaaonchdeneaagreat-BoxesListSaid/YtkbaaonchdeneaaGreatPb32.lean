/- Things with names that come and go, plainly: a Half of them, the directory of their names, all -/
import Derived.Test.YtkbaaonchdeneaaGreatPb31
set_option maxHeartbeats 8000000
set_option maxRecDepth 100000
namespace Go.Proofs.YtkbaaonchdeneaaGreat.Ps
open Go.Proofs.YtkbaaonchdeneaaGreat.Nm (NS Fz Low place Rf N0)
structure PS (α:Type) where
 H:HS α
 N:NS
 all:List α
 t:Nat
section
variable {α:Type} [DecidableEq α]
def Cj (S:PS α):List α:=live S.H.al S.H.cs
def get (S:PS α) (x:Nat):Option α:=(place S.N x).bind fun i=>S.all[i]?
structure Dl (nm:α→Nat) (S:PS α):Prop where
 half:FK S.H
 dir:Fz S.N
 low:Low S.t S.N
 al:S.H.al.length≤S.t
 wk:S.H.wk≤100000*S.t
 jS:S.all.length≤S.t
 tos:∀x i,place S.N x=some i→∃s∈Cj S,S.all[i]? = some s∧nm s=x
 ofs:∀s∈Cj S,∃i,place S.N (nm s)=some i∧S.all[i]? = some s
 names:((Cj S).map nm).Nodup
omit [DecidableEq α] in
theorem FK.len {S:HS α} (I:FK S):S.cs.length≤S.al.length:=by
 have h2:(S.cs.map (·.2)).Nodup:=I.nums.imp (fun h=>Nat.ne_of_lt h)
 have h1:(S.cs.map (·.2)).length≤(List.range S.al.length).length:=by
  refine List.Nodup.length_le_of_subset h2 ?_
  intro k hk;obtain ⟨y,hy,rfl⟩:=List.mem_map.1 hk;exact List.mem_range.2 (I.lt y hy)
 simpa using h1
omit [DecidableEq α] in
theorem P7 {nm:α→Nat} {l:List α} (h:(l.map nm).Nodup) {a b:α} (ha:a∈l) (hb:b∈l) (e:nm a=nm b):a=b:=by
 induction l with
 |nil=>cases ha
 |cons c l ih=>
  rw [List.map_cons,List.nodup_cons] at h;rcases List.mem_cons.1 ha with e1 | ha
  ·rcases List.mem_cons.1 hb with e2 | hb
   ·rw [e1,e2]
   ·exact (h.1 (List.mem_map.2 ⟨b,hb,by rw [←e,e1]⟩)).elim
  ·rcases List.mem_cons.1 hb with e2 | hb
   ·exact (h.1 (List.mem_map.2 ⟨a,ha,by rw [e,e2]⟩)).elim
   ·exact ih h.2 ha hb
omit [DecidableEq α] in
theorem Dl.get {nm:α→Nat} {S:PS α} (I:Dl nm S) (x:Nat) (s:α):get S x=some s↔s∈Cj S∧nm s=x:=by
 unfold Ps.get;constructor
 ·intro h;rw [Option.bind_eq_some_iff] at h;obtain ⟨i,h1,h2⟩:=h;obtain ⟨t,ht,h3,h4⟩:=I.tos x i h1;rw [h2] at h3
  cases h3
  exact ⟨ht,h4⟩
 ·rintro ⟨h1,rfl⟩;obtain ⟨i,h2,h3⟩:=I.ofs s h1;rw [h2];exact h3
omit [DecidableEq α] in
theorem Dl.none {nm:α→Nat} {S:PS α} (I:Dl nm S) (x:Nat):place S.N x=none↔∀s∈Cj S,nm s≠x:=by
 constructor
 ·intro h s hs e;obtain ⟨i,h2,-⟩:=I.ofs s hs;rw [e,h] at h2
  cases h2
 ·intro h
  cases hp:place S.N x with
  |none=>rfl
  |some i=>
   obtain ⟨t,ht,-,h4⟩:=I.tos x i hp;exact (h t ht h4).elim
theorem QJ {S:HS α} (I:FK S) (s:α):S.mp.lookup s=none↔s∉live S.al S.cs:=by
 have h:=I.core.there s;rw [←JD]
 have e:s∈Di (view S)↔(s,true)∈view S:=by
  unfold Di;rw [List.mem_map];constructor
  ·rintro ⟨⟨a,b⟩,hab,rfl⟩;rw [List.mem_filter] at hab;obtain ⟨h1,h2⟩:=hab;dsimp only at h2;subst h2;exact h1
  ·intro h;exact ⟨(s,true),List.mem_filter.2 ⟨h,rfl⟩,rfl⟩
 rw [e];constructor
 ·intro hn hm;rw [hn] at h;simp [hm] at h
 ·intro hm
  cases hl:S.mp.lookup s with
  |none=>rfl
  |some v=>
   rw [hl] at h;simp [hm] at h
theorem V7 {S:HS α} (I:FK S) {s:α} (h:s∈live S.al S.cs):∃k:Nat,S.mp.lookup s=some (k:Int):=by
 cases hl:S.mp.lookup s with
 |none=>exact ((QJ I s).1 hl h).elim
 |some v=>
  obtain ⟨n,rfl,-⟩:=I.core.num hl;exact ⟨n,rfl⟩
def P0:PS α:={ H:={ cs:=[],al:=[],lv:=[],tr:=[],mp:=[],wk:=0 },N:=N0,all:=[],t:=0 }
def U5 (nm:α→Nat) (S:PS α) (s:α):PS α:={ H:=Yq S.H s,N:=Rf S.N (nm s) S.all.length,all:=S.all++[s],t:=S.t+1 }
theorem J8 {nm:α→Nat} {S:PS α} (I:Dl nm S) (s:α):Cj (U5 nm S s)=Cj S++[s]:=YJ I.half s
theorem ZU {nm:α→Nat} {S:PS α} (I:Dl nm S) (s:α) (hp:place S.N (nm s)=none) (ht:S.t<90000):Dl nm (U5 nm S s):=by
 have hn:=(I.none (nm s)).1 hp;have hm:S.H.mp.lookup s=none:=(QJ I.half s).2 fun h=>hn s h rfl
 have hlen:=FK.len I.half;have hal:=I.al;have hal2:=I.jS
 have hg:2 ^ Bl (setB S.H.cs)≤S.H.cs.length+1:=by
  rw [←(GU S.H.cs (s,S.H.al.length)).2];rw [(GU S.H.cs (s,S.H.al.length)).1,AY,List.length_drop];simp
 refine ⟨I.half.add s hm (by omega),Nm.a1k I.dir _ hp,Nm.a1l I.dir I.low ht _ _,?_,?_,?_,?_,?_,?_⟩
 ·show (S.H.al++[true]).length≤S.t+1
  rw [AY];simp;omega
 ·show S.H.wk+2 ^ Bl (setB S.H.cs)≤100000*(S.t+1)
  have:=I.wk;omega
 ·show (S.all++[s]).length≤S.t+1
  rw [AY];simp;omega
 ·intro x i h;have h':place (Rf S.N (nm s) S.all.length) x=some i:=h;rw [Nm.Y4 I.dir] at h';rw [J8 I];show ∃s'∈Cj S++[s],(S.all++[s])[i]? = some s'∧nm s'=x
  split at h'
  ·rename_i e
   cases h'
   exact ⟨s,by simp,by simp,e.symm⟩
  ·obtain ⟨t,h1,h2,h3⟩:=I.tos x i h';exact ⟨t,by simp [h1],by rw [List.getElem?_append_left (AV h2).1];exact h2,h3⟩
 ·intro u hu;rw [J8 I] at hu;show ∃i,place (Rf S.N (nm s) S.all.length) (nm u)=some i∧(S.all++[s])[i]? = some u
  rw [Nm.Y4 I.dir];rcases List.mem_append.1 hu with h | h
  ·rw [if_neg (hn u h)];obtain ⟨i,h1,h2⟩:=I.ofs u h;exact ⟨i,h1,by rw [List.getElem?_append_left (AV h2).1];exact h2⟩
  ·simp at h;subst h;rw [if_pos rfl];exact ⟨_,rfl,by simp⟩
 ·rw [J8 I,List.map_append,List.nodup_append];refine ⟨I.names,by simp,?_⟩
  intro a ha b hb;obtain ⟨u,hu,rfl⟩:=List.mem_map.1 ha;simp at hb;rw [hb];exact hn u hu
def KX (S:PS α) (x:Nat) (s:α) (k:Nat):PS α:={ H:=Dx S.H s k,N:=Nm.Dx S.N x,all:=S.all,t:=S.t+1 }
theorem OC (V:List (α×Bool)) (s:α):Di (DN V s)=(Di V).filter fun y=>y != s:=by
 unfold Di DN;induction V with
 |nil=>rfl
 |cons p V ih=>
  rcases p with ⟨a,b⟩;simp only [List.map_cons] at ih ⊢;by_cases e:a=s
  ·subst e;rw [if_pos rfl,List.filter_cons,if_neg (by simp),ih]
   cases b
   ·rw [List.filter_cons,if_neg (by simp)]
   ·rw [List.filter_cons,if_pos rfl,List.map_cons,List.filter_cons,if_neg (by simp)]
  ·rw [if_neg e]
   cases b
   ·rw [List.filter_cons,if_neg (by simp),List.filter_cons,if_neg (by simp),ih]
   ·rw [List.filter_cons,if_pos rfl,List.map_cons,List.filter_cons,if_pos rfl,List.map_cons,List.filter_cons,if_pos (by simpa using e),ih]
theorem TQ (V:List (α×Bool)) (s:α):Di (KH V s)=(Di V).filter fun y=>y != s:=by
 unfold KH;split
 ·rw [←OC];generalize Di (DN V s)=L;unfold Di;induction L with
  |nil=>rfl
  |cons a L ih=>
   rw [List.map_cons,List.filter_cons,if_pos rfl,List.map_cons,ih]
 ·exact OC V s
theorem rJ {S:HS α} (I:FK S) {s:α} {k:Nat} (hk:S.mp.lookup s=some (k:Int)):live (Dx S s k).al (Dx S s k).cs=(live S.al S.cs).filter fun y=>y != s:=by
 rw [←JD,YI I hk,TQ,JD]
theorem TR {nm:α→Nat} {S:PS α} (I:Dl nm S) {x k:Nat} {s:α} (hs:get S x=some s) (hk:S.H.mp.lookup s=some (k:Int)):Cj (KX S x s k)=(Cj S).filter fun y=>nm y != x:=by
 show live (Dx S.H s k).al (Dx S.H s k).cs=_
 rw [rJ I.half hk];obtain ⟨h1,h2⟩:=(I.get x s).1 hs;refine List.filter_congr fun y hy=>?_
 have hy':y∈Cj S:=hy;by_cases e:y=s
 ·subst e;simp [h2]
 ·have:nm y≠x:=fun h=>e (P7 I.names hy' h1 (h.trans h2.symm))
  have g1:(y != s)=true:=by simpa using e
  have g2:(nm y != x)=true:=by simpa using this
  rw [g1,g2]
theorem a1n {S:HS α} (s:α) (k:Nat):(Dx S s k).al.length=S.al.length:=by
 unfold Dx;split
 ·unfold Pn;rw [(GV _ _).2.1];show (S.al.set k false).length=_
  rw [List.length_set]
 ·show (S.al.set k false).length=_
  rw [List.length_set]
theorem a1o {S:HS α} (s:α) (k:Nat):(Dx S s k).wk≤S.wk+S.cs.length:=by
 unfold Dx;split
 ·unfold Pn;rw [(GV _ _).2.2.2.1];show S.wk+(CZ (S.al.set k false) S.cs).length≤_
  have:(CZ (S.al.set k false) S.cs).length≤S.cs.length:=List.length_filter_le _ _;omega
 ·show S.wk≤_
  omega
theorem P6 {nm:α→Nat} {S:PS α} (I:Dl nm S) {x k:Nat} {s:α} (hs:get S x=some s) (hk:S.H.mp.lookup s=some (k:Int)) (ht:S.t<90000):Dl nm (KX S x s k):=by
 have hlen:=FK.len I.half;have hal:=I.al;have hal2:=I.jS;obtain ⟨h1,h2⟩:=(I.get x s).1 hs
 have hpx:(place S.N x).isSome=true:=by
  obtain ⟨i,hi,-⟩:=I.ofs s h1;rw [h2] at hi;rw [hi];rfl
 have hl:=TR I hs hk;refine ⟨I.half.drop hk (by omega),Nm.P6 I.dir hpx,Nm.xM I.dir I.low ht _,?_,?_,?_,?_,?_,?_⟩
 ·show (Dx S.H s k).al.length≤S.t+1
  rw [a1n];omega
 ·show (Dx S.H s k).wk≤100000*(S.t+1)
  have h3:=a1o (S:=S.H) s k;have h4:=I.wk;omega
 ·show S.all.length≤S.t+1
  omega
 ·intro y i h;have h':place (Nm.Dx S.N x) y=some i:=h;rw [Nm.XC I.dir hpx] at h';split at h'
  ·cases h'
  ·rename_i e
   obtain ⟨u,g1,g2,g3⟩:=I.tos y i h';refine ⟨u,?_,g2,g3⟩
   rw [hl,List.mem_filter];refine ⟨g1,?_⟩
   rw [g3];simp [e]
 ·intro u hu;rw [hl,List.mem_filter] at hu;obtain ⟨i,g1,g2⟩:=I.ofs u hu.1;refine ⟨i,?_,g2⟩
  show place (Nm.Dx S.N x) (nm u)=some i
  rw [Nm.XC I.dir hpx,if_neg (by simpa using hu.2)];exact g1
 ·rw [hl];exact I.names.sublist (List.filter_sublist.map _)
theorem nM {nm:α→Nat} {S:PS α} (I:Dl nm S):S.H.mp.length=(Cj S).length:=by
 rw [I.half.core.Oi,JD];rfl
omit [DecidableEq α] in
theorem inv0 {nm:α→Nat} (h:FK (P0:PS α).H):Dl nm (P0:PS α) where
 half:=h
 dir:=Fz.zero
 low:=⟨Nat.le_refl _,Nat.le_refl _⟩
 al:=Nat.le_refl _
 wk:=Nat.le_refl _
 jS:=Nat.le_refl _
 tos:=by intro x i h;simp [P0,N0,place] at h
 ofs:=by intro s hs;simp [Cj,P0,live,CZ] at hs
 names:=by simp [Cj,P0,live,CZ]
end
end Go.Proofs.YtkbaaonchdeneaaGreat.Ps
namespace Go.Proofs.YtkbaaonchdeneaaGreat.Nm
open Go.RowKit
attribute [local go_sem ↓] Go.wp_at_zero Go.wp_at_succ
variable {w w':World} {q cb:Nat} {vb vp va:Value} {vs:List Value} {bk:List (List (Nat×Nat))} {Fc:List Nat} {S:NS}
theorem EN.wide {w1 w2:World} (H:EN w q cb vb vp va vs bk Fc S) {o:Obj} {A:Option Addr} {C:Nat} (HP:DY (w.alloc o) w1 0 187 1 vb vs.length vs 1 [.slice none 0 0] A C)
 (hw:w2=w1.setCell ⟨q,1,none⟩ (.slice A (vs.length+1) C)) :
 DT w w2 q cb (parts q Fc vb vs vp va).flatten (bk++[[]]) S:=by
 subst hw;obtain ⟨p1,p2⟩:=H.rows.snoc HP;have RZ:q∉Ey vb vs:=fun hc=>H.Gu (i:=0) (j:=2) rfl rfl (by omega) q (by simp) hc
 have hu1:Bf (Ey vb vs) w w1:=(((Bf.refl _ _).alloc _).trans HP.upd).mono (fun x hx=>.inl (CB.2 (.inl hx)));have hh1:=(H.head.upd hu1 RZ).set 1 (.slice A (vs.length+1) C);have hus:Bf [q] w1 (w1.setCell ⟨q,1,none⟩ (.slice A (vs.length+1) C)):=(Bf.refl _ _).setCell (p:=⟨q,1,none⟩) (.inl (by simp)) _
 have hnq:∀x∈Ey (.slice A (vs.length+1) C) (vs++[.slice none 0 0]),x∉[q]:=by
  intro x hx hc;simp at hc;subst hc;rcases p2 x hx with g | g
  ·exact RZ g
  ·have:=H.head.lt;omega
 have a4D:=H.bks (mX:=.slice A (vs.length+1) C) (vs':=vs++[.slice none 0 0]) (bk':=bk++[[]]) (w':=w1.setCell ⟨q,1,none⟩ (.slice A (vs.length+1) C)) ((hu1.mono (by intro x hx;left;simp [hx])).trans (hus.mono (by intro x hx;left;simp at hx;simp [hx])))
  (by simpa using hh1) (p1.upd hus hnq) p2
 refine ⟨_,_,_,_,_,a4D,(hu1.mono (fun x hx=>.inl (Bq (i:=2) rfl hx))).trans (hus.mono (fun x hx=>.inl (Bq (i:=0) (P:=[q]) rfl hx))),fun x hx=>?_⟩
 have e:parts q Fc (.slice A (vs.length+1) C) (vs++[.slice none 0 0]) vp va=(parts q Fc vb vs vp va).set 2 (Ey (.slice A (vs.length+1) C) (vs++[.slice none 0 0])):=rfl;rw [e] at hx;rcases EJ hx with g | g
 ·exact .inl g
 ·rcases p2 x g with g | g
  ·exact .inl (Bq (i:=2) rfl g)
  ·exact .inr g
theorem EN.turn (H:EN w q cb vb vp va vs bk Fc S) {g N C:Nat} (hv:vb=.slice (some ⟨g,0,none⟩) N C) (i:Nat) (u:Value) (l:List (Nat×Nat)) (hrow:Rq.KI.row w 0 u l) (hap:∀k∈blk u,k∉(parts q Fc vb vs vp va).flatten) :
 EN (w.setCell ⟨g,i,none⟩ u) q cb vb vp va (vs.set i u) (bk.set i l) Fc S∧Bf (parts q Fc vb vs vp va).flatten w (w.setCell ⟨g,i,none⟩ u)∧∀x∈(parts q Fc vb (vs.set i u) vp va).flatten,x∈(parts q Fc vb vs vp va).flatten∨x∈blk u:=by
 subst hv;have hgF:g∈(parts q Fc (.slice (some ⟨g,0,none⟩) N C) vs vp va).flatten:=Bq (i:=2) rfl (CB.2 (.inl (by simp [blk])))
 have hN:N=vs.length:=by
  obtain ⟨A',C',he⟩:=Bv H.rows.list
  cases he;rfl
 have hu:Bf [g] w (w.setCell ⟨g,i,none⟩ u):=(Bf.refl _ _).setCell (p:=⟨g,i,none⟩) (.inl (by simp)) _
 have d:∀(j:Nat) (Q:List Nat),j≠2→(parts q Fc (.slice (some ⟨g,0,none⟩) N C) vs vp va)[j]? = some Q→Dh Q [g]:=fun j Q hne hj x hx hc=>by
  simp at hc;subst hc;exact H.Gu hj (j:=2) rfl hne x hx (CB.2 (.inl (by simp [blk])))
 have hr:=H.rows.put hN i u l hrow (fun k hk=>⟨fun e=>hap k hk (by rw [e];exact hgF),fun j t _ ht hc=>hap k hk (Bq (i:=2) rfl (CB.2 (.inr ⟨j,t,ht,hc⟩)))⟩)
 have hrf:∀x∈Ey (.slice (some ⟨g,0,none⟩) N C) (vs.set i u),x∈Ey (.slice (some ⟨g,0,none⟩) N C) vs∨x∈blk u:=by
  intro x hx;rcases CB.1 hx with h | ⟨j,t,ht,hx⟩
  ·exact .inl (CB.2 (.inl h))
  ·rw [List.getElem?_set] at ht;split at ht
   ·split at ht
    ·simp at ht;subst ht;exact .inr hx
    ·cases ht
   ·exact .inl (CB.2 (.inr ⟨j,t,ht,hx⟩))
 refine ⟨⟨H.head.upd hu (d 0 [q] (by omega) rfl q (by simp)),H.TI.upd hu (d 1 _ (by omega) rfl),hr,Bg H.PW hu (d 3 _ (by omega) rfl),Bg H.GK hu (d 4 _ (by omega) rfl),?_⟩,hu.mono (fun x hx=>.inl (by simp at hx;subst hx;exact hgF)),?_⟩
 ·have:=ZJ H.apart (i:=2) (G':=Ey (.slice (some ⟨g,0,none⟩) N C) (vs.set i u)) (fun j hj hne x hx hc=>by
   rcases hrf x hx with g1 | g1
   ·exact H.Gu (i:=2) (j:=j) rfl (AX hj) (Ne.symm hne) x g1 hc
   ·exact hap x g1 (Bq (AX hj) hc))
  exact this
 ·intro x hx;have e:parts q Fc (.slice (some ⟨g,0,none⟩) N C) (vs.set i u) vp va=(parts q Fc (.slice (some ⟨g,0,none⟩) N C) vs vp va).set 2 (Ey (.slice (some ⟨g,0,none⟩) N C) (vs.set i u)):=rfl;rw [e] at hx;rcases EJ hx with h | h
  ·exact .inl h
  ·exact (hrf x h).imp (Bq (i:=2) rfl) id
theorem rM (bk:List (List (Nat×Nat))) (i:Nat) (hi:i<bk.length):(List.replicate i []++bk.drop i).set i []=List.replicate (i+1) []++bk.drop (i+1):=by
 apply List.ext_getElem?
 intro j;rw [List.getElem?_set];simp only [AY,List.length_replicate,List.length_drop];rcases Nat.lt_trichotomy i j with h | h | h
 ·rw [if_neg (by omega),List.getElem?_append_right (by simp;omega),List.getElem?_append_right (by simp;omega)];simp only [List.length_replicate,List.getElem?_drop];congr 1
  omega
 ·subst h;rw [if_pos rfl,if_pos (by omega),List.getElem?_append_left (by simp),List.getElem?_replicate,if_pos (by omega)]
 ·rw [if_neg (by omega),List.getElem?_append_left (by simp;omega),List.getElem?_append_left (by simp;omega),List.getElem?_replicate,List.getElem?_replicate,if_pos (by omega),if_pos (by omega)]
theorem a4E (bk:List (List (Nat×Nat))) (t:Nat) (l:List (Nat×Nat)) (ht:t<bk.length):(List.replicate t []++bk.drop t).set t l=List.replicate t []++l::bk.drop (t+1):=by
 rw [List.set_append_right _ _ (by simp)];simp only [List.length_replicate,Nat.sub_self];rw [List.drop_eq_getElem_cons ht];rfl
end Go.Proofs.YtkbaaonchdeneaaGreat.Nm
namespace Go.Proofs.YtkbaaonchdeneaaGreat.Nm
open Go.RowKit
attribute [local go_sem ↓] Go.wp_at_zero Go.wp_at_succ
def S1 (S:NS) (p:Nat):NS:={ S with al:=S.al++[true],pl:=S.pl++[p],n:=S.n+1 }
theorem a4F (tv:Value) (F:List Nat) (S:NS) (x p:Nat) (w:World) (H:Hz w tv F S) (I:Fz S) (hal:S.al.length<90000) (hw:S.wk<549755813888) (hk:S.cs.lookup x=none) :
 Calls Tryz.prog 72 #[tv,.int .u32 (x:Int),.int .i64 (p:Int)] w fun e w'=>e=.returned (.int .i64 0)∧EK w w' tv F (P5 S x p):=by
 have hlen:=I.len;have hl:S.cs.length<90000:=by omega
 have hn:S.n<100000:=by rw [I.cnt];have:=List.count_le_length (a:=true) (l:=S.al);omega
 have HN:=AQ (dV tv F w H);have hfc:=dX tv F S x w H I hl;unfold PX at hfc;rw [hk] at hfc;have HF:=AQ hfc;have HH:=AQ H;have HI:=AQ I;obtain ⟨q,cb,vb,vp,va,vs,bk,Fc,rfl,-⟩:=H;have hd:bP none = -1:=rfl;rw [hd] at HF;clear I hk hfc hd;go_enter Tryz.func72,Tryz.ntmps72
 go_wp2_with fail
 (with_reducible refine HN.out.mono ?_);rintro e w' ⟨rfl,rfl⟩;go_wp2_with fail
 (with_reducible refine HF.out.mono ?_);rintro e w1 ⟨t0,rfl,ht0,hu⟩;obtain ⟨q,cb,vb,vp,va,vs,bk,Fc,he,H1,hb,hF⟩:=HH.out.upd hu (by simp)
 cases he
 obtain ⟨A0,C0,hav⟩:∃A C,va=.slice A S.al.length C:=Bv H1.GK;obtain ⟨A9,C9,hpv⟩:∃A C,vp=.slice A S.pl.length C:=Bv H1.PW;subst hav hpv;obtain ⟨-,-,-,-,h4,hfr⟩:=H1.cell;have hf4:=hfr 4;have n0:(0:Int)≤(S.n:Int):=AU _;have n1:(S.n:Int)<100000:=by omega
 have HU:=AQ hu;have HB:=AQ hb;have V5:=AQ hF;have hH2:=H1.count (S.n+1);have he:Value.int .i64 ((S.n+1:Nat):Int)=Value.int .i64 ((S.n:Int)+1):=by congr 1
 rw [he] at hH2;have hu2:Bf [q] w1 (w1.setCell ⟨q,4,none⟩ (.int .i64 ((S.n:Int)+1))):=(Bf.refl _ _).setCell (p:=⟨q,4,none⟩) (.inl (by simp)) _;have Fq:=AQ hu2;obtain ⟨c0,-,c2,c3,-,-⟩:=hH2.cell;have Us:=AQ hH2;have Sl:q<w1.heap.size:=H1.head.lt;clear hu hb hF hfr hu2 hH2 H1;dsimp only;go_upto_region 7 with fail
 obtain ⟨w2,hw2⟩:∃W,W=w1.setCell ⟨q,4,none⟩ (.int .i64 ((S.n:Int)+1)):=⟨_,rfl⟩;rw [←hw2] at Fq Us c0 c2 c3 ⊢;clear h4 hf4 hw2;have b1q:q<w2.heap.size:=Us.out.head.lt;obtain ⟨W,hW,hu3,hq3⟩:=BJ w2 #[.int .u32 (x:Int),.int .i64 (S.al.length:Int)] 172;go_upto_region 11 with fail
 rw [←hW];have SG:=AQ (Us.out.Bh hu3);have xK:=Us.out.lt;have hqe:∀P∈parts q Fc vb vs (.slice A9 S.pl.length C9) (.slice A0 S.al.length C0),w2.heap.size∉P:=fun P hP hc=>Nat.lt_irrefl _ (xK P hP _ hc)
 obtain ⟨qe,a4G⟩:∃k,w2.heap.size=k:=⟨_,rfl⟩;rw [a4G] at hq3 hqe ⊢;have HQE:=AQ hqe;have HQ3:=AQ hq3;have Gj:=Ai hu3 a4G;have jT:q<W.heap.size:=SG.out.head.lt;clear hW hu3 xK hqe a4G hq3 c0 c2 c3;obtain ⟨-,-,c2,c3,-,hfr⟩:=SG.out.cell;have f2:=hfr 2;have f3:=hfr 3;clear hfr;obtain ⟨ib,hib,hb0,hb1,hb2⟩:=info_parts U2;obtain ⟨ii,hii,hi0,hi1,hi2⟩:=info_parts Xx;have rC:q∉blk (.slice A0 S.al.length C0):=fun hc=>SG.out.Gu (i:=0) (j:=4) rfl rfl (by omega) q (by simp) hc
 have xw:q∉blk (.slice A9 S.pl.length C9):=fun hc=>SG.out.Gu (i:=0) (j:=3) rfl rfl (by omega) q (by simp) hc
 have rD:=AQ SG.out.GK;have HA5:=AQ SG.out.PW;have hpl:S.pl.length<90000:=by rw [HI.out.pll];exact hal
 have xA:∀y∈blk (.slice A9 S.pl.length C9),y∉blk (.slice A0 S.al.length C0):=SG.out.Gu (i:=3) (j:=4) rfl rfl (by omega);have jL:=AQ xA;clear xA
 have hsT:Ed ((W.alloc (.cells #[.int .i64 (p:Int)] 3)).alloc (.cells #[.bool true] 4)).drew 1 (.slice (some ⟨W.heap.size+1,0,none⟩) 1 1) 1 [.bool true]:=by
  have h0:(W.alloc (.cells #[.int .i64 (p:Int)] 3)).heap.size=W.heap.size+1:=by simp
  have:=(BM (W.alloc (.cells #[.int .i64 (p:Int)] 3)) #[.bool true] 4 1 1 rfl (by decide)).drew;rw [h0] at this;exact this
 have hsI:Ed ((W.alloc (.cells #[.bool true] 4)).alloc (.cells #[.int .i64 (p:Int)] 3)).drew 1 (.slice (some ⟨W.heap.size+1,0,none⟩) 1 1) 1 [.int .i64 (p:Int)]:=by
  have h0:(W.alloc (.cells #[.bool true] 4)).heap.size=W.heap.size+1:=by simp
  have:=(BM (W.alloc (.cells #[.bool true] 4)) #[.int .i64 (p:Int)] 3 1 1 rfl (by decide)).drew;rw [h0] at this;exact this
 have hsJ:Ed ((W.alloc (.cells #[.int .i64 (p:Int)] 3)).alloc (.cells #[.bool true] 4)).drew 1 (.slice (some ⟨W.heap.size,0,none⟩) 1 1) 1 [.int .i64 (p:Int)]:=
  (Dq (BM W #[.int .i64 (p:Int)] 3 1 1 rfl (by decide)) ((Bf.refl [] _).alloc _) (by simp)).drew
 have ZO:=BK rD.out;have hnI:∀y∈blk (.slice (some ⟨W.heap.size+1,0,none⟩) 1 1),y∉blk (.slice A0 S.al.length C0):=fun y hy hc=>by have:=ZO y hc;simp [blk] at hy;omega
 have hnJ:∀y∈blk (.slice (some ⟨W.heap.size,0,none⟩) 1 1),y∉blk (.slice A0 S.al.length C0):=fun y hy hc=>by have:=ZO y hc;simp [blk] at hy;omega
 have HNI:=AQ hnI;have HNJ:=AQ hnJ;have HST:=AQ hsT;have HSI:=AQ hsI;have HSJ:=AQ hsJ;have HAV:=AQ ZO;clear hsT hsI hsJ ZO hnI hnJ;obtain ⟨F3,hF3⟩:=AO ((parts q Fc vb vs (.slice A9 S.pl.length C9) (.slice A0 S.al.length C0)).flatten);have HF3:=AQ hF3;clear hF3;go_cut [] (fun wc=>DT W wc q cb F3 bk (S1 S p))
 case first=>
  clear V5 HU Fq Gj HI HB HQE HQ3 hl hw hn HH Us HN HF n0 n1 hlen ht0 Sl b1q
  go_region_law (first
   |(
    refine FH _ (by rfl) _ _ 162 (by rfl) 0 4 ib (.bool false) 1 1 Tryz.underlying162 hib hb0 hb1 hb2 rfl (by decide) _ S.al.length (S.al.map .bool) (by rfl) (by first | exact ER (rD.out.alloc _) | exact ER ((rD.out.alloc _).alloc _)) _ 1 [.bool true] (by rfl) (by first | exact (BM _ #[.bool true] 4 1 1 rfl (by decide)).drew | exact (Dq (BM _ #[.bool true] 4 1 1 rfl (by decide)) ((Bf.refl [] _).alloc _) (by simp)).drew | exact HST.out) (by simp [Value.oneCell']) (by unfold maxLen;omega) (by omega) (Nat.zero_le _) ?_;intro A4 C4 w4 iq
    have xB:Bf (blk (.slice A0 S.al.length C0)) _ w4:=iq.upd;obtain ⟨J7,ho4,hb4⟩:=TJ (w:=W) (v:=.slice A0 S.al.length C0) (by first | exact ((Bf.refl _ W).alloc (.cells #[.bool true] 4)).drew | exact (((Bf.refl _ W).alloc (.cells #[.bool true] 4)).alloc (.cells #[.int .i64 (p:Int)] 3)).drew | exact (((Bf.refl _ W).alloc (.cells #[.int .i64 (p:Int)] 3)).alloc (.cells #[.bool true] 4)).drew) iq;clear iq;have HO4:=AQ ho4;have HB4:=AQ hb4;clear ho4 hb4;have hx5:=(J7.cell (p:=⟨q,2,none⟩) jT rC).trans c2;have a4z:∀o,(w4.alloc o).cell? ⟨q,2,none⟩=some (.slice A9 S.pl.length C9):=fun o=>by rw [World.cell?_alloc_past _ _ _ (Bc jT J7.size)];exact hx5)
   |(
    refine FH _ (by rfl) _ _ 163 (by rfl) 0 3 ii (.int .i64 0) 1 8 Tryz.underlying163 hii hi0 hi1 hi2 rfl (by decide) _ S.pl.length (S.pl.map fun (n:Nat)=>.int .i64 (n:Int)) (by rfl) (by first | exact (Bg HA5.out J7 jL.out).alloc _ | exact Bg HA5.out J7 jL.out) _ 1 [.int .i64 (p:Int)] (by rfl) (by
     first
      |exact BM w4 #[.int .i64 (p:Int)] 3 1 1 rfl (by decide)
      |exact Dq HSI.out xB (fun _ y hy _=>HNI.out y hy)
      |exact Dq HSJ.out xB (fun _ y hy _=>HNJ.out y hy)) (by simp [Value.oneCell']) (by unfold maxLen;omega) (by omega) (Nat.zero_le _) ?_;intro A5 C5 w5 HP5
    obtain ⟨Nu,ho5,hb5⟩:=TJ (w:=w4) (v:=.slice A9 S.pl.length C9) (by first | exact ((Bf.refl _ w4).alloc (.cells #[.int .i64 (p:Int)] 3)) | exact Bf.refl _ w4) HP5;clear HP5;have HO5:=AQ ho5;have HB5:=AQ hb5;clear ho5 hb5 hx5 a4z;have ZP:q<w4.heap.size:=Bc jT J7.size;have Sr:=(Nu.cell (p:=⟨q,3,none⟩) ZP xw).trans ((J7.cell (p:=⟨q,3,none⟩) jT rC).trans c3);have hst5:=(Nu.cell (p:=⟨q,2,none⟩) ZP xw).trans ((J7.cell (p:=⟨q,2,none⟩) jT rC).trans c2);have b1c:=(Nu.frozen (p:=⟨q,3,none⟩) ZP xw).trans ((J7.frozen (p:=⟨q,3,none⟩) jT rC).trans f3);have b1d:=(Nu.frozen (p:=⟨q,2,none⟩) ZP xw).trans ((J7.frozen (p:=⟨q,2,none⟩) jT rC).trans f2)))
  all_goals
   go_wp2_with fail
   go_meet
   case rel=>
    rw [←HF3.out];exact SG.out.pushed J7 HO4.out HB4.out Nu HO5.out HB5.out (by first | exact .inl rfl | exact .inr rfl)
 case rest=>
  clear c2 c3 f2 f3 HNI HNJ HST HSI HSJ HAV rD HA5 jL hib hb0 hb1 hb2 hii hi0 hi1 hi2 rC xw;obtain ⟨w5,hw5⟩:∃V:World,V=wc:=⟨_,rfl⟩;subst hw5;obtain ⟨vb5,vp5,va5,vs5,Fc5,H5,GR,hF5⟩:=hcut
  have Rn:qe∉F3:=fun hc=>by
   rw [←HF3.out] at hc;obtain ⟨P,hP,hx⟩:=List.mem_flatten.1 hc;exact HQE.out P hP hx
  obtain ⟨e0,e1⟩:=(HQ3.out.upd GR Rn).cells2;have a4H:qe<w5.heap.size:=(HQ3.out.upd GR Rn).lt;obtain ⟨d0,-⟩:=H5.cell;have hq5:q<w5.heap.size:=H5.head.lt;have a7p:q∉Fc5:=fun hc=>H5.Gu (i:=0) (j:=1) rfl rfl (by omega) q (by simp) hc
  have xP:qe∉Fc5:=fun hc=>by
   rcases hF5 qe (Bq (i:=1) rfl hc) with g | g
   ·exact Rn g
   ·have:=HQ3.out.lt;omega
  have hbn:(setB S.cs).length≤20:=by rw [Es];exact CQ S.cs.length 20 (by omega)
  have hfl:(setB S.cs).flatten.length<90000:=by rw [Uz];exact hl
  have HH5:=AQ H5;have LJ:=Ai GR hF5;have dd0:w5.drew.cell? ⟨q,0,none⟩=some (.pointer (some ⟨cb,0,none⟩)):=d0;have de0:w5.drew.cell? ⟨qe,0,none⟩=some (.int .u32 (x:Int)):=e0;have de1:w5.drew.cell? ⟨qe,1,none⟩=some (.int .i64 (S.al.length:Int)):=e1;clear H5 GR hF5 Rn d0 e0 e1;go_upto_region 12 with fail
  go_region_held3 (fun w'=>w'.cell? ⟨q,0,none⟩=some (.pointer (some ⟨cb,0,none⟩))∧w'.cell? ⟨qe,0,none⟩=some (.int .u32 (x:Int))∧w'.cell? ⟨qe,1,none⟩=some (.int .i64 (S.al.length:Int)))
   (first
    |(exact ⟨dd0,de0,de1⟩)
    |(exact ⟨(g2.cell (p:=⟨q,0,none⟩) hq5 a7p).trans dd0,(g2.cell (p:=⟨qe,0,none⟩) a4H xP).trans de0,(g2.cell (p:=⟨qe,1,none⟩) a4H xP).trans de1⟩)
    |go_keep)
   ((go_at_call 126;refine (Rq.a4i cb Fc5 (x,S.al.length) _ _ _ _ (HH5.out.TI.upd ((Bf.refl [] w5).drew) (by simp)) (by show (setB S.cs).length<_;omega) (by show (setB S.cs).flatten.length<_;omega) (by show S.cs.length<_;omega) (by show S.wk<_;omega)).mono ?_;rintro e w6 ⟨A2,C2,rfl,Fc6,g1,g2,g3,g4,g5⟩))
  have ZG:Bf Fc5 w5 w6:=((Bf.refl [] w5).drew.mono (by simp)).trans' g2 (fun y hy=>.inl hy);have hgl:=(GU S.cs (x,S.al.length)).2;obtain ⟨G,hG⟩:=AO (EF (setB S.cs) (x,S.al.length));obtain ⟨t,ht⟩:=AO (Bl (setB S.cs))
  have b1e:t≤20:=by
   have h1:=Eo (setB S.cs);omega
  have hGl:G.length<100000:=by
   rw [←hG,(GU S.cs (x,S.al.length)).1,AY,List.length_drop];simp;omega
  have htb:t≤bk.length:=by
   have h1:=Eo (setB S.cs);have h2:=HB.1;omega
  have h6:=HH5.out.carry (w':=w6) (cs:=S.cs++[(x,S.al.length)]) (wk:=S.wk+(EF (setB S.cs) (x,S.al.length)).length) (mY:=Fc6) (by rw [←VU,AY];exact g1) ZG g3;have h6:EN w6 q cb vb5 vp5 va5 vs5 bk Fc6 (P5 S x p):=h6;have hge:(EF (setB (S1 S p).cs) (x,S.al.length))=G:=hG;have hfe:Bl (setB (S1 S p).cs)=t:=ht;rw [hge] at g4 g5 ⊢;rw [hfe];obtain ⟨F6,hF6⟩:=AO ((parts q Fc6 vb5 vs5 vp5 va5).flatten)
  have hSL:∀y∈blk (.slice A2 G.length C2),y∉F6:=by
   intro y hy hc;rw [←hF6,show parts q Fc6 vb5 vs5 vp5 va5=(parts q Fc5 vb5 vs5 vp5 va5).set 1 Fc6 from rfl] at hc;rcases EJ hc with hc | hc
   ·have e1:=BD g4 y hy;obtain ⟨P,hP,hyP⟩:=List.mem_flatten.1 hc;have e2:=HH5.out.lt P hP y hyP;have e3:w5.drew.heap.size=w5.heap.size:=rfl;omega
   ·exact g5 y hy hc
  have a2d:∀(S':NS) (bk':List (List (Nat×Nat))) (w'':World),DT w6 w'' q cb (F6++blk (.slice A2 G.length C2)) bk' S'→DT w w'' q cb F bk' S':=by
   intro S' bk' w'' h
   have k1:DT w5 w'' q cb (parts q Fc5 vb5 vs5 vp5 va5).flatten bk' S':=by
    refine DT.next (ZG.mono (fun y hy=>.inl (Bq (i:=1) rfl hy))) ?_ h
    intro y hy;rcases List.mem_append.1 hy with hy | hy
    case inr=>exact .inr (BD g4 y hy)
    rw [←hF6,show parts q Fc6 vb5 vs5 vp5 va5=(parts q Fc5 vb5 vs5 vp5 va5).set 1 Fc6 from rfl] at hy;rcases EJ hy with g | g
    ·exact .inl g
    ·exact (g3 y g).imp (Bq (i:=1) rfl) id
   have k2:DT W w'' q cb F3 bk' S':=DT.next LJ.1 LJ.2 k1;have hF:F3=F:=by rw [←HF3.out];exact V5.out.symm
   rw [hF] at k2;have k3:DT w2 w'' q cb F bk' S':=DT.next (Gj.1.mono (by simp)) (fun y hy=>.inl hy) k2;have k4:DT w1 w'' q cb F bk' S':=DT.next (Fq.out.mono (fun y hy=>.inl (by rw [V5.out];exact Bq (i:=0) (P:=[q]) rfl hy))) (fun y hy=>.inl hy) k3;exact DT.next (HU.out.mono (by simp)) (fun y hy=>.inl hy) k4
  have Gv:=AQ a2d;have HSL:=AQ hSL;have xu:=AQ g4;have HG:=Aj hG ht hF6;have HH6:=AQ h6;have Yv:DT w6 w6 q cb F6 bk (P5 S x p):=by rw [←hF6];exact DT.refl h6
  have xQ:=AQ Yv;have hslt:=BK g4;have b1r:=AQ hslt;clear a2d hSL g1 g2 g3 g4 g5 h6 hge hfe hG ht hF6 Yv hslt dd0 de0 de1 ZG hgl hq5 a4H a7p xP hbn hfl;have t0':(0:Int)≤(t:Int):=AU _;obtain ⟨i0,hi0,hz0,hz1,hz2⟩:=info_parts Xy;go_upto_block 0 with fail
  go_cut [] (fun wc=>∃bk7,t<bk7.length∧bk7.drop (t+1)=bk.drop (t+1)∧DT w6 wc q cb F6 bk7 (P5 S x p))
  case first=>
   go_wp2_with fail
   go_loopg [] (t+1 - bk.length) (fun m wr=>∃n,m+n=t+1 - bk.length∧DT w6 wr q cb F6 (bk++List.replicate n []) (P5 S x p))
   case atStart=>exact ⟨0,rfl,by simpa using xQ.out⟩
   case round=>
    obtain ⟨n,hmn,vb7,vp7,va7,vs7,Fc7,H7,Oo,rO⟩:=hrel;obtain ⟨A7,C7,hv7⟩:=Bv H7.rows.list;subst hv7;obtain ⟨n7,hn7⟩:=AO vs7.length;have xR:n7=bk.length+n:=by rw [←hn7,H7.rows.len];simp
    obtain ⟨-,c1,-,-,-,hfr⟩:=H7.cell;have f1:=hfr 1;rw [hn7] at c1;have b0z:bk.length≤20:=by rw [HB.1,Es];exact CQ S.cs.length 20 (by omega)
    have b2o:n7≤50:=by omega
    have hq7:q<wr.heap.size:=H7.head.lt;have hqv:q∉blk (.slice A7 n7 C7):=fun hc=>H7.Gu (i:=0) (j:=2) rfl rfl (by omega) q (by simp) (CB.2 (.inl (by rw [hn7];exact hc)))
    have xU:wr.ownsRow 0 187 1 (.slice A7 n7 C7) n7 vs7:=by have:=H7.rows.list;rwa [hn7] at this
    have aV:=AQ xU;have HH7:=AQ H7;have V3:=Ai Oo rO;have HM:=Aj hmn xR hn7;by_cases hlt:n7≤t
    ·have hlt2:(n7:Int)≤(t:Int):=by omega
     clear hmn xR hn7 H7 Oo rO hfr xU;go_upto_region 14 with fail
     go_wp2_with (at_builtin;refine BL _ rfl _ _ 173 rfl 0 187 i0 (.slice none 0 0) 1 24 Tryz.underlying173 hi0 hz0 hz1 hz2 rfl (by decide) _ n7 vs7 rfl (aV.out.alloc _) _ 1 [.slice none 0 0] rfl (BM wr #[.slice none 0 0] 187 1 1 rfl (by decide)) (by simp [Value.oneCell']) (by unfold maxLen;omega) (by omega) (Nat.zero_le _) ?_)
     intro A8 C8 w8 HP
     have hst1:w8.cell? ⟨q,1,none⟩=some (.slice A7 n7 C7):=by
      rw [(HP.upd).cell (p:=⟨q,1,none⟩) (by simp;omega) hqv,World.cell?_alloc_past _ _ _ hq7];exact c1
     have hst2:w8.frozen? ⟨q,1,none⟩=false:=by
      rw [(HP.upd).frozen (p:=⟨q,1,none⟩) (by simp;omega) hqv,World.frozen?_alloc_past _ _ _ hq7];exact f1
     have wE:=AQ HP;clear HP c1 f1;go_wp2_with fail
     go_roundg (gk - 1)
     case measure=>have:=HM.out;omega
     case rel=>
      have hpp:=wE.out;obtain ⟨m1,m2,m3⟩:=HM.out;rw [←m3] at hpp;have hwd:=HH7.out.wide hpp rfl;rw [m3] at hwd;have hst:=DT.next V3.1 V3.2 (by rw [m3];exact hwd);refine ⟨n+1,by omega,?_⟩
      rw [List.append_assoc,←List.replicate_succ'] at hst;exact hst
    ·have hlt2:¬(n7:Int)≤(t:Int):=by omega
     clear hmn xR hn7 H7 Oo rO hfr xU;have GY:=AQ hlt;clear hlt;go_wp2_with fail
     go_meet
     case rel=>
      obtain ⟨m1,m2,m3⟩:=HM.out;refine ⟨bk++List.replicate n [],by simp;have:=GY.out;omega,?_,⟨_,_,_,_,_,HH7.out,V3.1,V3.2⟩⟩
      rcases Nat.lt_or_ge t bk.length with h | h
      ·have:n=0:=by omega
       subst this;simp
      ·rw [List.drop_eq_nil_of_le (by simp;omega),List.drop_eq_nil_of_le (by omega)]
  case rest=>
   obtain ⟨w7,hw7⟩:∃V:World,V=wc:=⟨_,rfl⟩;subst hw7;obtain ⟨bk7,hb7,hdp,hs7⟩:=hcut;have HS7:=AQ hs7;have HDP:=AQ hdp;clear hs7 hdp;go_upto_block 2 with fail
   go_cut [] (fun wc=>DT w6 wc q cb F6 (List.replicate t []++bk7.drop t) (P5 S x p))
   case first=>
    go_wp2_with fail
    go_loopg [106] t (fun m s wr=>∃k:Nat,m+k=t∧s=.int .i64 (k:Int)∧DT w6 wr q cb F6 (List.replicate k []++bk7.drop k) (P5 S x p))
    case atStart=>exact ⟨0,by omega,rfl,by simpa using HS7.out⟩
    case round=>
     obtain ⟨k,hk,rfl,vb8,vp8,va8,vs8,Fc8,H8,nD,hF8⟩:=hrel;have b0:(0:Int)≤(k:Int):=AU _;have tH:=Ai nD hF8;have HH8:=AQ H8;have HK:=AQ hk;by_cases hlt:k<t
     ·have b1:(k:Int)<(t:Int):=by omega
      obtain ⟨A8,C8,hv8⟩:=Bv H8.rows.list;subst hv8;obtain ⟨n8,hn8⟩:=AO vs8.length;have a7q:n8=bk7.length:=by rw [←hn8,H8.rows.len];simp;omega
      obtain ⟨g,Ak,Ck,hA,hv,hcell,hfro,hrow⟩:=H8.rows.at (k:=k) (by simp;omega);subst hA;obtain ⟨u8,b1s⟩:∃u,wr.cell? ⟨g,k,none⟩=some u:=⟨_,hcell⟩;clear hcell;obtain ⟨-,c1,-⟩:=H8.cell;have htn:=H8.turn rfl k (.slice none 0 0) [] (World.ownsRow_nil _ _ _ _) (by simp [blk]);rw [rM bk7 k (by omega)] at htn;have HTN:=AQ htn;rw [hn8] at c1;have b2:(k:Int)<(n8:Int):=by omega
      clear hrow hv hn8 a7q H8 nD hF8 hk htn;go_wp2_with fail
      go_roundg (t - (k+1))
      case measure=>have:=HK.out;omega
      case rel=>
       obtain ⟨k1,k2,k3⟩:=HTN.out;exact ⟨k+1,Ac HK,by go_num,DT.next tH.1 tH.2 ⟨_,_,_,_,_,k1,k2,fun y hy=>by rcases k3 y hy with g | g;exact .inl g;simp [blk] at g⟩⟩
     ·have hkt:k=t:=by omega
      subst hkt;clear nD hF8 H8 hk;go_wp2_with fail
      go_meet
      case rel=>exact ⟨_,_,_,_,_,HH8.out,tH.1,tH.2⟩
   case rest=>
    obtain ⟨w8,hw8⟩:∃V:World,V=wc:=⟨_,rfl⟩;subst hw8;obtain ⟨vb9,vp9,va9,vs9,Fc9,H9,aY,hF9⟩:=hcut;obtain ⟨A9',C9',hv9⟩:=Bv H9.rows.list;subst hv9;obtain ⟨g,Ak,Ck,hA,hv,hcell,hfro,hrow⟩:=H9.rows.at (k:=t) (by simp;omega);subst hA;obtain ⟨u9,xW⟩:∃u,w8.cell? ⟨g,t,none⟩=some u:=⟨_,hcell⟩;clear hcell;obtain ⟨n9,hn9⟩:=AO vs9.length;have a7r:n9=bk7.length:=by rw [←hn9,H9.rows.len];simp;omega
    obtain ⟨-,c1,-⟩:=H9.cell;rw [hn9] at c1;have hq9:q<w8.heap.size:=H9.head.lt;have hgP:g∈(parts q Fc9 (.slice (some ⟨g,0,none⟩) vs9.length C9') vs9 vp9 va9).flatten:=Bq (i:=2) rfl (CB.2 (.inl (by simp [blk])));have hg9:g<w8.heap.size:=World.block_lt_of_cell? _ _ xW;have a2e:=Bg xu.out aY HSL.out;have hqP:q∈(parts q Fc9 (.slice (some ⟨g,0,none⟩) vs9.length C9') vs9 vp9 va9).flatten:=Bq (i:=0) (P:=[q]) rfl (by simp)
    have hout:∀y∈blk (.slice A2 G.length C2),y∉(parts q Fc9 (.slice (some ⟨g,0,none⟩) vs9.length C9') vs9 vp9 va9).flatten:=by
     intro y hy hc;rcases hF9 y hc with h | h
     ·exact HSL.out y hy h
     ·have:=b1r.out y hy;omega
    have RZ:q∉blk (.slice A2 G.length C2):=fun hc=>hout q hc hqP
    have hgb:g∉blk (.slice A2 G.length C2):=fun hc=>hout g hc hgP
    have hqg:q≠g:=fun e=>H9.Gu (i:=0) (j:=2) rfl rfl (by omega) q (by simp) (CB.2 (.inl (by simp [blk,e])))
    have hgq:g≠q:=Ne.symm hqg;have HH9:=AQ H9;have ZL:=Ai aY hF9;have tJ:=AQ a2e;have a7s:=AQ hout;have HN9:=AQ hn9;have b1:(t:Int)<(n9:Int):=by omega
    have d1:w8.drew.cell? ⟨q,1,none⟩=some (.slice (some ⟨g,0,none⟩) n9 C9'):=c1;clear hrow hv H9 aY hF9 hn9 a7r a2e hout hqP hgP;go_upto_region 20 with fail
    go_region_held3 (fun w'=>w'.cell? ⟨q,1,none⟩=some (.slice (some ⟨g,0,none⟩) n9 C9'))
     (first
      |go_keep
      |(exact (u10.cell (p:=⟨q,1,none⟩) hq9 RZ).trans d1)
      |(rw [World.cell?_setCell_other _ _ _ _ (by simp [hqg])];exact (u10.cell (p:=⟨q,1,none⟩) hq9 RZ).trans d1)
      |(rw [World.cell?_setCell_other _ _ _ _ (by simp [hgq])];exact (u10.cell (p:=⟨q,1,none⟩) hq9 RZ).trans d1))
     ((go_at_call 127;refine (nH _ _ G _ (Bg tJ.out ((Bf.refl [] w8).drew) (by simp)) (by omega)).mono ?_;rintro e w10 ⟨rfl,u10,l10,p10,s10,r10⟩;have hst1:=(u10.cell (p:=⟨g,t,none⟩) hg9 hgb).trans xW;have hst2:=(u10.frozen (p:=⟨g,t,none⟩) hg9 hgb).trans hfro))
    all_goals
     have H10:=HH9.out.upd (((Bf.refl [] w8).drew.mono (G:=blk (.slice A2 G.length C2)) (by simp)).trans u10) (fun P hP y hy hc=>a7s.out y hc (List.mem_flatten.2 ⟨P,hP,hy⟩));have htn:=H10.turn rfl t (.slice A2 G.length C2) l10 (own_base (by have:=r10;rw [←p10.length_eq] at *;exact this) (Nat.zero_le _)) a7s.out;rw [a4E bk7 t l10 hb7,HDP.out] at htn;have HTN:=AQ htn;have b1t:=Aj p10 s10 u10;clear H10 htn p10 s10 u10 r10 hst1 hst2;go_wp2_with fail
     go_ret
     obtain ⟨k1,k2,k3⟩:=HTN.out;obtain ⟨p10,s10,u10⟩:=b1t.out;obtain ⟨g1,g2,g3⟩:=HG.out;have hbk:=a1m HB.out (e:=(x,S.al.length)) (l:=l10) (by rw [g1];exact p10) s10;rw [g2] at hbk;refine ⟨rfl,DT.is (Gv.out _ _ _ ?_) hbk⟩
     refine ⟨_,_,_,_,_,k1,?_,?_⟩
     ·have hdw:Bf (F6++blk (.slice A2 G.length C2)) w8 w10:=((Bf.refl [] w8).drew.mono (by simp)).trans (u10.mono (fun y hy=>.inl (List.mem_append.2 (.inr hy))));refine ((ZL.1.mono (fun y hy=>.inl (List.mem_append.2 (.inl hy)))).trans hdw).trans' k2 (fun y hy=>?_)
      exact (ZL.2 y hy).imp (fun h=>List.mem_append.2 (.inl h)) id
     ·intro y hy;rcases k3 y hy with h | h
      ·exact (ZL.2 y h).imp (fun h=>List.mem_append.2 (.inl h)) id
      ·exact .inl (List.mem_append.2 (.inr h))
end Go.Proofs.YtkbaaonchdeneaaGreat.Nm
namespace Go.Proofs.YtkbaaonchdeneaaGreat.Nm
open Go.RowKit
theorem a7t {w w2:World} {q cb:Nat} {vb vp va:Value} {vs:List Value} {bk:List (List (Nat×Nat))} {Fc:List Nat} {S:NS} (H:EN w q cb vb vp va vs bk Fc S) (hu:Bf [] w w2) :
 Calls Tryz.prog 130 #[.pointer (some ⟨cb,0,none⟩)] w2 fun e w'=>e=.returned (.int .i64 (S.cs.length:Nat))∧w2=w':=
 Rq.a4q cb Fc (setB S.cs) S.cs.length S.wk w2 (H.TI.upd hu (by simp))
theorem a1p (tv:Value) (F:List Nat) (S:NS) (x:Nat) (w:World) (H:Hz w tv F S) (I:Fz S) (hl:S.cs.length<90000) (hk:place S x=none) :
 Calls Tryz.prog 74 #[tv,.int .u32 (x:Int)] w fun e w'=>e=.returned (.tuple #[.int .i64 0,.bool false])∧Bf [] w w':=by
 have HN:=AQ (dV tv F w H);have HF:=AQ (dX tv F S x w H I hl);have HH:=AQ H;have HI:=AQ I;obtain ⟨q,cb,vb,vp,va,vs,bk,Fc,rfl,-⟩:=H;obtain ⟨o,ho⟩:=AO (S.cs.lookup x);clear I;go_enter Tryz.func74,Tryz.ntmps74
 go_wp2_with fail
 (with_reducible refine HN.out.mono ?_);rintro e w' ⟨rfl,rfl⟩;go_wp2_with fail
 (with_reducible refine HF.out.mono ?_);rintro e w' ⟨t,rfl,ht,hu⟩;have HU:=AQ hu;rw [ho]
 cases o with
 |none=>
  have hd:bP none = -1:=rfl;rw [hd];clear hk ho hu hd;dsimp only;go_wp2_with fail
  go_ret2
  exact ⟨rfl,HU.out⟩
 |some k=>
  obtain ⟨hk1,hk2⟩:=PZ HI.out ho;obtain ⟨q,cb,vb,vp,va,vs,bk,Fc,he,H,hb,hF⟩:=HH.out.upd hu (by simp)
  cases he
  obtain ⟨-,-,h2,h3,-⟩:=H.cell;obtain ⟨ga,Ca,rfl,a1,-⟩:=TK H.GK hk1;have k0:(0:Int)≤(k:Int):=AU _;have k1:(k:Int)<(S.al.length:Int):=by omega
  have k3:¬(k:Int)<0:=by omega
  have hd:bP (some k)=(k:Int):=rfl;rw [hd]
  have hal:S.al.getD k false=false:=by
   unfold place at hk;rw [ho] at hk;by_cases h:S.al.getD k false=true
   ·dsimp only at hk;rw [if_pos h] at hk;cases hk
   ·simpa using h
  rw [hal] at a1;clear H hb hF hd hk ho hu hal hk1 hk2;dsimp only;go_wp2_with fail
  go_ret2
  exact ⟨rfl,HU.out⟩
theorem QK (tv:Value) (F:List Nat) (S:NS) (x k:Nat) (w:World) (H:Hz w tv F S) (I:Fz S) (hl:S.cs.length<90000) (hn:S.n<100000) (hw:S.wk<549755813888) (hk:S.cs.lookup x=some k) (ha:S.al.getD k false=true) :
 Calls Tryz.prog 74 #[tv,.int .u32 (x:Int)] w fun e w'=>e=.returned (.tuple #[.int .i64 ((S.pl.getD k 0:Nat):Int),.bool true])∧EK w w' tv F (Dx S x):=by
 have HN:=AQ (dV tv F w H);have hfc:=dX tv F S x w H I hl;unfold PX at hfc;rw [hk] at hfc;have HF:=AQ hfc;have HH:=AQ H;have HI:=AQ I;obtain ⟨q,cb,vb,vp,va,vs,bk,Fc,rfl,-⟩:=H;obtain ⟨hk1,hk2⟩:=PZ I hk;have hd:bP (some k)=(k:Int):=rfl;rw [hd] at HF
 have hpos:0<S.n:=by
  have:=OQ ha;rw [I.cnt];omega
 have hds:Dx S x=if S.cs.length > 2*(S.n - 1) then TN (TP S k) else TP S k:=by unfold Dx;rw [hk]
 have HDS:=AQ hds;obtain ⟨pv,hpv⟩:=AO (S.pl.getD k 0);rw [hpv];have vS:=AQ hpv;clear I hk hfc hd hds;go_enter Tryz.func74,Tryz.ntmps74
 go_wp2_with fail
 (with_reducible refine HN.out.mono ?_);rintro e w' ⟨rfl,rfl⟩;go_wp2_with fail
 (with_reducible refine HF.out.mono ?_);rintro e w1 ⟨t,rfl,ht,hu⟩;have HU:=AQ hu;obtain ⟨q,cb,vb,vp,va,vs,bk,Fc,he,H1,hb,hF⟩:=HH.out.upd hu (by simp)
 cases he
 obtain ⟨h0,-,h2,h3,h4,hfr⟩:=H1.cell;obtain ⟨ga,Ca,rfl,a1,a2,-⟩:=TK H1.GK hk1;obtain ⟨gp,Cp,rfl,p1,p2,-⟩:=PY H1.PW hk2;have hf4:=hfr 4;have k0:(0:Int)≤(k:Int):=AU _;have k1:(k:Int)<(S.al.length:Int):=by omega
 have k2:(k:Int)<(S.pl.length:Int):=by omega
 have k3:¬(k:Int)<0:=by omega
 rw [ha] at a1;have n0:(0:Int)<(S.n:Int):=by omega
 have n1:(S.n:Int)<100000:=by omega
 have hqa:q≠ga:=fun e=>H1.Gu (i:=0) (j:=4) rfl rfl (by omega) q (by simp) (by simp [blk,e])
 have hqp:q≠gp:=fun e=>H1.Gu (i:=0) (j:=3) rfl rfl (by omega) q (by simp) (by simp [blk,e])
 have hap:ga≠gp:=fun e=>H1.Gu (i:=4) (j:=3) rfl rfl (by omega) ga (by simp [blk]) (by simp [blk,e])
 have hm1:=H1.mark rfl k false;have hm2:=hm1.count (S.n - 1);have he:Value.int .i64 ((S.n - 1:Nat):Int)=Value.int .i64 ((S.n:Int) - 1):=by congr 1;omega
 rw [he] at hm2
 have hus:Bf (parts q Fc vb vs (.slice (some ⟨gp,0,none⟩) S.pl.length Cp) (.slice (some ⟨ga,0,none⟩) S.al.length Ca)).flatten w1 ((w1.setCell ⟨ga,k,none⟩ (.bool false)).setCell ⟨q,4,none⟩ (.int .i64 ((S.n:Int) - 1))):=
  ((Bf.refl _ _).setCell (p:=⟨ga,k,none⟩) (.inl (Bq (i:=4) (P:=[ga]) rfl (by simp))) _).setCell (p:=⟨q,4,none⟩) (.inl (Bq (i:=0) (P:=[q]) rfl (by simp))) _
 have e4:(w1.setCell ⟨ga,k,none⟩ (.bool false)).cell? ⟨q,4,none⟩=some (.int .i64 (S.n:Int)):=by rw [World.cell?_setCell_other _ _ _ _ (by simp)];exact h4
 have e4f:(w1.setCell ⟨ga,k,none⟩ (.bool false)).frozen? ⟨q,4,none⟩=false:=by rw [World.frozen?_setCell];exact hf4
 have um:=AQ hm2;have HUS:=AQ hus;have HB:=AQ hb;have V5:=AQ hF;clear hm1 hm2 hus hb hF H1 hu hfr hk1 hk2 he;dsimp only;go_upto_region 7 with fail
 clear h0 h2 h3 h4 a1 a2 p1 p2 hf4;go_upto_region 8 with fail
 obtain ⟨w2,hw2⟩:∃W,W=((w1.setCell ⟨ga,k,none⟩ (.bool false)).setCell ⟨q,4,none⟩ (.int .i64 ((S.n:Int) - 1))):=⟨_,rfl⟩;rw [←hw2] at um HUS ⊢;clear e4 e4f hw2;obtain ⟨c0,-,c2,c3,c4',-⟩:=um.out.cell;obtain ⟨M,hM⟩:=AO (S.n - 1);have c4:w2.cell? ⟨q,4,none⟩=some (.int .i64 (M:Int)):=by rw [←hM];exact c4'
 clear c4';have m0:(0:Int)≤(M:Int):=AU _;have m1:(M:Int)<100000:=by omega
 have hwr:IntKind.i64.wrap (2*(M:Int))=2*(M:Int):=IntWalk.i64_in _ (by omega);have hpl2:=um.out.PW;have hkp:k<S.pl.length:=by omega
 obtain ⟨gp',Cp',hpe,p0,-⟩:=PY hpl2 (k:=k) hkp
 cases hpe
 have p1:w2.cell? ⟨gp,k,none⟩=some (.int .i64 (pv:Int)):=by rw [←hpv];exact p0
 clear p0;have HST:=AQ (⟨_,_,_,_,_,um.out,HUS.out,fun x hx=>.inl hx⟩:DT w1 w2 q cb (parts q Fc vb vs (.slice (some ⟨gp,0,none⟩) S.pl.length Cp) (.slice (some ⟨ga,0,none⟩) S.al.length Ca)).flatten bk (TP S k));have l0:(0:Int)≤(S.cs.length:Int):=AU _;have l1:(S.cs.length:Int)<90000:=by omega
 by_cases hbig:S.cs.length > 2*(S.n - 1)
 ·have hb2:2*(M:Int)<(S.cs.length:Int):=by omega
  have HBG:=AQ hbig;have HAN:=AQ (fun n=>a7j (um.out.Bh ((Bf.refl [] w2).drewN n)) (by intro y hy;show y.2<(S.al.set k false).length;rw [List.length_set];exact HI.out.lt y hy) (by show S.cs.length<_;omega) (by show S.wk<_;omega));clear hbig hpl2 hpv p1 hkp;go_quiet (first | (go_at_call 130;refine Calls.quiet_of_same ((a7t um.out ((Bf.refl [] w2).drewN _)).mono fun _ _ h=>⟨h.1,h.2.symm⟩)))
  clear c0 c2 c3 c4 hwr;go_wp2_with fail
  (with_reducible refine (HAN.out _).mono ?_);rintro e w3 ⟨rfl,h3⟩;have h3':EK w2 w3 (.pointer (some ⟨q,0,none⟩)) (parts q Fc vb vs (.slice (some ⟨gp,0,none⟩) S.pl.length Cp) (.slice (some ⟨ga,0,none⟩) S.al.length Ca)).flatten (TN (TP S k)):=h3.ahead ((Bf.refl [] w2).drewN _);obtain ⟨F3,⟨q3,cb3,vb3,vp3,va3,vs3,bk3,Fc3,he,H3,hb3,hF3⟩,hu3,hf3⟩:=h3'
  cases he
  obtain ⟨-,-,c2',-⟩:=H3.cell;obtain ⟨gp3,Cp3,rfl,p0,-⟩:=PY H3.PW (k:=k) (by show k<S.pl.length;omega);have p1:w3.cell? ⟨gp3,k,none⟩=some (.int .i64 (pv:Int)):=by rw [←vS.out];exact p0
  have c2:w3.cell? ⟨q,2,none⟩=some (.slice (some ⟨gp3,0,none⟩) S.pl.length Cp3):=c2';clear c2' p0;have HF:=AQ (⟨F3,⟨q,cb3,vb3,_,va3,vs3,bk3,Fc3,rfl,H3,hb3,hF3⟩,hu3,hf3⟩:EK w2 w3 (.pointer (some ⟨q,0,none⟩)) (parts q Fc vb vs (.slice (some ⟨gp,0,none⟩) S.pl.length Cp) (.slice (some ⟨ga,0,none⟩) S.al.length Ca)).flatten (TN (TP S k)));clear H3 hb3 hF3 hu3 hf3 h3;go_wp2_with fail
  go_ret2
  refine ⟨rfl,?_⟩
  rw [HDS.out,if_pos HBG.out];obtain ⟨F3,h3,hu3,hf3⟩:=HF.out;rw [V5.out];refine ⟨F3,h3,(HU.out.mono (by simp)).trans (HUS.out.trans hu3),fun y hy=>?_⟩
  rcases hf3 y hy with g | g
  ·exact .inl g
  ·exact .inr (Bd (Bd HU.out.size HUS.out.size) g)
 ·have hb2:¬2*(M:Int)<(S.cs.length:Int):=by omega
  have HBG:=AQ hbig;clear hbig hpl2 hpv hkp;go_quiet (first | (go_at_call 130;refine Calls.quiet_of_same ((a7t um.out ((Bf.refl [] w2).drewN _)).mono fun _ _ h=>⟨h.1,h.2.symm⟩)))
  clear hwr;go_wp2_with fail
  go_ret2
  refine ⟨rfl,?_⟩
  rw [HDS.out,if_neg HBG.out,V5.out];exact ((DT.is HST.out HB.out).ahead HU.out).quiet ((Bf.refl _ _).drewN _)
end Go.Proofs.YtkbaaonchdeneaaGreat.Nm
namespace Go.Proofs.YtkbaaonchdeneaaGreat.Nm
open Go.RowKit
theorem XD {S:NS} {x i:Nat} (h:place S x=some i):∃k,S.cs.lookup x=some k∧S.al.getD k false=true∧S.pl.getD k 0=i:=by
 unfold place at h
 cases hk:S.cs.lookup x with
 |none=>rw [hk] at h;cases h
 |some k=>
  rw [hk] at h;dsimp only at h;split at h
  ·rename_i ha
   cases h
   exact ⟨k,rfl,ha,rfl⟩
  ·cases h
theorem Fz.cnt_le {S:NS} (I:Fz S):S.n≤S.al.length:=by rw [I.cnt];exact List.count_le_length
theorem xX (tv:Value) (F:List Nat) (S:NS) (x p:Nat) (w:World) (H:Hz w tv F S) (I:Fz S) (hal:S.al.length<90000) (h:(place S x).isSome=true) :
 Calls Tryz.prog 72 #[tv,.int .u32 (x:Int),.int .i64 (p:Int)] w fun e w'=>e=.returned (.int .i64 2)∧Bf [] w w':=by
 obtain ⟨i,hi⟩:=Option.isSome_iff_exists.1 h;obtain ⟨k,h1,h2,-⟩:=XD hi;have hl:=I.len;have hn:=I.cnt_le;refine (xO tv F S x p k w H I (by omega) (by omega) h1).mono ?_
 rintro e w' (⟨-,he,hu⟩ | ⟨hc,-⟩)
 ·exact ⟨he,hu⟩
 ·rw [h2] at hc;cases hc
theorem a1q (tv:Value) (F:List Nat) (S:NS) (x p:Nat) (w:World) (H:Hz w tv F S) (I:Fz S) (hal:S.al.length<90000) (hw:S.wk<549755813888) (h:place S x=none) :
 Calls Tryz.prog 72 #[tv,.int .u32 (x:Int),.int .i64 (p:Int)] w fun e w'=>e=.returned (.int .i64 0)∧EK w w' tv F (Rf S x p):=by
 have hl:=I.len;have hn:=I.cnt_le
 cases hk:S.cs.lookup x with
 |none=>
  have e:Rf S x p=P5 S x p:=by unfold Rf;rw [hk]
  rw [e];exact a4F tv F S x p w H I hal hw hk
 |some k=>
  have e:Rf S x p=jP S k p:=by unfold Rf;rw [hk]
  rw [e]
  have hd:S.al.getD k false=false:=by
   unfold place at h;rw [hk] at h;dsimp only at h;split at h
   ·cases h
   ·rename_i hh;simpa using hh
  refine (xO tv F S x p k w H I (by omega) (by omega) hk).mono ?_
  rintro e w' (⟨hc,-⟩ | ⟨-,he,hu⟩)
  ·rw [hd] at hc;cases hc
  ·exact ⟨he,hu⟩
theorem rP (tv:Value) (F:List Nat) (S:NS) (x i:Nat) (w:World) (H:Hz w tv F S) (I:Fz S) (hal:S.al.length<90000) (hw:S.wk<549755813888) (h:place S x=some i) :
 Calls Tryz.prog 74 #[tv,.int .u32 (x:Int)] w fun e w'=>e=.returned (.tuple #[.int .i64 (i:Int),.bool true])∧EK w w' tv F (Dx S x):=by
 obtain ⟨k,h1,h2,h3⟩:=XD h;have hl:=I.len;have hn:=I.cnt_le;rw [←h3];exact QK tv F S x k w H I (by omega) (by omega) hw h1 h2
theorem xY (tv:Value) (F:List Nat) (S:NS) (x:Nat) (w:World) (H:Hz w tv F S) (I:Fz S) (hal:S.al.length<90000) (h:place S x=none) :
 Calls Tryz.prog 74 #[tv,.int .u32 (x:Int)] w fun e w'=>e=.returned (.tuple #[.int .i64 0,.bool false])∧Bf [] w w':=by
 have hl:=I.len;exact a1p tv F S x w H I (by omega) h
end Go.Proofs.YtkbaaonchdeneaaGreat.Nm
namespace Go.Proofs.YtkbaaonchdeneaaGreat
theorem xZ {α:Type} (l:List α) (x:α):2 ^ Bl (setB l)≤l.length+1∧(l.length+1) % 2 ^ Bl (setB l)=0∧(l.length+1) % 2 ^ (Bl (setB l)+1)≠0:=by
 obtain ⟨h1,h2⟩:=Iq l;obtain ⟨h3,h4,h5⟩:=Uy _ _ h1 h2;obtain ⟨h6,h7⟩:=GU l x;generalize Bl (setB l)=t at *;have hp:=Nat.two_pow_pos t;have hpt:2 ^ (t+1)=2*2 ^ t:=by rw [Nat.pow_succ,Nat.mul_comm]
 have hr:=Jt l.length (t+1);have hle:l.length / 2 ^ (t+1)*2 ^ (t+1)≤l.length:=Nat.div_mul_le_self _ _;have hq:l.length / 2 ^ (t+1)*2 ^ (t+1)=l.length+1 - 2 ^ t:=by omega
 have hm:(l.length+1) % 2 ^ (t+1)=2 ^ t:=by
  have:=Nat.div_add_mod l.length (2 ^ (t+1));have e:l.length+1=2 ^ (t+1)*(l.length / 2 ^ (t+1))+2 ^ t:=by omega
  rw [e,Nat.mul_add_mod,Nat.mod_eq_of_lt (by omega)]
 refine ⟨by omega,?_,by omega⟩
 have:=Nat.div_add_mod (l.length+1) (2 ^ (t+1));rw [hm,hpt] at this
 have e:l.length+1=2 ^ t*(2*((l.length+1) / (2*2 ^ t))+1):=by
  rw [Nat.mul_add,Nat.mul_one,←Nat.mul_assoc,Nat.mul_comm (2 ^ t) 2];exact this.symm
 rw [e];exact Nat.mul_mod_right _ _
def wN:Nat→Nat
 |0=>0
 |n+1=>wN n+Nat.gcd (n+1) 512
def wG (n:Nat):Nat→Nat
 |0=>0
 |t+1=>wG n t+2 ^ t*((n+2 ^ t) / (2*2 ^ t))
theorem yc:∀n<402,wN n=wG n 9:=by decide +kernel
def a2f (n t:Nat):Bool:=!((n+1) % 2 ^ t==0&&(n+1) % 2 ^ (t+1) != 0)||Nat.gcd (n+1) 512==2 ^ t
theorem a1r:∀n<402,∀t<9,a2f n t=true:=by decide +kernel
theorem a1s (n:Nat) (hn:n<402) {α:Type} (l:List α) (hl:l.length=n) (x:α):2 ^ Bl (setB l)=Nat.gcd (n+1) 512:=by
 obtain ⟨h1,h2,h3⟩:=xZ l x;rw [hl] at h1 h2 h3
 have ht:Bl (setB l)<9:=by
  refine Nat.lt_of_not_le fun h=>?_
  have:=Nat.pow_le_pow_right (n:=2) (by omega) h;omega
 have:=a1r n hn _ ht;unfold a2f at this;simp [h2,h3] at this;exact this.symm
theorem a7u (n k p:Nat) (hk:k≤n) (hp:0<p):2*(p*((n+p) / (2*p)))≤2*(p*((k+p) / (2*p)))+(n - k)+2*p:=by
 have h1:2*p*((n+p) / (2*p))≤n+p:=Nat.mul_div_le _ _;have h2:=Nat.div_add_mod (k+p) (2*p);have h3:=Nat.mod_lt (k+p) (show 2*p > 0 by omega);rw [←Nat.mul_assoc,←Nat.mul_assoc];omega
theorem a7v (n p:Nat) (h:n<p):(n+p) / (2*p)=0:=Nat.div_eq_of_lt (by omega)
theorem rQ (n T T0:Nat) (h1:n<2 ^ (T+1)) (h2:2 ^ T0≤n):T0≤T:=by
 refine Nat.le_of_not_lt fun h=>?_
 have:=Nat.pow_le_pow_right (n:=2) (by omega) (show T+1≤T0 from h);omega
theorem nN (n k:Nat) (hk:k≤n):∀t,2*wG n t+2≤2*wG k t+(n - k)*t+2*2 ^ t
 |0=>by simp [wG]
 |t+1=>by
  have ih:=nN n k hk t;have h:=a7u n k (2 ^ t) hk (Nat.pow_pos (by omega));simp only [wG];rw [Nat.mul_add,Nat.mul_add,Nat.mul_add (n - k),Nat.mul_one,Nat.pow_succ];omega
theorem ZV (n s:Nat) (h:n<2 ^ s):∀t,wG n (s+t)=wG n s
 |0=>rfl
 |t+1=>by
  have h1:2 ^ s≤2 ^ (s+t):=Nat.pow_le_pow_right (by omega) (by omega);show wG n (s+t)+2 ^ (s+t)*((n+2 ^ (s+t)) / (2*2 ^ (s+t)))=wG n s
  rw [a7v n _ (by omega),ZV n s h t];omega
theorem a7w (T n k:Nat) (hk:k≤n) (hn:n<402) (hT:n<2 ^ (T+1)):2*wN n≤2*wN k+(n - k)*(T+1)+4*n:=by
 rw [yc n hn,yc k (by omega)];by_cases h0:n=0
 ·have:k=0:=by omega
  subst h0 this;omega
 ·have h1:=Nat.log2_self_le h0;have h2:=Nat.lt_log2_self (n:=n);have h3:=rQ n T _ hT h1;obtain ⟨L,hL⟩:=AO (Nat.log2 n);rw [hL] at h1 h2 h3
  have h8:L≤8:=by
   refine Nat.le_of_not_lt fun h=>?_
   have:=Nat.pow_le_pow_right (n:=2) (by omega) (show 9≤L from h);omega
  have e1:=ZV n (L+1) h2 (8 - L);have e2:=ZV k (L+1) (by omega) (8 - L);rw [show L+1+(8 - L)=9 by omega] at e1 e2;have h5:=nN n k hk (L+1);have h6:(n - k)*(L+1)≤(n - k)*(T+1):=Nat.mul_le_mul_left _ (by omega);rw [e1,e2];rw [Nat.pow_succ] at h5;omega
def BdN (n v wk A D:Nat):Prop:=∃k R a d,n=k+a∧v+d=n∧a≤A∧d≤D∧n≤A∧n≤2*v∧wk+wN k≤wN n+R∧
 ∀T,A+D<2 ^ (T+1)→2*R+4*k≤(A - a)*(T+1)+4*(A - a)+6*(D - d)
theorem a4I {n v wk A D:Nat} (h:BdN n v wk A D):BdN (n+1) (v+1) (wk+Nat.gcd (n+1) 512) (A+1) D:=by
 obtain ⟨k,R,a,d,h1,h2,h3,h4,h5,h6,h7,h8⟩:=h;refine ⟨k,R,a+1,d,by omega,by omega,by omega,h4,by omega,by omega,?_,fun T hT=>?_⟩
 ·show wk+Nat.gcd (n+1) 512+wN k≤wN n+Nat.gcd (n+1) 512+R
  omega
 ·have:=h8 T (by omega);rw [show A+1 - (a+1)=A - a by omega];exact this
theorem a1t {n v wk A D:Nat} (h:BdN n (v+1) wk A D) (hn:¬2*v<n):BdN n v wk A (D+1):=by
 obtain ⟨k,R,a,d,h1,h2,h3,h4,h5,h6,h7,h8⟩:=h;refine ⟨k,R,a,d+1,h1,by omega,h3,by omega,h5,by omega,h7,fun T hT=>?_⟩
 have:=h8 T (by omega);rw [show D+1 - (d+1)=D - d by omega];exact this
theorem a1u {n v wk A D:Nat} (h:BdN n (v+1) wk A D) (hn:2*v<n) (hl:n<402):BdN v v (wk+v) A (D+1):=by
 obtain ⟨k,R,a,d,h1,h2,h3,h4,h5,h6,h7,h8⟩:=h;refine ⟨v,wk+v,0,0,rfl,by omega,by omega,by omega,by omega,by omega,by omega,fun T hT=>?_⟩
 have e1:=h8 T (by omega);have e2:=a7w T n k (by omega) hl (by omega);rw [show n - k=a by omega] at e2;have e3:a*(T+1)+(A - a)*(T+1)=A*(T+1):=by rw [←Nat.add_mul];congr 1;omega
 rw [Nat.sub_zero,Nat.sub_zero];generalize a*(T+1)=p at *;generalize (A - a)*(T+1)=q at *;omega
section
variable {α:Type} [DecidableEq α]
def uo (S:HS α) (A D:Nat):Prop:=BdN S.cs.length (live S.al S.cs).length S.wk A D
theorem ZW {S:HS α} {A D:Nat} (h:uo S A D) (I:FK S) (x:α) (hm:S.cs.length<401):uo (Yq S x) (A+1) D:=by
 have e1:=YJ I x;have e2:=a1s S.cs.length (by omega) S.cs rfl (x,S.al.length);unfold uo;rw [e1,AY];show BdN (S.cs++[(x,S.al.length)]).length ((live S.al S.cs).length+1) (S.wk+2 ^ Bl (setB S.cs)) (A+1) D
 rw [AY,e2];exact a4I h
theorem XE {S:HS α} {A D:Nat} (h:uo S A D) (I:FK S) {x:α} {k:Nat} (hk:S.mp.lookup x=some (k:Int)) (hm:S.cs.length<402):uo (Dx S x k) A (D+1):=by
 have e2:=VX I hk;have e3:=YI I hk
 have e0:(Di (DN (view S) x)).length+1=(live S.al S.cs).length:=by
  have h1:=(I.core.drop1 hk).Oi;rw [Je I.core hk] at h1;have h1':(JA S.mp x).length=(Di (DN (view S) x)).length:=h1;have h2:=LX I.keys x;rw [hk] at h2;simp at h2;have h3:=I.core.Oi;rw [JD] at h3;omega
 unfold uo at h ⊢;rw [←JD (Dx S x k),←IL (Dx S x k),e2,e3];rw [←e0,←IL] at h;have hcl:(view S).length<402:=by rw [IL];omega
 have e4:(Di (KH (view S) x)).length=(Di (DN (view S) x)).length:=by rw [Ps.TQ,Ps.OC]
 have e5:(KH (view S) x).length=if 2*(Di (DN (view S) x)).length<(view S).length then (Di (DN (view S) x)).length else (view S).length:=by
  unfold KH;split
  ·rw [List.length_map]
  ·unfold DN;rw [List.length_map]
 rw [e4,e5];generalize (Di (DN (view S) x)).length=v at *;by_cases hv:2*v<(view S).length
 ·rw [if_pos hv,if_pos hv];exact a1u h hv hcl
 ·rw [if_neg hv,if_neg hv];exact a1t h hv
end
