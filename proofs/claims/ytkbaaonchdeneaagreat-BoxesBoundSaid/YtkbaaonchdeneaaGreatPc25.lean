/- Half in memory, over api.Box. Printed by mkhg.py. -/
import Derived.Test.YtkbaaonchdeneaaGreatPc22
import Derived.Test.YtkbaaonchdeneaaGreatPc23
import Derived.Test.YtkbaaonchdeneaaGreatPc24
namespace Go.Proofs.YtkbaaonchdeneaaGreat.Fv
open Go.RowKit
def CU (A B:List Nat):Prop:=∀x∈A,x∉B
theorem CU.symm {A B:List Nat} (h:CU A B):CU B A:=λx hx hc=>h x hc hx
theorem O8 {Ps:List (List Nat)} (h:Ps.Pairwise CU) {i j:Nat} {G H:List Nat} (hi:Ps[i]? = some G) (hj:Ps[j]? = some H) (hne:i≠j):CU G H:=by
 rw [List.pairwise_iff_getElem] at h;obtain ⟨li,ei⟩:=AZ hi;obtain ⟨lj,ej⟩:=AZ hj;rcases Nat.lt_or_gt_of_ne hne with h3 | h3
 ·have:=h i j li lj h3;rwa [ei,ej] at this
 ·have:=h j i lj li h3;rw [ei,ej] at this;exact this.symm
theorem Gz {Ps:List (List Nat)} (h:Ps.Pairwise CU) {N:Nat} (hlt:∀P∈Ps,∀x∈P,x<N) {i:Nat} {G G':List Nat} (hi:Ps[i]? = some G) (hG:∀x∈G',x∈G\/N<=x):(Ps.set i G').Pairwise CU:=by
 have key:∀j,j<Ps.length->j≠i->∀(hj:j<Ps.length),CU G' Ps[j]:=by
  intro j hj hne hj' x hx hc;rcases hG x hx with h1 | h1
  ·exact O8 h hi (Ba hj') (Ne.symm hne) x h1 hc
  ·have:=hlt _ (List.getElem_mem hj') x hc;omega
 rw [List.pairwise_iff_getElem] at h |-;intro a b ha hb hab;rw [List.length_set] at ha hb;rw [List.getElem_set,List.getElem_set];split
 ·rename_i e1
  split
  ·omega
  ·exact key b hb (by omega) hb
 ·rename_i e1
  split
  ·exact (key a ha (by omega) ha).symm
  ·exact h a b ha hb hab
theorem zA {Ps:List (List Nat)} (h:Ps.Pairwise CU):(Ps++[[]]).Pairwise CU:=by
 rw [List.pairwise_append];refine ⟨h,by simp,λa _ b hb=>?_⟩
 simp at hb;subst hb;intro x _;simp
def F7:Value:=.func (.func 56) #[] #[]
def GX:Value:=.func (.func 57) #[] #[]
def boolRow (w:World) (v:Value) (l:List Bool):Prop:=w.ownsRow 0 4 1 v l.length (l.map .bool)
def Jp (w:World) (v:Value) (l:List Nat):Prop:=w.ownsRow 0 3 1 v l.length (l.map λ(n:Nat)=>.int .i64 (n:Int))
def Ql (w:World) (v:Value) (ps:List TV):Prop:=KT.row w 0 v ps
def parts (h:Nat) (Fc:List Nat) (tv av DI:Value) (mb:Nat) (Fs:List (List Nat)):List (List Nat):=[h]::Fc::blk tv::blk av::blk DI::[mb]::Fs
structure BN (w:World) (h cb mb:Nat) (tv av DI:Value) (ps:List TV) (Fc:List Nat) (Fs:List (List Nat)) (S:HS Bx):Prop where
 head:w.heap[h]? = some (.cells #[F7,GX,.pointer (some cb),tv,av,DI,.map (some mb)] 165 (0,0))
 Om:Dc O7.KI w cb Fc (setB S.cs) S.cs.length S.wk
 IV:Ql w tv ps
 FK:boolRow w av S.al
 Mc:Jp w DI S.lv
 Md:MBx.MapAt w mb S.mp
 Lc:ps.length=S.tr.length
 Ld:Fs.length=S.tr.length
 no:∀i:Nat,S.tr[i]? = some none->Fs[i]? = some []
 yes:∀(i:Nat) (l:Nat×List Bx),S.tr[i]? = some (some l)->∃p F,ps[i]? = some p/\Fs[i]? = some F/\Jo w p l F
 apart:(parts h Fc tv av DI mb Fs).Pairwise CU
def BO (w:World) (hv:Value) (F:List Nat) (S:HS Bx):Prop:=
 ∃h cb mb tv av DI ps Fc Fs,hv=.pointer (some ⟨h,0,none⟩)/\BN w h cb mb tv av DI ps Fc Fs S/\F=(parts h Fc tv av DI mb Fs).flatten
variable {w w':World} {h cb mb:Nat} {tv av DI:Value} {ps:List TV} {Fc:List Nat} {Fs:List (List Nat)} {S:HS Bx}
theorem BN.ltF (H:BN w h cb mb tv av DI ps Fc Fs S):∀F∈Fs,∀x∈F,x<w.heap.size:=by
 intro F hF x hx;obtain ⟨i,hi⟩:=List.mem_iff_getElem?.1 hF;have hl:i<S.tr.length:=by rw [<-H.Ld];exact (AZ hi).1
 cases ht:S.tr[i]? with
 |none=>rw [List.getElem?_eq_none_iff] at ht;omega
 |some o=>
  cases o with
  |none=>
   have:=H.no i ht;rw [hi] at this
   cases this
   simp at hx
  |some l=>
   obtain ⟨p,F',_,hF',hb⟩:=H.yes i l ht;rw [hi] at hF'
   cases hF'
   exact hb.lt x hx
theorem BN.lt (H:BN w h cb mb tv av DI ps Fc Fs S):∀P∈parts h Fc tv av DI mb Fs,∀x∈P,x<w.heap.size:=by
 intro P hP x hx;simp only [parts,List.mem_cons] at hP;rcases hP with rfl | rfl | rfl | rfl | rfl | rfl | hP
 ·simp at hx;subst hx;exact lt_of_block H.head
 ·exact H.Om.lt x hx
 ·exact BJ H.IV x hx
 ·exact BJ H.FK x hx
 ·exact BJ H.Mc x hx
 ·simp at hx;subst hx;exact H.Md.lt
 ·exact H.ltF P hP x hx
theorem BN.cell (H:BN w h cb mb tv av DI ps Fc Fs S):w.cell? h=some F7/\w.cell? ⟨h,1,none⟩=some GX/\w.cell? ⟨h,2,none⟩=some (.pointer (some cb))/\w.cell? ⟨h,3,none⟩=some tv/\w.cell? ⟨h,4,none⟩=some av/\
 w.cell? ⟨h,5,none⟩=some DI/\w.cell? ⟨h,6,none⟩=some (.map (some mb))/\∀j,w.frozen? ⟨h,j,none⟩=false:=by
 refine ⟨?_,?_,?_,?_,?_,?_,?_,λj=>frozen_of_row w h j _ _ H.head⟩<;>simp [World.cell?,H.head]
theorem BN.rQ (H:BN w h cb mb tv av DI ps Fc Fs S) {G:List Nat} (hu:Bj G w w') (hd:∀F∈Fs,CU F G):∀(i:Nat) (l:Nat×List Bx),S.tr[i]? = some (some l)->∃p F,ps[i]? = some p/\Fs[i]? = some F/\Jo w' p l F:=by
 intro i l ht;obtain ⟨p,F,h1,h2,h3⟩:=H.yes i l ht;exact ⟨p,F,h1,h2,h3.upd hu (hd F (List.mem_of_getElem? h2))⟩
theorem BN.upd (H:BN w h cb mb tv av DI ps Fc Fs S) {G:List Nat} (hu:Bj G w w') (hd:∀P∈parts h Fc tv av DI mb Fs,CU P G):BN w' h cb mb tv av DI ps Fc Fs S:=by
 have hp:∀P,P∈parts h Fc tv av DI mb Fs->CU P G:=hd;simp only [parts,List.mem_cons] at hp
 refine ⟨(hu.block h (lt_of_block H.head) (hp [h] (by simp) h (by simp))).trans H.head,H.Om.upd hu (hp Fc (by simp)),Bl H.IV hu (hp _ (by simp)),Bl H.FK hu (hp _ (by simp)),Bl H.Mc hu (hp _ (by simp)),
  H.Md.upd hu (hp [mb] (by simp) mb (by simp)),H.Lc,H.Ld,H.no,H.rQ hu λF hF=>hp F (by simp [hF]),H.apart⟩
theorem BN.E5 (H:BN w h cb mb tv av DI ps Fc Fs S) {i j:Nat} {P Q:List Nat} (hi:(parts h Fc tv av DI mb Fs)[i]? = some P) (hj:(parts h Fc tv av DI mb Fs)[j]? = some Q) (hne:i≠j):CU P Q:=O8 H.apart hi hj hne
theorem BN.zB (H:BN w h cb mb tv av DI ps Fc Fs S) {i:Nat} {P:List Nat} (hi:i<6) (hP:(parts h Fc tv av DI mb Fs)[i]? = some P):∀F∈Fs,CU F P:=by
 intro F hF;obtain ⟨j,hj⟩:=List.mem_iff_getElem?.1 hF;exact H.E5 (i:=j+6) (j:=i) (by simpa [parts] using hj) hP (by omega)
theorem BN.carry (H:BN w h cb mb tv av DI ps Fc Fs S) {gU:List Nat} {cs:List (Bx×Nat)} {wk:Nat} (hc:Dc O7.KI w' cb gU (setB cs) cs.length wk) (hu:Bj Fc w w') (hF:∀x∈gU,x∈Fc\/w.heap.size<=x) :
 BN w' h cb mb tv av DI ps gU Fs { S with cs:=cs,wk:=wk }:=by
 have d:∀(j:Nat) (Q:List Nat),j≠1->(parts h Fc tv av DI mb Fs)[j]? = some Q->CU Q Fc:=λj Q hne hj=>H.E5 hj (j:=1) rfl hne
 refine ⟨(hu.block h (lt_of_block H.head) (d 0 [h] (by omega) rfl h (by simp))).trans H.head,hc,Bl H.IV hu (d 2 _ (by omega) rfl),Bl H.FK hu (d 3 _ (by omega) rfl),Bl H.Mc hu (d 4 _ (by omega) rfl),
  H.Md.upd hu (d 5 [mb] (by omega) rfl mb (by simp)),H.Lc,H.Ld,H.no,H.rQ hu (H.zB (i:=1) (by omega) rfl),?_⟩
 exact Gz (i:=1) H.apart H.lt rfl hF
theorem BN.map (H:BN w h cb mb tv av DI ps Fc Fs S) {m:List (Bx×Int)} (hm:MBx.MapAt w' mb m) (hu:Bj [mb] w w'):BN w' h cb mb tv av DI ps Fc Fs { S with mp:=m }:=by
 have d:∀(j:Nat) (Q:List Nat),j≠5->(parts h Fc tv av DI mb Fs)[j]? = some Q->CU Q [mb]:=λj Q hne hj=>H.E5 hj (j:=5) rfl hne
 refine ⟨(hu.block h (lt_of_block H.head) (d 0 [h] (by omega) rfl h (by simp))).trans H.head,H.Om.upd hu (d 1 _ (by omega) rfl),Bl H.IV hu (d 2 _ (by omega) rfl),Bl H.FK hu (d 3 _ (by omega) rfl),Bl H.Mc hu (d 4 _ (by omega) rfl),
  hm,H.Lc,H.Ld,H.no,H.rQ hu (H.zB (i:=5) (by omega) rfl),H.apart⟩
theorem BN.dead (H:BN w h cb mb tv av DI ps Fc Fs S) {q n C:Nat} (ha:av=.slice (some ⟨q,0,none⟩) n C) (k:Nat) (b:Bool):BN (w.setCell ⟨q,k,none⟩ (.bool b)) h cb mb tv av DI ps Fc Fs { S with al:=S.al.set k b }:=by
 subst ha;have hu:Bj [q] w (w.setCell ⟨q,k,none⟩ (.bool b)):=(Bj.refl _ _).setCell (p:=⟨q,k,none⟩) (.inl (by simp)) _;have d:∀(j:Nat) (Q:List Nat),j≠3->(parts h Fc tv (.slice (some ⟨q,0,none⟩) n C) DI mb Fs)[j]? = some Q->CU Q [q]:=λj Q hne hj=>H.E5 hj (j:=3) rfl hne
 have hn:n=S.al.length:=by
  obtain ⟨A',C',he⟩:=BD H.FK
  cases he;rfl
 subst hn
 refine ⟨(hu.block h (lt_of_block H.head) (d 0 [h] (by omega) rfl h (by simp))).trans H.head,H.Om.upd hu (d 1 _ (by omega) rfl),Bl H.IV hu (d 2 _ (by omega) rfl),?_,Bl H.Mc hu (d 4 _ (by omega) rfl),
  H.Md.upd hu (d 5 [mb] (by omega) rfl mb (by simp)),H.Lc,H.Ld,H.no,H.rQ hu (H.zB (i:=3) (by omega) rfl),H.apart⟩
 have:=(World.ownsRow.stored H.FK k (.bool b)).1;unfold boolRow;rw [List.length_set,List.map_set];exact this
theorem BN.lev (H:BN w h cb mb tv av DI ps Fc Fs S) {q n C:Nat} (ha:DI=.slice (some ⟨q,0,none⟩) n C) (k t:Nat):BN (w.setCell ⟨q,k,none⟩ (.int .i64 (t:Int))) h cb mb tv av DI ps Fc Fs { S with lv:=S.lv.set k t }:=by
 subst ha;have hu:Bj [q] w (w.setCell ⟨q,k,none⟩ (.int .i64 (t:Int))):=(Bj.refl _ _).setCell (p:=⟨q,k,none⟩) (.inl (by simp)) _;have d:∀(j:Nat) (Q:List Nat),j≠4->(parts h Fc tv av (.slice (some ⟨q,0,none⟩) n C) mb Fs)[j]? = some Q->CU Q [q]:=λj Q hne hj=>H.E5 hj (j:=4) rfl hne
 have hn:n=S.lv.length:=by
  obtain ⟨A',C',he⟩:=BD H.Mc
  cases he;rfl
 subst hn
 refine ⟨(hu.block h (lt_of_block H.head) (d 0 [h] (by omega) rfl h (by simp))).trans H.head,H.Om.upd hu (d 1 _ (by omega) rfl),Bl H.IV hu (d 2 _ (by omega) rfl),Bl H.FK hu (d 3 _ (by omega) rfl),?_,
  H.Md.upd hu (d 5 [mb] (by omega) rfl mb (by simp)),H.Lc,H.Ld,H.no,H.rQ hu (H.zB (i:=4) (by omega) rfl),H.apart⟩
 have:=(World.ownsRow.stored H.Mc k (.int .i64 (t:Int))).1;unfold Jp;rw [List.length_set,List.map_set];exact this
theorem BN.bag (H:BN w h cb mb tv av DI ps Fc Fs S) {i:Nat} {p:TV} {l':Nat×List Bx} {F F':List Nat} (hp:ps[i]? = some p) (hF:Fs[i]? = some F) (hb:Jo w' p l' F') (hu:Bj F w w') (hn:∀x∈F',x∈F\/w.heap.size<=x) :
 BN w' h cb mb tv av DI ps Fc (Fs.set i F') { S with tr:=S.tr.set i (some l') }:=by
 have hi:(parts h Fc tv av DI mb Fs)[i+6]? = some F:=by simpa [parts] using hF
 have d:∀(j:Nat) (Q:List Nat),j<6->(parts h Fc tv av DI mb Fs)[j]? = some Q->CU Q F:=λj Q hne hj=>H.E5 hj hi (by omega)
 have aT:i<S.tr.length:=by rw [<-H.Ld];exact (AZ hF).1
 refine ⟨(hu.block h (lt_of_block H.head) (d 0 [h] (by omega) rfl h (by simp))).trans H.head,H.Om.upd hu (d 1 _ (by omega) rfl),Bl H.IV hu (d 2 _ (by omega) rfl),Bl H.FK hu (d 3 _ (by omega) rfl),Bl H.Mc hu (d 4 _ (by omega) rfl),
  H.Md.upd hu (d 5 [mb] (by omega) rfl mb (by simp)),by rw [H.Lc,List.length_set],by rw [List.length_set,H.Ld,List.length_set],?_,?_,?_⟩
 ·intro j hj;by_cases e:i=j
  ·subst e;rw [List.getElem?_set_self aT] at hj
   cases hj
  ·rw [List.getElem?_set_ne e] at hj |-;exact H.no j hj
 ·intro j l hj;by_cases e:i=j
  ·subst e;rw [List.getElem?_set_self aT] at hj
   cases hj
   exact ⟨p,F',hp,by rw [List.getElem?_set_self (by rw [H.Ld];exact aT)],hb⟩
  ·rw [List.getElem?_set_ne e] at hj |-;obtain ⟨p',F'',h1,h2,h3⟩:=H.yes j l hj;exact ⟨p',F'',h1,h2,h3.upd hu (H.E5 (i:=j+6) (by simpa [parts] using h2) hi (by omega))⟩
 ·have:=Gz (i:=i+6) H.apart H.lt hi hn;simpa [parts] using this
theorem BN.tree (H:BN w h cb mb tv av DI ps Fc Fs S) {q n C:Nat} (ht:tv=.slice (some ⟨q,0,none⟩) n C) {i:Nat} (hi:i<S.tr.length) {p:TV} {F:List Nat} (ol:Option (Nat×List Bx))
 (hp:(ol=none/\F = [])\/∃l,ol=some l/\Jo w p l F) (hF:∀P∈parts h Fc tv av DI mb Fs,CU F P) :
 BN ((w.setCell ⟨q,i*2,none⟩ (tp p.1)).setCell ⟨q,i*2+1,none⟩ (tq p.2)) h cb mb tv av DI (ps.set i p) Fc (Fs.set i F) { S with tr:=S.tr.set i ol }:=by
 subst ht;have hu:Bj [q] w ((w.setCell ⟨q,i*2,none⟩ (tp p.1)).setCell ⟨q,i*2+1,none⟩ (tq p.2)):=((Bj.refl _ _).setCell (p:=⟨q,i*2,none⟩) (.inl (by simp)) _).setCell (p:=⟨q,i*2+1,none⟩) (.inl (by simp)) _;have d:∀(j:Nat) (Q:List Nat),j≠2->(parts h Fc (.slice (some ⟨q,0,none⟩) n C) av DI mb Fs)[j]? = some Q->CU Q [q]:=λj Q hne hj=>H.E5 hj (j:=2) rfl hne
 have hn:n=ps.length:=by
  obtain ⟨A',C',he⟩:=BD H.IV
  cases he;rfl
 subst hn
 have hF2:CU F [q]:=by
  have:=hF (blk (.slice (some ⟨q,0,none⟩) ps.length C)) (by simp [parts]);simpa [blk] using this
 refine ⟨(hu.block h (lt_of_block H.head) (d 0 [h] (by omega) rfl h (by simp))).trans H.head,H.Om.upd hu (d 1 _ (by omega) rfl),?_,Bl H.FK hu (d 3 _ (by omega) rfl),Bl H.Mc hu (d 4 _ (by omega) rfl),
  H.Md.upd hu (d 5 [mb] (by omega) rfl mb (by simp)),by rw [List.length_set,H.Lc,List.length_set],by rw [List.length_set,H.Ld,List.length_set],?_,?_,?_⟩
 ·have h1:=(World.ownsRow.stored H.IV (i*2) (tp p.1)).1;have h2:=(World.ownsRow.stored h1 (i*2+1) (tq p.2)).1;unfold Ql Kind.row;rw [List.length_set,a1X ps p i (by rw [H.Lc];exact hi)];exact h2
 ·intro j hj;by_cases e:i=j
  ·subst e;rw [List.getElem?_set_self hi] at hj;rw [List.getElem?_set_self (by rw [H.Ld];exact hi)];rcases hp with ⟨_,h2⟩ | ⟨l,h2,_⟩
   ·rw [h2]
   ·rw [h2] at hj;cases hj
  ·rw [List.getElem?_set_ne e] at hj |-;exact H.no j hj
 ·intro j l hj;by_cases e:i=j
  ·subst e;rw [List.getElem?_set_self hi] at hj;rcases hp with ⟨h2,_⟩ | ⟨l',h2,h3⟩
   ·rw [h2] at hj;cases hj
   ·rw [h2] at hj
    cases hj
    exact ⟨p,F,by rw [List.getElem?_set_self (by rw [H.Lc];exact hi)],by rw [List.getElem?_set_self (by rw [H.Ld];exact hi)],h3.upd hu hF2⟩
  ·rw [List.getElem?_set_ne e] at hj |-;rw [List.getElem?_set_ne e];obtain ⟨p',F'',h1,h2,h3⟩:=H.yes j l hj;exact ⟨p',F'',h1,h2,h3.upd hu (d (j+6) _ (by omega) (by simpa [parts] using h2))⟩
 ·have h0:=H.apart;have key:∀j (hj:j<(parts h Fc (.slice (some ⟨q,0,none⟩) ps.length C) av DI mb Fs).length),CU F (parts h Fc (.slice (some ⟨q,0,none⟩) ps.length C) av DI mb Fs)[j]:=λj hj=>hF _ (List.getElem_mem hj)
  have hset:parts h Fc (.slice (some ⟨q,0,none⟩) ps.length C) av DI mb (Fs.set i F)=(parts h Fc (.slice (some ⟨q,0,none⟩) ps.length C) av DI mb Fs).set (i+6) F:=by simp [parts]
  rw [hset];rw [List.pairwise_iff_getElem] at h0 |-;intro a b ha hb hab;rw [List.length_set] at ha hb;rw [List.getElem_set,List.getElem_set];split
  ·split
   ·omega
   ·exact key b hb
  ·split
   ·exact (key a ha).symm
   ·exact h0 a b ha hb hab
theorem Xp {Ps:List (List Nat)} (h:Ps.Pairwise CU) {i:Nat} {G':List Nat} (hG:∀j (hj:j<Ps.length),j≠i->CU G' Ps[j]):(Ps.set i G').Pairwise CU:=by
 rw [List.pairwise_iff_getElem] at h |-;intro a b ha hb hab;rw [List.length_set] at ha hb;rw [List.getElem_set,List.getElem_set];split
 ·split
  ·omega
  ·exact hG b hb (by omega)
 ·split
  ·exact (hG a ha (by omega)).symm
  ·exact h a b ha hb hab
theorem Nj {w:World} {b1 b2:Nat} {e1 e2:TypeId} {s1 s2:Nat} {v1 v2:Value} {n1 n2:Nat} {x1 x2:List Value} (h1:w.ownsRow b1 e1 s1 v1 n1 x1) (h2:w.ownsRow b2 e2 s2 v2 n2 x2) (hne:e1≠e2):CU (blk v1) (blk v2):=by
 intro x hx hc;rcases h1.2 with ⟨rfl,_⟩ | ⟨g1,c1,k1,rfl,_,g,_⟩
 ·simp [blk] at hx
 ·rcases h2.2 with ⟨rfl,_⟩ | ⟨g2,c2,k2,rfl,_,g',_⟩
  ·simp [blk] at hc
  ·simp [blk] at hx hc;subst hx;rw [hc] at g;rw [g] at g';injection g' with g';injection g' with g1 g2;exact hne g2
variable {w w':World} {h cb mb:Nat} {tv av DI:Value} {ps:List TV} {Fc:List Nat} {Fs:List (List Nat)} {S:HS Bx}
theorem J9 {w:World} {b:Nat} {e:TypeId} {A:Option Addr} {n m C:Nat} {xs:List Value} (h:w.ownsRow b e 1 (.slice A m C) n xs) {k:Nat} (hk:k<n) {u:Value} (hu:xs[k]? = some u) :
 ∃q,A=some ⟨q,0,none⟩/\w.cell? ⟨q,k,none⟩=some u/\w.frozen? ⟨q,k,none⟩=false/\n<=C/\q<w.heap.size:=by
 obtain ⟨q,cap,he,_,hlt⟩:=World.ownsRow.form h (by omega)
 cases he
 refine ⟨q,rfl,?_,World.ownsRow.frozenAt h k,?_,hlt⟩
 ·have:=World.ownsRow.cells h (g:=q) rfl k u hu;rwa [addr_add,Nat.zero_add] at this
 ·rcases h.2 with ⟨h0,_⟩ | ⟨g',cap,cur,h0,_,_,h5,_⟩
  ·cases h0
  ·cases h0;exact h5
theorem BN.trees (H:BN w h cb mb tv av DI ps Fc Fs S) {tv':Value} {ps':List TV} {Fs':List (List Nat)} {tr':List (Option (Nat×List Bx))} (hu:Bj (h::blk tv) w w')
 (hh:w'.heap[h]? = some (.cells #[F7,GX,.pointer (some cb),tv',av,DI,.map (some mb)] 165 (0,0)))
 (ht:Ql w' tv' ps') (hb:∀x∈blk tv',x∈blk tv\/w.heap.size<=x) (hp:ps'.length=tr'.length) (hf:Fs'.length=tr'.length) (h0:∀i:Nat,tr'[i]? = some none->Fs'[i]? = some [])
 (hy:∀(i:Nat) (l:Nat×List Bx),tr'[i]? = some (some l)->S.tr[i]? = some (some l)/\ps'[i]? = ps[i]?/\Fs'[i]? = Fs[i]?) (ha:(parts h Fc tv av DI mb Fs').Pairwise CU) (hs:∀F∈Fs',∀x∈F,x<w.heap.size) :
 BN w' h cb mb tv' av DI ps' Fc Fs' { S with tr:=tr' }:=by
 have d:∀(j:Nat) (Q:List Nat),j≠0->j≠2->(parts h Fc tv av DI mb Fs)[j]? = some Q->CU Q (h::blk tv):=by
  intro j Q h0 h2 hj x hx hc;rcases List.mem_cons.1 hc with rfl | hc
  ·exact H.E5 hj (j:=0) rfl h0 x hx (by simp)
  ·exact H.E5 hj (j:=2) rfl h2 x hx hc
 have ltp:∀P∈parts h Fc tv av DI mb Fs',∀x∈P,x<w.heap.size:=by
  intro P hP x hx;simp only [parts,List.mem_cons] at hP;rcases hP with e | e | e | e | e | e | hP
  ·exact H.lt P (by simp [parts,e]) x hx
  ·exact H.lt P (by simp [parts,e]) x hx
  ·exact H.lt P (by simp [parts,e]) x hx
  ·exact H.lt P (by simp [parts,e]) x hx
  ·exact H.lt P (by simp [parts,e]) x hx
  ·exact H.lt P (by simp [parts,e]) x hx
  ·exact hs P hP x hx
 refine ⟨hh,H.Om.upd hu (d 1 _ (by omega) (by omega) rfl),ht,Bl H.FK hu (d 3 _ (by omega) (by omega) rfl),Bl H.Mc hu (d 4 _ (by omega) (by omega) rfl),
  H.Md.upd hu (d 5 [mb] (by omega) (by omega) rfl mb (by simp)),hp,hf,h0,?_,Gz (i:=2) ha ltp rfl hb⟩
 intro i l hi;obtain ⟨e1,e2,e3⟩:=hy i l hi;obtain ⟨p,F,f1,f2,f3⟩:=H.yes i l e1;exact ⟨p,F,by rw [e2];exact f1,by rw [e3];exact f2,f3.upd hu (d (i+6) _ (by omega) (by omega) (by simpa [parts] using f2))⟩
theorem BN.rows (H:BN w h cb mb tv av DI ps Fc Fs S) {oh lv':Value} {al:List Bool} {lv:List Nat} (hu:Bj (h::(blk av++blk DI)) w w')
 (hh:w'.heap[h]? = some (.cells #[F7,GX,.pointer (some cb),tv,oh,lv',.map (some mb)] 165 (0,0)))
 (ha:boolRow w' oh al) (hl:Jp w' lv' lv) (hba:∀x∈blk oh,x∈blk av\/w.heap.size<=x) (hbl:∀x∈blk lv',x∈blk DI\/w.heap.size<=x) :
 BN w' h cb mb tv oh lv' ps Fc Fs { S with al:=al,lv:=lv }:=by
 have d:∀(j:Nat) (Q:List Nat),j≠0->j≠3->j≠4->(parts h Fc tv av DI mb Fs)[j]? = some Q->CU Q (h::(blk av++blk DI)):=by
  intro j Q h0 h3 h4 hj x hx hc;rcases List.mem_cons.1 hc with rfl | hc
  ·exact H.E5 hj (j:=0) rfl h0 x hx (by simp)
  ·rcases List.mem_append.1 hc with hc | hc
   ·exact H.E5 hj (j:=3) rfl h3 x hx hc
   ·exact H.E5 hj (j:=4) rfl h4 x hx hc
 refine ⟨hh,H.Om.upd hu (d 1 _ (by omega) (by omega) (by omega) rfl),Bl H.IV hu (d 2 _ (by omega) (by omega) (by omega) rfl),ha,hl,H.Md.upd hu (d 5 [mb] (by omega) (by omega) (by omega) rfl mb (by simp)),H.Lc,H.Ld,H.no,?_,?_⟩
 ·intro i l hi;obtain ⟨p,F,f1,f2,f3⟩:=H.yes i l hi;exact ⟨p,F,f1,f2,f3.upd hu (d (i+6) _ (by omega) (by omega) (by omega) (by simpa [parts] using f2))⟩
 ·have h1:((parts h Fc tv av DI mb Fs).set 3 (blk oh)).Pairwise CU:=Gz H.apart H.lt rfl hba
  have h2:(((parts h Fc tv av DI mb Fs).set 3 (blk oh)).set 4 (blk lv')).Pairwise CU:=by
   refine Xp h1 λj hj hne x hx hc=>?_
   rw [List.getElem_set] at hc;split at hc
   ·exact Nj hl ha (by decide) x hx hc
   ·rw [List.length_set] at hj;rcases hbl x hx with g | g
    ·exact H.E5 (i:=4) (j:=j) rfl (Ba hj) (Ne.symm hne) x g hc
    ·have:=H.lt _ (List.getElem_mem hj) x hc;omega
  simpa [parts] using h2
def Cc (w w':World) (hv:Value) (F:List Nat) (S:HS Bx):Prop:=∃F',BO w' hv F' S/\Bj F w w'/\∀x∈F',x∈F\/w.heap.size<=x
theorem BO.lt {hv:Value} {F:List Nat} (H:BO w hv F S):∀x∈F,x<w.heap.size:=by
 obtain ⟨h,cb,mb,tv,av,DI,ps,Fc,Fs,rfl,H,rfl⟩:=H;intro x hx;obtain ⟨P,hP,hx⟩:=List.mem_flatten.1 hx;exact H.lt P hP x hx
theorem BO.upd {hv:Value} {F G:List Nat} (H:BO w hv F S) (hu:Bj G w w') (hd:∀x∈F,x∉G):BO w' hv F S:=by
 obtain ⟨h,cb,mb,tv,av,DI,ps,Fc,Fs,rfl,H,rfl⟩:=H;exact ⟨h,cb,mb,tv,av,DI,ps,Fc,Fs,rfl,H.upd hu λP hP x hx=>hd x (List.mem_flatten.2 ⟨P,hP,hx⟩),rfl⟩
theorem Cc.refl {hv:Value} {F:List Nat} (H:BO w hv F S):Cc w w hv F S:=⟨F,H,Bj.refl _ _,λ_ hx=>.inl hx⟩
theorem Cc.trans {w'':World} {hv:Value} {F:List Nat} {S':HS Bx} (H:Cc w w' hv F S) (K:∀F',BO w' hv F' S->Cc w' w'' hv F' S'):Cc w w'' hv F S':=by
 obtain ⟨F',h1,h2,h3⟩:=H;obtain ⟨F'',g1,g2,g3⟩:=K F' h1;refine ⟨F'',g1,h2.trans' g2 h3,λx hx=>?_⟩
 rcases g3 x hx with g | g
 ·exact h3 x g
 ·exact .inr (Bh h2.size g)
theorem Cc.next {w'':World} {hv:Value} {F F1:List Nat} {S':HS Bx} (hu:Bj F w w') (hF:∀x∈F1,x∈F\/w.heap.size<=x) (K:Cc w' w'' hv F1 S'):Cc w w'' hv F S':=by
 obtain ⟨F'',g1,g2,g3⟩:=K;refine ⟨F'',g1,hu.trans' g2 hF,λx hx=>?_⟩
 rcases g3 x hx with g | g
 ·exact hF x g
 ·exact .inr (Bh hu.size g)
theorem Ed {Ps:List (List Nat)} {i:Nat} {G':List Nat} {x:Nat} (h:x∈(Ps.set i G').flatten):x∈Ps.flatten\/x∈G':=by
 obtain ⟨P,hP,hx⟩:=List.mem_flatten.1 h;rcases List.mem_or_eq_of_mem_set hP with h1 | h1
 ·exact .inl (List.mem_flatten.2 ⟨P,h1,hx⟩)
 ·rw [h1] at hx;exact .inr hx
theorem Bz {Ps:List (List Nat)} {i:Nat} {P:List Nat} {x:Nat} (hi:Ps[i]? = some P) (hx:x∈P):x∈Ps.flatten:=List.mem_flatten.2 ⟨P,List.mem_of_getElem? hi,hx⟩
theorem Cc.quiet {w'':World} {hv:Value} {F:List Nat} (H:Cc w w' hv F S) (hu:Bj [] w' w''):Cc w w'' hv F S:=
 H.trans λF' h=>⟨F',h.upd hu (by simp),hu.mono (by simp),λx hx=>.inl hx⟩
theorem RU {w:World} {A:Option Addr} {n C:Nat} {ps:List TV} (h:Ql w (.slice A n C) ps) {i:Nat} {p:TV} (hp:ps[i]? = some p) :
 ∃q,A=some ⟨q,0,none⟩/\w.cell? ⟨q,i*2,none⟩=some (tp p.1)/\w.cell? ⟨q,i*2+1,none⟩=some (tq p.2)/\(∀j,w.frozen? ⟨q,j,none⟩=false)/\q<w.heap.size:=by
 obtain ⟨hi,he⟩:=AZ hp;obtain ⟨q,cap,hA,_,hlt⟩:=World.ownsRow.form h (by omega)
 cases hA
 have g:∀j u,(KT.enc p)[j]? = some u->w.cell? ⟨q,i*2+j,none⟩=some u:=λj u hu=>by
  have h1:=KT.MR ps i j hi u (by rw [he];exact hu);have h2:=World.ownsRow.cells h (g:=q) rfl _ _ h1;rwa [addr_add,Nat.zero_add] at h2
 exact ⟨q,rfl,g 0 _ rfl,g 1 _ rfl,λj=>World.ownsRow.frozenAt h j,hlt⟩
