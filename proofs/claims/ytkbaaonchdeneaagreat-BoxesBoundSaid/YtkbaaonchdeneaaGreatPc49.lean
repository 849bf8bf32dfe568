/- Areas of boxes that are moved, turned about, seen in a mirror. No program. How many nodes are -/
import Derived.Test.YtkbaaonchdeneaaGreatPc47
import Derived.Test.YtkbaaonchdeneaaGreatPc48
set_option maxHeartbeats 8000000
set_option maxRecDepth 100000
namespace Go.Proofs.YtkbaaonchdeneaaGreat
section
def Within (l:List Bx) (a b c d:Int):Prop:=∀s∈l,s.counts=true->a<=s.x1/\s.x2<=b/\c<=s.y1/\s.y2<=d
theorem Zi {l m:List Bx} (h:∀x y,Dq l x y=Dq m x y):GN l=GN m:=X7 h
end
section
theorem Wp (l:List Bx):CG (Fq (BX l)) (BL l)=((l.filter Bx.counts).map λb=>2*Ky (CJ (Fq (BX l)) b.y1 b.y2) ((Fq (BX l)).length - 1)).sum:=by
 obtain ⟨Y,hY⟩:=AU (Fq (BX l));rw [hY];unfold CG BL;obtain ⟨L,hL⟩:=AU (l.filter Bx.counts);rw [hL];clear hL hY;induction L with
 |nil=>rfl
 |cons b L ih=>
  rw [List.flatMap_cons,List.map_append,List.sum_append_nat,ih];simp only [List.map_cons,List.map_nil,List.sum_cons,List.sum_nil];unfold SC;dsimp only;omega
def Ii (b:Bx):Bx:=⟨b.y1,b.y2,b.x1,b.x2,0⟩
theorem iV (l:List Bx) (x y:Int):Dq (l.map Ii) y x=Dq l x y:=by
 unfold Dq;rw [List.any_map];refine any_congr λb _=>?_
 simp only [Function.comp];unfold Ii Bx.cell;rw [Bool.eq_iff_iff];simp only [decide_eq_true_eq];omega
end
section
def EO (c:Int->Bool) (a b:Int):Int:=Gj (λy=>ind (c y != c (y - 1))) a b
def chg:Bool->List Bool->Int
 |p,[]=>ind p
 |p,g::G=>ind (p != g)+chg g G
theorem Zj:∀(G:List Bool) (p:Bool),chg p G=2*(Fj p G:Int)+ind p
 | [],p=>by simp [chg,Fj]
 |g::G,p=>by
  rw [chg,Fj,Zj G g,Int.natCast_add]
  cases p<;>cases g<;>simp [ind]<;>omega
theorem UN {c:Int->Bool} {p q a b:Int} (h1:a<=p) (h2:p<=q) (h3:q<b) (hz:∀y,y<p\/q<=y->c y=false):EO c a b=EO c p (q+1):=by
 refine IY h1 (by omega) (by omega) λx hx=>?_
 rw [hz x (by omega),hz (x - 1) (by omega)];rfl
theorem Jf {c:Int->Bool} {a b:Int} (h:∀y,c y=false):EO c a b=0:=FP λx _ _=>by rw [h,h];rfl
theorem PE {c d:Int->Bool} (a b:Int) (h:∀y,c y=d y):EO c a b=EO d a b:=EL λx _ _=>by rw [h,h]
theorem Vl (c:Int->Bool) (a b:Int):0<=EO c a b:=IX λ_ _ _=>(Zz _).1
theorem mM (c:Int->Bool):∀(Y:List Int),Y.Pairwise (· < ·)->(∀(i:Nat) (x y z:Int),Y[i]? = some x->Y[i+1]? = some y->x<=z->z<y->c z=c x)->
 (∀q,Y.getLast? = some q->c q=false)->∀a q,Y.head? = some a->Y.getLast? = some q->EO c a (q+1)=chg (c (a - 1)) ((List.range (Y.length - 1)).map λi=>c (mf Y i))/\a<=q:=by
 intro Y;induction Y with
 |nil=>intro _ _ _ a q h;simp at h
 |cons x r ih=>
  intro hY hc hq a q ha hl;simp at ha;subst ha;rcases r with _ | ⟨y,r⟩
  ·simp at hl;subst hl;refine ⟨?_,Int.le_refl _⟩
   unfold EO;rw [IW (ind (c x != c (x - 1))) (by omega) λz h1 h2=>by rw [show z=x by omega],hq x rfl];simp [chg];rw [show x+1 - x=1 by omega,Int.mul_one]
  ·have hxy:x<y:=List.rel_of_pairwise_cons hY (a':=y) (by simp);rw [List.getLast?_cons_cons] at hl hq;obtain ⟨h1,h2⟩:=ih (List.Pairwise.of_cons hY) (λi u v z hu hv h1 h2=>hc (i+1) u v z (by simpa using hu) (by simpa using hv) h1 h2) hq y q rfl hl;refine ⟨?_,by omega⟩
   have hk:∀z,x<=z->z<y->c z=c x:=λz h3 h4=>hc 0 x y z rfl rfl h3 h4
   have e1:EO c x (q+1)=EO c x (x+1)+(EO c (x+1) y+EO c y (q+1)):=by
    unfold EO;rw [GR (show x<=x+1 by omega) (show x+1<=q+1 by omega),GR (show x+1<=y by omega) (show y<=q+1 by omega)]
   have e2:EO c x (x+1)=ind (c x != c (x - 1)):=by
    unfold EO;rw [IW (ind (c x != c (x - 1))) (by omega) λz h1 h2=>by rw [show z=x by omega],show x+1 - x=1 by omega,Int.mul_one]
   have e3:EO c (x+1) y=0:=FP λz h3 h4=>by rw [hk z (by omega) h4,hk (z - 1) (by omega) (by omega)];simp [ind]
   have e4:c (y - 1)=c x:=hk _ (by omega) (by omega);have e5:(x::y::r).length - 1=((y::r).length - 1)+1:=by simp
   rw [e1,e2,e3,h1,e4,e5,List.range_succ_eq_map,List.map_cons,List.map_map,chg];have e6:mf (x::y::r) 0=x:=rfl
   have e7:((λi=>c (mf (x::y::r) i)) ∘ Nat.succ)=λi=>c (mf (y::r) i):=by
    funext i
    simp only [Function.comp];rw [show Nat.succ i=i+1 from rfl,XO]
   rw [e6,e7,Int.zero_add];congr 1
   cases c x<;>cases c (x - 1)<;>rfl
def Vm (l:List Bx) (a b c d:Int):Int:=Gj (λx=>EO (Dq l x) c d) a b
def JL (l:List Bx):Int:=Vm l (-9223372036854775808) 9223372036854775808 (-9223372036854775808) 9223372036854775808
def IL (l:List Bx):Int:=JL l+JL (l.map Ii)
theorem dn {l m:List Bx} (a b c d:Int) (h:∀x y,Dq l x y=Dq m x y):Vm l a b c d=Vm m a b c d:=EL λx _ _=>PE _ _ (h x)
theorem MJ (l:List Bx) (a b c d:Int):0<=Vm l a b c d:=IX λ_ _ _=>Vl _ _ _
theorem dw {l:List Bx} {p q r s:Int} (h:Within l p q r s) {x y:Int} (hc:Dq l x y=true):p<=x/\x<q/\r<=y/\y<s:=by
 unfold Dq at hc;rw [List.any_eq_true] at hc;obtain ⟨b,h1,h2⟩:=hc;have h3:=h b h1 (Dz h2);unfold Bx.cell at h2;rw [decide_eq_true_eq] at h2;omega
theorem Zk {l:List Bx} {p q r s a b c d:Int} (h:Within l p q r s) (h1:a<=p) (h2:p<=q) (h3:q<=b) (h4:c<=r) (h5:r<=s) (h6:s<d):Vm l a b c d=Vm l p q r (s+1):=by
 have hn:∀x y,¬(p<=x/\x<q/\r<=y/\y<s)->Dq l x y=false:=λx y hh=>by
  cases e:Dq l x y
  ·rfl
  ·exact absurd (dw h e) hh
 unfold Vm;rw [EL λx _ _=>UN h4 h5 h6 λy hy=>hn x y (by omega)];exact IY h1 h2 h3 λx hx=>Jf λy=>hn x y (by omega)
theorem Qv {l:List Bx} (hb:∀b∈l,b.CS):∀b∈l.map Ii,b.CS:=by
 intro b h;obtain ⟨a,h1,rfl⟩:=List.mem_map.1 h;have:=hb a h1;unfold Bx.CS at *;unfold Ii;dsimp only;omega
theorem a2X {l m:List Bx} {x y u v:Int} (h:Dq l x y=Dq m u v):Dq (l.map Ii) y x=Dq (m.map Ii) v u:=by
 rw [iV,iV,h]
theorem IQ {l m:List Bx} (h:∀x y,Dq l x y=Dq m x y):JL l=JL m:=dn _ _ _ _ h
theorem dD {l m:List Bx} (h:∀x y,Dq l x y=Dq m x y):IL l=IL m:=by
 unfold IL;rw [IQ h,IQ (l:=l.map Ii) (m:=m.map Ii) λx y=>a2X (h y x)]
theorem dF (b:Bx):(Ii b).counts=b.counts:=by
 unfold Ii Bx.counts;rw [Bool.eq_iff_iff];simp only [decide_eq_true_eq];omega
end
section
theorem Oy:∀(G:List Bool) (p:Bool),Fj p G<=G.length
 | [],_=>Nat.le_refl _
 |g::G,p=>by
  have:=Oy G g;rw [Fj,List.length_cons];split<;>omega
theorem Ws {l:List Bx} (hb:∀b∈l,b.CS) (x:Int):EO (Dq l x) (-9223372036854775808) 9223372036854775808=2*(Fj false ((List.range ((Fq (BX l)).length - 1)).map λi=>Dq l x (mf (Fq (BX l)) i)):Int):=by
 obtain ⟨Y,hYe⟩:=AU (Fq (BX l));have hY:Y.Pairwise (· < ·):=by rw [<-hYe];exact TI _
 have hm:∀v∈BX l,v∈Y:=λv hv=>by rw [<-hYe];exact MZ hv
 have hin:∀v∈Y,-9223372036854775808<=v/\v<=9223372036854775807:=by
  intro v hv;rw [<-hYe] at hv;have hx:=Xd hv;unfold BX at hx;obtain ⟨b,h1,h2⟩:=List.mem_flatMap.1 hx;have h3:=hb b (List.mem_filter.1 h1).1;unfold Bx.CS at h3;simp at h2;rcases h2 with rfl | rfl
  ·exact h3.2.2.1
  ·exact h3.2.2.2
 rw [hYe];by_cases h0:Y = []
 ·have hX:Gg l = []:=by
   unfold Gg;rw [List.flatMap_eq_nil_iff];intro b hb;have hb':=List.mem_filter.1 hb;have:=hm b.y1 (Jt hb'.1 hb'.2).1;rw [h0] at this;simp at this
  rw [Jf λy=>Ju hX x y,h0];rfl
 obtain ⟨p,hp⟩:∃p,Y.head? = some p:=by
  cases Y with
  |nil=>exact absurd rfl h0
  |cons a r=>exact ⟨a,rfl⟩
 obtain ⟨q,hq⟩:∃q,Y.getLast? = some q:=by
  cases h:Y.getLast? with
  |none=>rw [List.getLast?_eq_none_iff] at h;exact absurd h h0
  |some q=>exact ⟨q,rfl⟩
 have hout:∀z,z<p\/q<=z->Dq l x z=false:=λz hz=>SQ hY hm hp hq hz
 obtain ⟨h1,h2⟩:=mM (Dq l x) Y hY (λi u v z hu hv h3 h4=>oI hY hm hu hv h3 h4) (λr hr=>by rw [hq] at hr;cases hr;exact hout q (.inr (Int.le_refl _))) p q hp hq;have b1:=hin p (List.mem_of_mem_head? hp);have b2:=hin q (List.mem_of_getLast? hq);rw [UN b1.1 h2 (by omega) hout,h1,hout (p - 1) (.inl (by omega)),Zj];simp [ind]
def Rq (Y:List Int) (T:List Tn) (k:Nat):Nat:=(GZ Y (sw Y (T.take (k+1)))).runs.toNat
def JM (T:List Tn) (k:Nat):Nat:=if k+1<T.length then (mf (T.map Tn.x) (k+1) - mf (T.map Tn.x) k).toNat else 0
def Rt (Y:List Int) (T:List Tn) (k:Nat):Nat:=JM T k*(2*Rq Y T k)
theorem wF {Y:List Int} (hM:Du Y) (T:List Tn) (k:Nat):Rq Y T k<=Y.length:=by
 unfold Rq;rw [JH (UL hM _)];unfold Ox UH KH;dsimp only;refine Bh (Oy _ _) ?_
 rw [List.length_map,List.length_range];omega
theorem wH {Y:List Int} (hM:Du Y) (T:List Tn) (k:Nat):(GZ Y (sw Y (T.take (k+1)))).runs=(Rq Y T k:Int):=by
 unfold Rq;rw [JH (UL hM _)];unfold Ox UH KH;dsimp only;rw [Int.toNat_natCast]
theorem XP {l:List Bx} (hb:∀b∈l,b.CS) (hl:l.length<100000):JL l<=400000*18446744073709551616:=by
 have h1:JL l<=400000*(9223372036854775808 - -9223372036854775808):=by
  refine WI 400000 (by omega) λx _ _=>?_
  rw [Ws hb];have h2:=Oy ((List.range ((Fq (BX l)).length - 1)).map λi=>Dq l x (mf (Fq (BX l)) i)) false;rw [List.length_map,List.length_range] at h2;have h3:=OU (BX l);have h4:=EG l;omega
 omega
theorem Zl (l:List Bx):0<=IL l:=by
 have h1:=MJ l (-9223372036854775808) 9223372036854775808 (-9223372036854775808) 9223372036854775808;have h2:=MJ (l.map Ii) (-9223372036854775808) 9223372036854775808 (-9223372036854775808) 9223372036854775808;unfold IL JL;omega
theorem a2Y {l:List Bx} (hb:∀b∈l,b.CS) (hl:l.length<100000):NC (IL l).toNat:=by
 have h1:=XP hb hl;have h2:=XP (Qv hb) (by rw [List.length_map];exact hl);have h3:=Zl l;have h4:IL l<=800000*18446744073709551616:=by unfold IL;omega
 unfold NC;omega
theorem mO {l:List Bx} {T:List Tn} (hb:∀b∈l,b.CS) (hl:l.length<100000) (hp:T.Perm (BL l)) (hs:T.Pairwise (λs t=>s.x<=t.x)) :
 (EH (Rt (Fq (BX l)) T) T.length:Int)=JL l:=by
 have hM:=Hz hb hl;have hmx:∀v,v∈T.map Tn.x↔v∈Gg l:=λv=>by rw [<-IJ,(hp.map Tn.x).mem_iff]
 have hX:(T.map Tn.x).Pairwise (·<=·):=by rw [List.pairwise_map];exact hs
 have hin:∀v∈T.map Tn.x,(-9223372036854775808:Int)<=v/\v<=9223372036854775808:=by
  intro v hv;have hx:=(hmx v).1 hv;unfold Gg at hx;obtain ⟨b,h1,h2⟩:=List.mem_flatMap.1 hx;have h3:=hb b (List.mem_filter.1 h1).1;unfold Bx.CS at h3;simp at h2;rcases h2 with rfl | rfl
  ·have:=h3.1;omega
  ·have:=h3.2.1;omega
 have e0:EH (Rt (Fq (BX l)) T) T.length=EH (Rt (Fq (BX l)) T) (T.length - 1):=by
  rcases Nat.eq_zero_or_pos T.length with h | h
  ·rw [h]
  ·obtain ⟨n,hn⟩:∃n,T.length=n+1:=⟨T.length - 1,by omega⟩;rw [hn,EH];have:Rt (Fq (BX l)) T n=0:=by unfold Rt JM;rw [if_neg (by omega),Nat.zero_mul]
   rw [this];rfl
 rw [e0];unfold JL Vm
 rw [Rn (f:=λx=>EO (Dq l x) (-9223372036854775808) 9223372036854775808) hX hin (λi p q z h1 h2 h3 h4=>PE _ _ λy=>wC hX (λv hv=>(hmx v).2 hv) h1 h2 h3 h4)
  (λp q z h1 h2 h3=>Jf λy=>Zd hX (λv hv=>(hmx v).2 hv) h1 h2 h3) (λh z=>Jf λy=>Ju (by
   rw [List.eq_nil_iff_forall_not_mem];intro v hv;have:=(hmx v).2 hv;rw [h] at this;simp at this) z y)]
 have e:T.length - 1=(T.map Tn.x).length - 1:=by rw [List.length_map]
 rw [e];refine KA _ _ _ λi hi=>?_
 rw [List.length_map] at hi;obtain ⟨t,ht⟩:∃t,T[i]? = some t:=⟨_,Ba (by omega)⟩;obtain ⟨u,hu⟩:∃u,T[i+1]? = some u:=⟨_,Ba (by omega)⟩;have et:mf (T.map Tn.x) i=t.x:=by unfold mf;rw [List.getElem?_map,ht];rfl
 have eu:mf (T.map Tn.x) (i+1)=u.x:=by unfold mf;rw [List.getElem?_map,hu];rfl
 have htu:=(Kz hs ht).2 u (List.mem_of_getElem? (i:=1) (by rw [List.getElem?_drop];exact hu));unfold Rt JM;rw [if_pos (by omega),et,eu,Int.natCast_mul,Int.toNat_of_nonneg (by omega)];rcases Int.lt_or_eq_of_le htu with hx | hx
 ·rw [Ws hb];unfold Rq;rw [JH (UL hM _)];unfold Ox UH KH;dsimp only
  have e2:(List.range ((Fq (BX l)).length - 1)).map (LH (sw (Fq (BX l)) (T.take (i+1))))=(List.range ((Fq (BX l)).length - 1)).map λj=>Dq l t.x (mf (Fq (BX l)) j):=by
   refine List.map_congr_left λj hj=>?_
   rw [List.mem_range] at hj;exact Zb hp hs (okT hp) hM.rise ht hu hx (by omega)
  rw [e2,Int.mul_comm];rfl
 ·rw [hx];simp
theorem dG {l:List Bx} {T:List Tn} (hb:∀b∈l,b.CS) (hl:l.length<100000) (hp:T.Perm (BL l)) (hs:T.Pairwise (λs t=>s.x<=t.x)) :
 EH (Rt (Fq (BX l)) T) T.length=(JL l).toNat:=by
 have:=mO hb hl hp hs;omega
theorem wI {T:List Tn} (h:∀t∈T,-9223372036854775808<=t.x/\t.x<=9223372036854775807) (k:Nat):JM T k<18446744073709551616:=by
 unfold JM;split
 ·rename_i hk
  obtain ⟨t,ht⟩:∃t,T[k]? = some t:=⟨_,Ba (by omega)⟩;obtain ⟨u,hu⟩:∃u,T[k+1]? = some u:=⟨_,Ba (by omega)⟩;have et:mf (T.map Tn.x) k=t.x:=by unfold mf;rw [List.getElem?_map,ht];rfl
  have eu:mf (T.map Tn.x) (k+1)=u.x:=by unfold mf;rw [List.getElem?_map,hu];rfl
  have h1:=h t (List.mem_of_getElem? ht);have h2:=h u (List.mem_of_getElem? hu);rw [et,eu];omega
 ·omega
def flB (b:Bx):Bx:=⟨b.x1,b.x2,b.y1,b.y2,0⟩
def CB (l:List Bx):List Bx:=(l.filter Bx.counts).map flB
theorem ML (l:List Bx):∀b∈CB l,b.counts=true:=by
 intro b hb;obtain ⟨a,h1,rfl⟩:=List.mem_map.1 hb;exact (List.mem_filter.1 h1).2
theorem FN {l:List Bx} (hb:∀b∈l,b.CS):∀b∈CB l,b.CS:=by
 intro b h;obtain ⟨a,h1,rfl⟩:=List.mem_map.1 h;exact hb a (List.mem_filter.1 h1).1
theorem PG (l:List Bx):(CB l).filter Bx.counts=CB l:=List.filter_eq_self.2 (ML l)
theorem DV (l:List Bx):(CB l).length<=l.length:=by
 unfold CB;rw [List.length_map];exact List.length_filter_le _ _
theorem Qw (l:List Bx) (x y:Int):Dq (CB l) x y=Dq l x y:=by
 unfold Dq CB;rw [List.any_map,Bool.eq_iff_iff,List.any_eq_true,List.any_eq_true];constructor
 ·rintro ⟨b,h1,h2⟩;exact ⟨b,(List.mem_filter.1 h1).1,h2⟩
 ·rintro ⟨b,h1,h2⟩;exact ⟨b,List.mem_filter.2 ⟨h1,Dz h2⟩,h2⟩
theorem iW (l:List Bx):CG (Fq (BX (CB l))) (BL (CB l))=CG (Fq (BX l)) (BL l):=by
 have h1:BX (CB l)=BX l:=by
  unfold BX;rw [PG];unfold CB;rw [List.flatMap_map];rfl
 rw [Wp,Wp,h1,PG];unfold CB;rw [List.map_map];rfl
theorem mP (l:List Bx):(l.map Ii).filter Bx.counts=(l.filter Bx.counts).map Ii:=by
 rw [List.filter_map];congr 1
 exact List.filter_congr λb _=>dF b
theorem Zm (l:List Bx):(CB l).map Ii=CB (l.map Ii):=by
 unfold CB;rw [mP,List.map_map,List.map_map];rfl
def a0w (l:List Bx):Nat:=CG (Fq (BX l)) (BL l)+CG (Fq (BX (l.map Ii))) (BL (l.map Ii))
end
section
def Zv (Y:List Int) (T:List Tn) (k:Nat):Nat:=match T[k]? with | some t=>Ky (SC Y t) (Y.length - 1) | none=>0
def UO (Y:List Int) (T:List Tn) (k:Nat):Nat×Nat×Nat:=(Rq Y T k,JM T k,Zv Y T k)
def Fe (Y:List Int) (T:List Tn):List (Nat×Nat×Nat):=(List.range T.length).map (UO Y T)
def Full (l:List Bx) (xs:List (Nat×Nat×Nat)):Prop:=∃T:List Tn,T.Perm (BL l)/\T.Pairwise (λs t=>s.x<=t.x)/\xs=Fe (Fq (BX l)) T
def Legal (l:List Bx) (xs:List (Nat×Nat×Nat)):Prop:=∃T:List Tn,T.Perm (BL l)/\T.Pairwise (λs t=>s.x<=t.x)/\xs=(Fe (Fq (BX l)) T).take xs.length
def Lj (xs:List (Nat×Nat×Nat)):Nat:=(xs.map λs=>s.2.1*(2*s.1)).sum
def Ll (xs:List (Nat×Nat×Nat)):Nat:=(xs.map λs=>s.2.2).sum
theorem Np (xs:List (Nat×Nat×Nat)) (s:Nat×Nat×Nat):Lj (xs++[s])=Lj xs+s.2.1*(2*s.1):=by simp [Lj]
theorem Nq (xs:List (Nat×Nat×Nat)) (s:Nat×Nat×Nat):Ll (xs++[s])=Ll xs+s.2.2:=by simp [Ll]
theorem Wu (Y:List Int) (T:List Tn):(Fe Y T).length=T.length:=by simp [Fe]
theorem UQ (Y:List Int) (T:List Tn) {k:Nat} (hk:k<T.length):(Fe Y T).take (k+1)=(Fe Y T).take k++[UO Y T k]:=by
 rw [List.take_add_one];unfold Fe;simp [List.getElem?_map,List.getElem?_range hk]
theorem Qx (f:Nat->Nat):∀n,((List.range n).map f).sum=EH f n
 |0=>rfl
 |n+1=>by rw [List.range_succ,List.map_append,List.sum_append,Qx f n];simp [EH]
theorem dH (Y:List Int) (T:List Tn):Lj (Fe Y T)=EH (Rt Y T) T.length:=by
 unfold Lj Fe;rw [List.map_map,<-Qx];rfl
theorem XQ (Y:List Int):∀(T:List Tn),((List.range T.length).map (Zv Y T)).sum=CG Y T
 | []=>rfl
 |t::T=>by
  rw [List.length_cons,List.range_succ_eq_map,List.map_cons,List.sum_cons,List.map_map];have e:(Zv Y (t::T) ∘ Nat.succ)=Zv Y T:=by funext i;simp [Zv]
  rw [e,XQ Y T];rfl
theorem dI (Y:List Int) (T:List Tn):Ll (Fe Y T)=CG Y T:=by
 unfold Ll Fe;rw [List.map_map,<-XQ];rfl
theorem Qy {l:List Bx} {xs:List (Nat×Nat×Nat)} (hb:∀b∈l,b.CS) (hl:l.length<100000) (h:Full l xs):Lj xs=(JL l).toNat:=by
 obtain ⟨T,hp,hs,rfl⟩:=h;rw [dH,dG hb hl hp hs]
theorem Qz {l:List Bx} {xs:List (Nat×Nat×Nat)} (h:Full l xs):Ll xs=CG (Fq (BX l)) (BL l):=by
 obtain ⟨T,hp,hs,rfl⟩:=h;rw [dI,Ia hp]
theorem MN (f:Nat×Nat×Nat->Nat):∀(xs:List (Nat×Nat×Nat)) (k:Nat),((xs.take k).map f).sum<=(xs.map f).sum
 | [],k=>by simp
 |x::xs,0=>by simp
 |x::xs,k+1=>by simp only [List.take_succ_cons,List.map_cons,List.sum_cons];have:=MN f xs k;omega
theorem Legal.tot {l:List Bx} {xs:List (Nat×Nat×Nat)} (hb:∀b∈l,b.CS) (hl:l.length<100000) (h:Legal l xs):Lj xs<=(JL l).toNat/\Ll xs<=CG (Fq (BX l)) (BL l):=by
 obtain ⟨T,hp,hs,he⟩:=h;rw [he,<-Qy hb hl ⟨T,hp,hs,rfl⟩,<-Qz (l:=l) ⟨T,hp,hs,rfl⟩];exact ⟨MN _ _ _,MN _ _ _⟩
theorem Legal.mem {l:List Bx} {xs:List (Nat×Nat×Nat)} (hb:∀b∈l,b.CS) (hl:l.length<100000) (h:Legal l xs):∀s∈xs,s.1<=200000/\s.2.1<18446744073709551616/\s.2.2<=100000000:=by
 obtain ⟨T,hp,hs,he⟩:=h;intro s hm;rw [he] at hm;have hm:=List.mem_of_mem_take hm;unfold Fe at hm;obtain ⟨k,hk,rfl⟩:=List.mem_map.1 hm;rw [List.mem_range] at hk;have hM:=Hz hb hl;have h1:=wF hM T k;have h3:=OU (BX l);have h4:=EG l;refine ⟨by unfold UO;dsimp only;omega,?_,?_⟩
 ·refine wI (λt ht=>?_) k
  have hx:=(IJ t.x).1 (List.mem_map.2 ⟨t,hp.mem_iff.1 ht,rfl⟩);unfold Gg at hx;obtain ⟨b,h1,h2⟩:=List.mem_flatMap.1 hx;have h3:=hb b (List.mem_filter.1 h1).1;unfold Bx.CS at h3;simp at h2;rcases h2 with h2 | h2<;>rw [h2]
  ·exact h3.1
  ·exact h3.2.1
 ·have h5:Zv (Fq (BX l)) T k<=CG (Fq (BX l)) T:=by
   rw [<-XQ,Qx];have h:=Wj (Zv (Fq (BX l)) T) (show k+1<=T.length by omega);rw [EH] at h;omega
  have h6:=JK (Fq (BX l)) hM.len T;have h7:=hp.length_eq;show Zv (Fq (BX l)) T k<=100000000
  omega
open Go.RowKit
def Beyond (B:Nat) (w w':World):Prop:=∃G,Bj G w w'/\∀g∈G,g<B
theorem Beyond.size {B:Nat} {a b:World} (h:Beyond B a b):a.heap.size<=b.heap.size:=by obtain ⟨G,h,-⟩:=h;exact h.size
theorem Beyond.block {B:Nat} {a b:World} (h:Beyond B a b) (k:Nat) (h1:B<=k) (h2:k<a.heap.size):b.heap[k]? = a.heap[k]?:=by
 obtain ⟨G,h,hG⟩:=h;exact h.block k h2 λhk=>by have:=hG k hk;omega
theorem Beyond.refl (B:Nat) (w:World):Beyond B w w:=⟨[],Bj.refl _ _,by simp⟩
theorem Beyond.of {B:Nat} {a b:World} (h:Bj [] a b):Beyond B a b:=⟨[],h,by simp⟩
theorem Beyond.trans {B:Nat} {a b c:World} (h:Beyond B a b) (k:Beyond B b c):Beyond B a c:=by
 obtain ⟨G,h,hG⟩:=h;obtain ⟨G',k,hG'⟩:=k;refine ⟨G++G',(h.mono λx hx=>.inl (by simp [hx])).trans (k.mono λx hx=>.inl (by simp [hx])),λg hg=>?_⟩
 rcases List.mem_append.1 hg with hg | hg
 ·exact hG g hg
 ·exact hG' g hg
theorem Beyond.upd {B:Nat} {a b c:World} {F:List Nat} (h:Beyond B a b) (k:Bj F b c) (hF:∀i∈F,i<B):Beyond B a c:=h.trans ⟨F,k,hF⟩
theorem Nr {B l:Nat} (w:World) (o:Obj) (hl:B<=l):Below B w (w.putObj l o):=
 ⟨rfl,rfl,rfl,by simp [World.putObj],λi hi=>World.putObj_heap_other (by omega)⟩
theorem UR {l:Nat} (w:World) (o:Obj):Bj [l] w (w.putObj l o):=
 ⟨rfl,rfl,rfl,by simp [World.putObj],λi _ hi=>World.putObj_heap_other (λe=>hi (by simp [e]))⟩
def Ru (B l:Nat) (w w':World):Prop:=∃G,Bj G w w'/\∀g∈G,g<B\/g=l
theorem Ru.trans {B l:Nat} {a b c:World} (h:Ru B l a b) (k:Ru B l b c):Ru B l a c:=by
 obtain ⟨G,h,hG⟩:=h;obtain ⟨G',k,hG'⟩:=k;refine ⟨G++G',(h.mono λx hx=>.inl (by simp [hx])).trans (k.mono λx hx=>.inl (by simp [hx])),λg hg=>?_⟩
 rcases List.mem_append.1 hg with hg | hg
 ·exact hG g hg
 ·exact hG' g hg
theorem Beyond.keep {B l:Nat} {a b:World} (h:Beyond B a b):Ru B l a b:=by obtain ⟨G,h,hG⟩:=h;exact ⟨G,h,λg hg=>.inl (hG g hg)⟩
theorem Zn (B l:Nat) (w:World) (o:Obj):Ru B l w (w.putObj l o):=⟨[l],UR w o,λg hg=>.inr (by simpa using hg)⟩
def XR {α:Type} (P:Program) (g:Nat) (lb:Array Value) (encs:α->Array Value) (S Pre:List α->Prop) (B:Nat) (w:World):Prop:=
 ∀(n l:Nat) (J:List α->World->Prop) (W:World),Bj [] w W->w.heap.size<=l->l<W.heap.size->(∀s C D,J s C->Below W.heap.size C D->J s D)->
  (∀pre x W1,J pre W1->Pre (pre++[x])->W.heap.size<=W1.heap.size->YieldAt Fence.wide n P l (encs x) W1 λe W'=>e=.returned (.bool true)/\J (pre++[x]) W'/\Ru B l W1 W')->
  J [] W->
  CallsIn Fence.wide (n+1) P g (#[.func (.yield l) #[] #[]]++lb) W λe W'=>(∃v,e=.returned v)/\∃xs,S xs/\J xs W'
def a6a {α:Type} (B:Nat) (I:List α->World->Prop) (xs:List α) (W:World):Exit->Act->World->Prop
 |.normal,_,W'=>Beyond B W W'/\I xs W'
 |_,_,_=>False
theorem KW {α:Type} {P:Program} {n:Nat} {g:Operand} {ps:Array Tmp} {assign body:Code} {Q:Exit->Act->World->Prop} {a:Act} {w:World}
 {gf:Nat} {lb:Array Value} (hg:a.eval g=.func (.func gf) #[] lb) (eg:∀args w,(callFunc gf args).run P w=.ok (.enter gf args) w)
 {encs:α->Array Value} {S Pre:List α->Prop} {B:Nat} (hB:B<=w.heap.size) (hseq:XR P gf lb encs S Pre B w) (hps:∀x,(encs x).size=ps.size)
 (I:List α->World->Prop) (hI:∀s C D,I s C->Below w.heap.size C D->I s D) (h0:I [] w)
 (a2Z:∀(l:Nat) (pre:List α) (x:α) (W:World),I pre W->Pre (pre++[x])->w.heap.size+1<W.heap.size->
  assign.wpIn (Fence.wide.inRound l) n P (Exit.then (λa₁ W₁=>Beyond B W W₁/\
   ∀W₂,(∃o,W₂=W₁.putObj (w.heap.size+1) o)->body.wpIn (Fence.wide.inRound l) n P (a6a B I (pre++[x]) W₂) a₁ W₂) (λ_ _ _=>False))
   { tmps:=(ps.zip (encs x)).foldl (λt (p,v)=>t.setIfInBounds p v) a.tmps,defers:=[] } W)
 (hdone:∀(D:Nat) (xs:List α) (W:World),w.heap.size<=D->S xs->I xs W->W.heap[D]? = some (.deferred (some []))->Q .normal { a with defers:={ target:=.collected D,args:=#[] }::a.defers } W) :
 (Code.rangeFunc g ps assign body).wpIn Fence.wide (n+2) P Q a w:=by
 refine wpIn_rangeFunc ?_
 intro fn hfn;obtain ⟨rec,hrec⟩:∃rec:LoopState->Option Code->Loop,rec=λst pe=>{ state:=st,pending:=pe,fn,tmps:=a.tmps,params:=ps,assign,body,defers:=w.heap.size }:=⟨_,rfl⟩
 obtain ⟨W1,hW1⟩:=AU ((w.alloc (.deferred (some []))).alloc (.loop (rec .ready none)))
 have hL1:W1.heap[w.heap.size+1]? = some (.loop (rec .ready none)):=by
  rw [<-hW1];have:=World.alloc_heap_new (w.alloc (.deferred (some []))) (.loop (rec .ready none));rwa [World.size_alloc] at this
 have hK1:W1.heap[w.heap.size]? = some (.deferred (some [])):=by
  rw [<-hW1];exact (Below.heap_alloc _ _ _ (by simp)).trans (World.alloc_heap_new w _)
 have hu1:Bj [] w W1:=by rw [<-hW1];exact ((Bj.refl _ _).alloc _).alloc _
 have hz1:W1.heap.size=w.heap.size+2:=by rw [<-hW1];simp
 refine ⟨w.heap.size+1,[{ target:=.collected w.heap.size,args:=#[] }],W1,{ target:=.fn (.func gf) lb,args:=#[.func (.yield (w.heap.size+1)) #[] #[]] },W1,gf,
  #[.func (.yield (w.heap.size+1)) #[] #[]]++lb,W1,?_,?_,λ_ _=>trivial,?_,λh=>by simp [Fence.wide] at h,?_⟩
 ·rw [<-hW1,hrec];exact run_enterLoop_outer _ _ _ _ _
 ·simp only [resolve,hg];simp [go_sem]
 ·simp [invoke,go_sem,eg]
 ·refine (hseq n (w.heap.size+1) (λpre W=>I pre W/\W.heap[w.heap.size+1]? = some (.loop (rec .ready none))/\W.heap[w.heap.size]? = some (.deferred (some []))) W1 hu1 (by omega) (by omega)
   (λs C D hs hb=>⟨hI s C D hs.1 (hb.mono (by omega)),(hb.block _ (by omega)).trans hs.2.1,(hb.block _ (by omega)).trans hs.2.2⟩) ?_ ⟨hI [] _ _ h0 hu1.below,hL1,hK1⟩).mono ?_
  ·rintro pre x W ⟨hi,hl,hk⟩ hlen hsz;have hlt:w.heap.size+1<W.heap.size:=(Array.getElem?_eq_some_iff.1 hl).1;have hy:=run_yield (P:=P) (args:=encs x) hl (by rw [hrec];exact hps x);rw [hrec] at hy;refine ⟨fn,_,assign,body,hy,roundIn_of_wpIn hfn (wpIn_mono (a2Z (w.heap.size+1) pre x W hi hlen hlt) ?_)⟩
   intro e a₁ W₁ hp
   cases e with
   |normal=>
    obtain ⟨hb,hbody⟩:=hp;have hl1:=(hb.block _ (by omega) hlt).trans hl;have hk1:=(hb.block _ hB (by omega)).trans hk;refine ⟨W₁.putObj (w.heap.size+1) (.loop { rec .ready none with state:=.busy }),run_beginRound hl1 (by rw [hrec]),?_⟩
    have hl2:(W₁.putObj (w.heap.size+1) (.loop { rec .ready none with state:=.busy })).heap[w.heap.size+1]? = some (.loop { rec .ready none with state:=.busy }):=World.putObj_heap_same (by have:=hb.size;omega);have hk2:(W₁.putObj (w.heap.size+1) (.loop { rec .ready none with state:=.busy })).heap[w.heap.size]? = some (.deferred (some [])):=(World.putObj_heap_other (by omega)).trans hk1;have hb2:Ru B (w.heap.size+1) W (W₁.putObj (w.heap.size+1) (.loop { rec .ready none with state:=.busy })):=hb.keep.trans (Zn _ _ _ _);have hz2:(W₁.putObj (w.heap.size+1) (.loop { rec .ready none with state:=.busy })).heap.size=W₁.heap.size:=by simp [World.putObj]
    refine wpIn_mono (hbody _ ⟨_,rfl⟩) ?_
    intro e a3 W3 hp
    cases e with
    |normal=>
     obtain ⟨hk3,hi3⟩:=hp;have hl3:=(hk3.block _ (by omega) (by have:=hb.size;omega)).trans hl2;have hk4:=(hk3.block _ hB (by have:=hb.size;omega)).trans hk2;have hz3:=hk3.size;have hr:=run_endRound (P:=P) none hl3;refine ⟨_,_,hr,rfl,⟨hI _ _ _ hi3 (Nr _ _ (by omega)),?_,?_⟩,(hb2.trans hk3.keep).trans (Zn _ _ _ _)⟩
     ·rw [World.putObj_heap_same (by have:=hb.size;omega)];rw [hrec];rfl
     ·exact (World.putObj_heap_other (by omega)).trans hk4
    |_=>exact hp.elim
   |_=>exact hp.elim
  ·rintro e W2 ⟨⟨v,rfl⟩,xs,hS,hi,hl,hk⟩;exact ⟨none,_,by have:=run_endLoop (P:=P) hl (by rw [hrec];simp);rw [hrec] at this;exact this,hdone _ xs _ (Nat.le_refl _) hS (hI _ _ _ hi (Nr _ _ (by omega))) ((World.putObj_heap_other (by omega)).trans hk)⟩
theorem mQ {l m:Nat} {P:Program} {row:String} {args:Array Value} {w:World} {R:Value->World->Prop} (h:Rows P row args w R):RowsIn (Fence.wide.inRound l) m P row args w R:=λc cs _=>by
 obtain ⟨v,w',r,s⟩:=h c cs;exact ⟨v,w',r,stepsIn_wide.2 s⟩
theorem dJ {P:Program} {l m:Nat} {o:Oper} {a:Act} {w:World} {K:Act->World->Prop} {Q:Exit->Act->World->Prop} (hd:∀c,o.op≠.defer c) (h:o.wp P a w K Q) :
 o.wpIn (Fence.wide.inRound l) m P a w K Q:=by
 have e:o.semAt (some l) a.eval=execOp a.eval o:=Oper.semAt_some l _ _ hd;refine ⟨λ_ _=>trivial,?_⟩
 show o.uponIn _ m P a K Q ((o.semAt (some l) a.eval).run P w)
 rw [e];unfold Oper.wp at h;generalize (execOp a.eval o).run P w=r at h |-
 cases r with
 |ok x w'=>
  cases x with
  |enter f args=>exact ⟨λh=>by simp [Fence.wide,Fence.inRound] at h,CallsIn.inRound l (callsIn_wide.2 h)⟩
  |row row args=>exact ⟨λh=>by simp [Fence.wide,Fence.inRound] at h,mQ h⟩
  |value v=>exact h
  |skip=>exact h
  |defer d=>exact h
  |_=>exact h.elim
 |halt x w'=>cases x<;>exact h
def SE (ops:Array Oper):Bool:=ops.toList.all λo=>match o.op with | .defer _=>false | _=>true
theorem XT {ops:Array Oper} (h:SE ops=true) {i:Nat} {o:Oper} (ho:ops[i]? = some o):∀c,o.op≠.defer c:=by
 intro c e;unfold SE at h;rw [List.all_eq_true] at h;have:=h o (by rw [Array.mem_toList_iff];exact Array.mem_of_getElem? ho);rw [e] at this
 cases this
theorem KE {P:Program} {md:Region.Mode} {ops:Array Oper} {Q:Exit->Act->World->Prop} {l m:Nat} (hd:SE ops=true) (hq:¬LetsOut Q):∀(n:Nat) (L:Array Bool) (a:Act) (w:World),wpAny P md ops Q n L a w->wpAnyIn (Fence.wide.inRound l) m P md ops Q n L a w
 |0,_,_,_,h=>h
 |n+1,L,a,w,h=>⟨h.1,λi hi=>by
  have h2:=h.2 i hi;unfold wpOp at h2;unfold wpOpIn
  cases ho:ops[i]? with
  |none=>rw [ho] at h2;exact KE hd hq n _ _ _ h2
  |some o=>
   rw [ho] at h2;dsimp only at h2 |-;split
   ·rename_i hw
    rw [if_pos hw] at h2;exact Oper.wpIn_mono (λa w hh=>KE hd hq n _ a w hh) (dJ (XT hd ho) (h2.resolve_right λh=>hq h.2))
   ·rename_i hw
    rw [if_neg hw] at h2;exact ⟨λ_ _=>trivial,KE hd hq n _ _ _ h2⟩⟩
theorem Bo.iY {P:Program} {ops:Array Oper} {Q:Exit->Act->World->Prop} {l m id:Nat} {a:Act} {w:World} (T:List Nat) (S:World->Prop) (hm:P.follows .mixedOrders=true) (hd:SE ops=true) (hq:¬LetsOut Q) (hS:S w.drew)
 (h:S w.drew->Bo P ops Q S T ops.size (Array.replicate ops.size false) a w.drew):(Code.region id ops true).wpIn (Fence.wide.inRound l) m P Q a w:=
 wpIn_region_any hm (KE hd hq _ _ _ _ (N8 _ _ _ _ (h hS (Down.start _))))
def MO:Kind Bx:={ T:=0,sT:=149,eT:=245,sz:=4,enc:=λb=>[b.x1,b.x2,b.y1,b.y2],len:=λ_=>rfl,one:=λb u hu=>by simp at hu;rcases hu with rfl | rfl | rfl | rfl<;>rfl }
theorem MO.at {w:World} {A:Option Addr} {n C:Nat} {l:List Bx} (h:See MO w (.slice A n C) l) {k:Nat} {x:Bx} (hx:l[k]? = some x) :
 ∃b o,A=some ⟨b,o,none⟩/\n<=C/\C<=maxLen/\w.cell? ⟨b,o+k*4,none⟩=some (.int .i64 x.x1)/\w.cell? ⟨b,o+k*4+1,none⟩=some (.int .i64 x.x2)/\w.cell? ⟨b,o+k*4+2,none⟩=some (.int .i64 x.y1)/\w.cell? ⟨b,o+k*4+3,none⟩=some (.int .i64 x.y2):=by
 obtain ⟨b,o,h1,h2,h3,h4⟩:=h.at hx;exact ⟨b,o,h1,h2,h3,h4 0 _ rfl,h4 1 _ rfl,h4 2 _ rfl,h4 3 _ rfl⟩
theorem dK (l:List Bx) {k:Nat} {b:Bx} (hb:l[k]? = some b):CB (l.take (k+1))=CB (l.take k)++(if b.counts=true then [flB b] else []):=by
 unfold CB;rw [List.take_add_one,hb];by_cases h:b.counts=true<;>simp [List.filter_append,h]
theorem mV:(Tryz.prog.info? 245).map (λi=>(i.zero,i.size,i.bytes))=some (some (.agg #[.int .i64 0,.int .i64 0,.int .i64 0,.int .i64 0]),4,32):=by kernel_rfl
theorem SG {w:World} {base:Nat} {e:TypeId} {size g n C:Nat} {xs:List Value} (h:w.ownsRow base e size (.slice (some ⟨g,0,none⟩) n C) n xs) (j:Nat) (u:Value) :
 (w.setCell ⟨g,j,none⟩ u).ownsRow base e size (.slice (some ⟨g,0,none⟩) n C) n (xs.set j u):=by
 obtain ⟨hl,h⟩:=h;refine ⟨by rw [List.length_set];exact hl,?_⟩
 rcases h with ⟨h,-⟩ | ⟨g',cap,cur,h1,h2,h3,h4,h5,h6,h7⟩
 ·cases h
 ·cases h1
  refine .inr ⟨g,C,cur.setIfInBounds j u,rfl,h2,heap_set h3 j u,h4,h5,by simpa using h6,?_⟩
  rw [<-h7,Array.toList_setIfInBounds,List.take_set]
theorem mW {w:World} {base:Nat} {e:TypeId} {size g n C:Nat} {xs:List Value} (h:w.ownsRow base e size (.slice (some ⟨g,0,none⟩) n C) n xs) {o m:Nat} (hj:o+m<=n*size):w.there g o m:=by
 obtain ⟨hl,h⟩:=h;rcases h with ⟨h,-⟩ | ⟨g',cap,cur,h1,h2,h3,h4,h5,h6,h7⟩
 ·cases h
 ·cases h1
  intro j hj'
  have hlt:o+j<cur.size:=by
   rw [h6];exact Bg (by omega) (Nat.mul_le_mul_right size h4)
  exact ⟨by simp [World.cell?,h3,hlt],by simp [World.frozen?,h3]⟩
theorem MO.SA:∀(l:List Bx) (k:Nat) (x:Bx),k<l.length->((((MO.all l).set (k*4) (.int .i64 x.x1)).set (k*4+1) (.int .i64 x.x2)).set (k*4+1+1) (.int .i64 x.y1)).set (k*4+1+1+1) (.int .i64 x.y2)=MO.all (l.set k x)
 | [],k,x,h=>by simp at h
 |y::r,0,x,_=>by simp [Kind.all,MO]
 |y::r,k+1,x,h=>by
  have e:=MO.SA r k x (by simpa using h);rw [List.set_cons_succ];unfold Kind.all at e |-;rw [List.flatMap_cons,List.flatMap_cons,<-e];have e1:(k+1)*4=(MO.enc y).length+k*4:=by rw [Nat.add_mul,show (MO.enc y).length=4 from rfl];omega
  rw [e1]
  have hs:∀(A:List Value) (j:Nat) (u:Value),(MO.enc y++A).set ((MO.enc y).length+j) u=MO.enc y++A.set j u:=λA j u=>by
   rw [List.set_append_right _ _ (by omega),Nat.add_sub_cancel_left]
  rw [hs,Nat.add_assoc,hs,Nat.add_assoc,Nat.add_assoc,hs,Nat.add_assoc,Nat.add_assoc,Nat.add_assoc,hs]
theorem MO.put {w:World} {base g n C:Nat} {l:List Bx} (h:MO.row w base (.slice (some ⟨g,0,none⟩) n C) l) (hn:l.length=n) {k:Nat} (hk:k<n) (x:Bx) :
 MO.row (w.setCells g (k*4) [x.x1,x.x2,x.y1,x.y2]) base (.slice (some ⟨g,0,none⟩) n C) (l.set k x):=by
 unfold Kind.row at *;rw [List.length_set];rw [hn] at h |-;rw [<-MO.SA l k x (by omega)];have e:MO.sz=4:=rfl;rw [e] at h |-;exact SG (SG (SG (SG h _ _) _ _) _ _) _ _
theorem wJ (v:Value) (l:List Bx) (w:World) (hs:See LP w v l) (hl:l.length<400000) :
 Calls Tryz.prog 104 #[v] w λe w'=>∃A C,e=.returned (.slice A (CB l).length C)/\MO.row w' w.heap.size (.slice A (CB l).length C) (CB l)/\Bj [] w w':=by
 obtain ⟨iT,hiT,hT0,hT1,hT2⟩:=info_parts mV;obtain ⟨A,C,rfl⟩:=hs.form;obtain ⟨B,hB⟩:=AU w.heap.size;rw [hB];have HS:=AX hs;have HL:=AX hl;have Jj:=AX hB;have hll:(l.length:Int)<400000:=by omega
 clear hs hl hB;go_enter Tryz.func104,Tryz.ntmps104
 go_wp2_with fail
 go_loopg [3,8] l.length (λm s3 s8 wr=>∃k At Ct,m+k=l.length/\s3=.slice At (CB (l.take k)).length Ct/\s8=.int .i64 (k:Int)/\MO.row wr B (.slice At (CB (l.take k)).length Ct) (CB (l.take k))/\Bj [] w wr)
 case atStart=>exact ⟨0,none,0,rfl,rfl,rfl,World.ownsRow_nil _ _ _ _,Bj.refl _ _⟩
 case round=>
  obtain ⟨k,At,Ct,hk,rfl,rfl,ht,hu⟩:=hrel;have b0:(0:Int)<=(k:Int):=AY _;by_cases hlt:k<l.length
  ·obtain ⟨b,hb⟩:∃b,l[k]? = some b:=⟨_,Ba hlt⟩;obtain ⟨bl,ol,hA,-,-,l0,l1,l2,l3,l4⟩:=LP.at (HS.out.BF hu) hb;subst hA;have htt:=dK l hb;have hlen:=DV (l.take k);have htl:(l.take k).length<=l.length:=by rw [Bf];omega
   obtain ⟨T,hT⟩:=AU (CB (l.take k));rw [hT] at htt ht hlen |-;obtain ⟨x1,x2,y1,y2,bi⟩:=b;dsimp only at l0 l1 l2 l3 l4 htt;have b1:(k:Int)<(l.length:Int):=by omega
   have HT:=AX ht;have U5:=AX htt;have PU:=AX (show T.length<900000 by have:=HL.out;omega);have HU:=AX hu;have HK:=AX hk;have JO:=AX hlt;have FI:Bj [] wr (wr.alloc (.cells #[x1,x2,y1,y2,.int .u32 (bi:Int)] 28)):=(Bj.refl _ _).alloc _;have hbx:(wr.alloc (.cells #[x1,x2,y1,y2,.int .u32 (bi:Int)] 28)).heap[wr.heap.size]? = some (.cells #[x1,x2,y1,y2,.int .u32 (bi:Int)] 28 (0,0)):=heap_alloc_new _ _;have Hr:=AX FI;have G7:=AX hbx;clear ht htt hlen htl hu hk hlt hT FI hbx hb;by_cases hx:x1<x2
   ·have g1:decide (x1<x2)=true:=decide_eq_true hx;by_cases hy:y1<y2
    ·have g2:decide (y1<y2)=true:=decide_eq_true hy;have hcnt:(⟨x1,x2,y1,y2,bi⟩:Bx).counts=true:=by unfold Bx.counts;simp;omega
     rw [hcnt,if_pos rfl] at U5;clear hx hy hcnt;go_upto_region 6 with fail
     have Nw:=AX (show MO.row _ B _ T from Bl HT.out Hr.out (by simp));have fJ:=AX (HU.out.trans Hr.out);generalize (wr.alloc (.cells #[x1,x2,y1,y2,.int .u32 (bi:Int)] 28))=Wb at G7 Nw fJ Hr |-;generalize wr.heap.size=q at G7 |-;have c0:Wb.cell? q=some (.int .i64 x1):=by have:=G7.out;simp [World.cell?,this]
     have c1:Wb.cell? ⟨q,1,none⟩=some (.int .i64 x2):=by have:=G7.out;simp [World.cell?,this]
     have c2:Wb.cell? ⟨q,2,none⟩=some (.int .i64 y1):=by have:=G7.out;simp [World.cell?,this]
     have c3:Wb.cell? ⟨q,3,none⟩=some (.int .i64 y2):=by have:=G7.out;simp [World.cell?,this]
     have HBw:=AX (show B<=Wb.heap.size by have:=fJ.out.size;rw [Jj.out] at this;exact this);go_wp2_with (at_builtin;refine BM _ rfl _ _ 149 rfl B 245 iT (.agg #[.int .i64 0,.int .i64 0,.int .i64 0,.int .i64 0]) 4 32 Tryz.underlying149 hiT hT0 hT1 hT2 rfl (by decide) _ _ _ rfl (Bl Nw.out ((Bj.refl [] _).alloc _) (by simp)) _ 1 [x1,x2,y1,y2] rfl (BK Wb #[x1,x2,y1,y2] 245 4 1 rfl (by decide)) (by simp [Value.oneCell']) (by have:=PU.out;unfold maxLen;omega) (Ac PU) (by have:=HBw.out;simp;omega) ?_)
     intro A6 C6 w6 HP;have u6:Bj (blk (.slice At T.length Ct)) Wb w6:=((Bj.refl _ _).alloc _).trans HP.upd
     have r6:MO.row w6 B (.slice A6 (T.length+1) C6) (T++[flB ⟨x1,x2,y1,y2,bi⟩]):=by
      have:=HP.own;unfold Kind.row;rw [Kind.BZ,Bc];exact this
     have Ik:=AX (show Bj [] w w6 from fJ.out.trans' u6 (λj hj=>.inr (by rw [Jj.out];exact BH Nw.out j hj)));have MW:=AX r6;clear HP u6 r6 c0 c1 c2 c3;go_wp2_with fail
     go_roundg (l.length - (k+1))
     case measure=>have:=HK.out;have:=JO.out;omega
     case rel=>
      refine ⟨k+1,A6,C6,Ad HK JO,?_,by go_num,?_,Ik.out⟩
      ·rw [U5.out,Bc];rfl
      ·rw [U5.out,Bc];exact MW.out
    ·have g2:decide (y1<y2)=false:=decide_eq_false hy;have hcnt:(⟨x1,x2,y1,y2,bi⟩:Bx).counts=false:=by unfold Bx.counts;simp;omega
     rw [hcnt] at U5;clear hx hy hcnt;go_wp2_with fail
     go_roundg (l.length - (k+1))
     case measure=>have:=HK.out;have:=JO.out;omega
     case rel=>
      refine ⟨k+1,At,Ct,Ad HK JO,?_,by go_num,?_,HU.out.trans Hr.out⟩<;>rw [U5.out,if_neg (by simp),List.append_nil]
      exact Bl HT.out Hr.out (by simp)
   ·have g1:decide (x1<x2)=false:=decide_eq_false hx;have hcnt:(⟨x1,x2,y1,y2,bi⟩:Bx).counts=false:=by unfold Bx.counts;simp;omega
    rw [hcnt] at U5;clear hx hcnt;go_wp2_with fail
    go_roundg (l.length - (k+1))
    case measure=>have:=HK.out;have:=JO.out;omega
    case rel=>
     refine ⟨k+1,At,Ct,Ad HK JO,?_,by go_num,?_,HU.out.trans Hr.out⟩<;>rw [U5.out,if_neg (by simp),List.append_nil]
     exact Bl HT.out Hr.out (by simp)
  ·have hke:l.take k=l:=List.take_of_length_le (by omega);rw [hke] at ht |-;have HR:=Ap ht hu;clear ht hu hk hke;go_wp2_with fail
   go_ret
   exact ⟨_,_,rfl,HR.1,HR.2⟩
theorem upF (v:Value) (l:List Bx) (w:World) (hs:See LP w v l) (hl:l.length<400000) :
 Calls Tryz.prog 105 #[v] w λe w'=>∃A C,e=.returned (.slice A (CB l).length C)/\MO.row w' w.heap.size (.slice A (CB l).length C) ((CB l).map Ii)/\Bj [] w w':=by
 have hr:=wJ v l w hs hl;have hlen:=DV l;obtain ⟨T,hT⟩:=AU (CB l);rw [hT] at hr hlen |-;obtain ⟨n,hn⟩:=AU T.length;rw [hn] at hr hlen |-;have HR:=AX hr;have hnb:(n:Int)<400000:=by omega
 have HN:=AX hn;obtain ⟨B,hB⟩:=AU w.heap.size;rw [hB] at HR |-;have Jj:=AX hB;clear hs hr hl hlen hT hn hB;go_enter Tryz.func105,Tryz.ntmps105
 go_wp2_with fail
 go_fit HR.out
 rintro e w1 ⟨A,C,rfl,hrow,hu1⟩;have KZ:=AX hrow;have DJ:=AX hu1;clear hrow hu1;go_wp2_with fail
 go_loopg [10] n (λm s10 wr=>∃k,m+k=n/\s10=.int .i64 (k:Int)/\MO.row wr B (.slice A n C) ((T.take k).map Ii++T.drop k)/\Bj [] w wr)
 case atStart=>exact ⟨0,rfl,rfl,by simpa using KZ.out,DJ.out⟩
 case round=>
  obtain ⟨k,hk,rfl,ht,hu⟩:=hrel;have b0:(0:Int)<=(k:Int):=AY _;by_cases hlt:k<n
  ·obtain ⟨b,hb⟩:∃b,T[k]? = some b:=⟨_,Ba (Ac HN)⟩;obtain ⟨R,hR⟩:=AU ((T.take k).map Ii++T.drop k);have hlk:((T.take k).map Ii).length=k:=by rw [List.length_map,Bf];have:=HN.out;omega
   have hdk:T.drop k=b::T.drop (k+1):=by
    have hk':k<T.length:=Ac HN;rw [List.drop_eq_getElem_cons hk'];have:=Ba hk';rw [hb] at this
    cases this
    rfl
   have hRk:R[k]? = some b:=by
    rw [<-hR,List.getElem?_append_right (by omega),hlk,Nat.sub_self,hdk];rfl
   have hRn:(T.take (k+1)).map Ii++T.drop (k+1)=R.set k (Ii b):=by
    rw [<-hR,hdk,List.set_append_right _ _ (by omega),hlk,Nat.sub_self,List.set_cons_zero,List.take_add_one,hb,List.map_append,List.append_assoc];rfl
   have hRl:R.length=n:=by
    rw [<-hR,Bc,hlk,List.length_drop];have:=HN.out;omega
   rw [hR] at ht;obtain ⟨g,o,hA,-,-,l0,l1,l2,l3⟩:=MO.at (See.BU ht) hRk
   obtain ⟨g',rfl⟩:∃g',A=some ⟨g',0,none⟩:=by
    rcases ht.2 with ⟨h,-⟩ | ⟨g',cap,cur,h1,-⟩
    ·cases h;simp at hA
    ·cases h1;exact ⟨g',rfl⟩
   cases hA
   rw [Nat.zero_add] at l0 l1 l2 l3;obtain ⟨x1,x2,y1,y2,bi⟩:=b;dsimp only at l0 l1 l2 l3;have b1:(k:Int)<(n:Int):=by omega
   have hrow:MO.row wr B (.slice (some ⟨g,0,none⟩) n C) R:=ht;have FI:Bj [] wr (wr.alloc (.cells #[x1,x2,y1,y2] 245)):=(Bj.refl _ _).alloc _;have hbx:(wr.alloc (.cells #[x1,x2,y1,y2] 245)).heap[wr.heap.size]? = some (.cells #[x1,x2,y1,y2] 245 (0,0)):=heap_alloc_new _ _;have Hr:=AX FI;have G7:=AX hbx;have a6b:=AX hrow;have HRN:=Ap hRn hRl;have HU:=AX hu;have HK:=Ap hk hlt;clear ht hb hR hlk hdk hRk hRn hRl hrow FI hbx hu hk hlt;go_upto_region 5 with fail
   have Nw:=AX (show MO.row _ B _ R from Bl a6b.out Hr.out (by simp));have fJ:=AX (HU.out.trans Hr.out);generalize (wr.alloc (.cells #[x1,x2,y1,y2] 245))=Wb at G7 Nw fJ Hr |-;generalize wr.heap.size=q at G7 |-;have c0:Wb.cell? q=some (.int .i64 x1):=by have:=G7.out;simp [World.cell?,this]
   have c1:Wb.cell? ⟨q,1,none⟩=some (.int .i64 x2):=by have:=G7.out;simp [World.cell?,this]
   have c2:Wb.cell? ⟨q,2,none⟩=some (.int .i64 y1):=by have:=G7.out;simp [World.cell?,this]
   have c3:Wb.cell? ⟨q,3,none⟩=some (.int .i64 y2):=by have:=G7.out;simp [World.cell?,this]
   have HTH:=AX (mW (o:=k*4) (m:=4) (show Wb.ownsRow B 245 4 (.slice (some ⟨g,0,none⟩) n C) n (MO.all R) by have:=Nw.out;unfold Kind.row at this;rw [HRN.2] at this;exact this) (Ac HK.2));have Xj:=AX (MO.put Nw.out HRN.2 HK.2 ⟨y1,y2,x1,x2,0⟩);have Rz:=AX (fJ.out.trans' (Zh g [y1,y2,x1,x2] (k*4) Wb) (λj hj=>.inr (by rw [Jj.out];simp at hj;rw [hj];exact BH Nw.out g (by simp [blk]))));iterate 37 go_step
   refine wpList_store_mid (P:=Tryz.prog) (x:=.tmp 26) (y:=.tmp 25) rfl 245 rfl g (k*4) #[y1,y2,x1,x2] (by simp [Act.eval]) (by simp [Act.eval]) HTH.out (by kernel_rfl) (all_oneCell_toArray (by simp [Value.oneCell'])) ?_
   simp only [Act.put];go_wp2_with fail
   go_roundg (n - (k+1))
   case measure=>have:=HK.out;omega
   case rel=>
    refine ⟨k+1,Ac HK,by go_num,?_,Rz.out⟩
    rw [HRN.1];exact Xj.out
  ·have hke:T.take k=T:=List.take_of_length_le (Ac HN);have hkd:T.drop k = []:=List.drop_eq_nil_of_le (Ac HN);rw [hke,hkd,List.append_nil] at ht;have HR:=Ap ht hu;clear ht hu hk hke hkd;go_wp2_with fail
   go_ret
   exact ⟨_,_,rfl,HR.1,HR.2⟩
