/- Sums over whole numbers from one to another, and over blocks between lines. No program. Boxes, -/
namespace Go.Proofs.YtkbaaonchdeneaaGreat
section
def KY (f:Int->Int) (a:Int):Nat->Int
 |0=>0
 |n+1=>KY f a n+f (a+n)
def Gj (f:Int->Int) (a b:Int):Int:=KY f a (b - a).toNat
theorem SL {f g:Int->Int} {a:Int}:∀(n:Nat),(∀x,a<=x->x<a+n->f x=g x)->KY f a n=KY g a n
 |0,_=>rfl
 |n+1,h=>by
  rw [KY,KY,SL n (λx h1 h2=>h x h1 (by omega)),h (a+n) (by omega) (by omega)]
theorem QD (f:Int->Int) (a:Int) (m:Nat):∀(n:Nat),KY f a (m+n)=KY f a m+KY f (a+m) n
 |0=>by simp [KY]
 |n+1=>by
  rw [<-Nat.add_assoc,KY,QD f a m n,KY];have e:a+((m+n:Nat):Int)=a+m+n:=by omega
  rw [e];omega
theorem NM (k a:Int):∀(n:Nat),KY (λ_=>k) a n=k*n
 |0=>by simp [KY]
 |n+1=>by simp only [KY];rw [NM k a n,Int.natCast_add,Int.mul_add];simp
theorem Vq {f g:Int->Int} {a:Int}:∀(n:Nat),(∀x,a<=x->x<a+n->f x<=g x)->KY f a n<=KY g a n
 |0,_=>Int.le_refl _
 |n+1,h=>by
  have h1:=Vq n (λx h1 h2=>h x h1 (by omega));have h2:=h (a+n) (by omega) (by omega);simp only [KY];omega
section
variable {f g:Int->Int} {a b c:Int}
theorem Vr (h:b<=a):Gj f a b=0:=by
 unfold Gj;rw [show (b - a).toNat=0 by omega];rfl
theorem GR (h1:a<=b) (h2:b<=c):Gj f a c=Gj f a b+Gj f b c:=by
 unfold Gj;rw [show (c - a).toNat=(b - a).toNat+(c - b).toNat by omega,QD];rw [show a+((b - a).toNat:Int)=b by omega]
theorem EL (h:∀x,a<=x->x<b->f x=g x):Gj f a b=Gj g a b:=SL _ λx h1 h2=>h x h1 (by omega)
theorem Vs (h:∀x,a<=x->x<b->f x<=g x):Gj f a b<=Gj g a b:=Vq _ λx h1 h2=>h x h1 (by omega)
theorem SN (k:Int) (hab:a<=b):Gj (λ_=>k) a b=k*(b - a):=by
 unfold Gj;rw [NM,Int.toNat_of_nonneg (by omega)]
theorem Vt:Gj (λ_=>0) a b=0:=by
 unfold Gj;rw [NM];simp
theorem FP (h:∀x,a<=x->x<b->f x=0):Gj f a b=0:=by
 rw [EL (g:=λ_=>0) h,Vt]
theorem IW (k:Int) (hab:a<=b) (h:∀x,a<=x->x<b->f x=k):Gj f a b=k*(b - a):=by
 rw [EL h,SN k hab]
theorem IX (h:∀x,a<=x->x<b->0<=f x):0<=Gj f a b:=by
 have:=Vs (f:=λ_=>0) (g:=f) (a:=a) (b:=b) h;rwa [Vt] at this
theorem WI (k:Int) (hab:a<=b) (h:∀x,a<=x->x<b->f x<=k):Gj f a b<=k*(b - a):=by
 have:=Vs (f:=f) (g:=λ_=>k) (a:=a) (b:=b) h;rwa [SN k hab] at this
end
theorem IY {f:Int->Int} {a b p q:Int} (h1:a<=p) (h2:p<=q) (h3:q<=b) (hz:∀x,x<p\/q<=x->f x=0):Gj f a b=Gj f p q:=by
 rw [GR h1 (Int.le_trans h2 h3),GR h2 h3,FP (b:=p) (λx _ hx=>hz x (.inl hx)),FP (a:=q) (λx hx _=>hz x (.inr hx))];omega
def Dv (f:Int->Int):List Int->Int
 |x::y::r=>f x*(y - x)+Dv f (y::r)
 |_=>0
theorem Zy (f:Int->Int):∀(l:List Int),l.Pairwise (· < ·)->(∀(i:Nat) (x y z:Int),l[i]? = some x->l[i+1]? = some y->x<=z->z<y->f z=f x)->
 ∀p q,l.head? = some p->l.getLast? = some q->Gj f p q=Dv f l/\p<=q:=by
 intro l;induction l with
 |nil=>intro _ _ p q hp;simp at hp
 |cons x r ih=>
  intro hl hf p q hp hq;simp at hp;subst hp;rcases r with _ | ⟨y,r⟩
  ·simp at hq;subst hq;exact ⟨by rw [Vr (Int.le_refl _)];rfl,Int.le_refl _⟩
  ·have hxy:x<y:=by
    have:=List.rel_of_pairwise_cons hl (a':=y) (by simp);exact this
   rw [List.getLast?_cons_cons] at hq;obtain ⟨h1,h2⟩:=ih (List.Pairwise.of_cons hl) (λi u v z hu hv h1 h2=>hf (i+1) u v z (by simpa using hu) (by simpa using hv) h1 h2) y q rfl hq;refine ⟨?_,by omega⟩
   rw [GR (Int.le_of_lt hxy) h2,h1,Dv,IW (f x) (Int.le_of_lt hxy) (λz h1 h2=>hf 0 x y z rfl rfl h1 h2)]
end
section
structure Bx where
 x1:Int
 x2:Int
 y1:Int
 y2:Int
 id:Nat
deriving DecidableEq
def Bx.cell (b:Bx) (x y:Int):Bool:=decide (b.x1<=x/\x<b.x2/\b.y1<=y/\y<b.y2)
def Bx.counts (b:Bx):Bool:=decide (b.x1<b.x2/\b.y1<b.y2)
def Bx.CS (b:Bx):Prop:=(-9223372036854775808<=b.x1/\b.x1<=9223372036854775807)/\(-9223372036854775808<=b.x2/\b.x2<=9223372036854775807)/\(-9223372036854775808<=b.y1/\b.y1<=9223372036854775807)/\(-9223372036854775808<=b.y2/\b.y2<=9223372036854775807)
def Dq (l:List Bx) (x y:Int):Bool:=l.any λb=>b.cell x y
def ind (b:Bool):Int:=if b then 1 else 0
theorem Zz (b:Bool):0<=ind b/\ind b<=1:=by cases b<;>simp [ind]
def Gg (l:List Bx):List Int:=(l.filter Bx.counts).flatMap λb=>[b.x1,b.x2]
def BX (l:List Bx):List Int:=(l.filter Bx.counts).flatMap λb=>[b.y1,b.y2]
theorem Dz {b:Bx} {x y:Int} (h:b.cell x y=true):b.counts=true:=by
 unfold Bx.cell at h;unfold Bx.counts;simp only [decide_eq_true_eq] at h |-;omega
theorem JU {l:List Int} (hl:l.Pairwise (· < ·)) {i:Nat} {p q v z:Int} (hp:l[i]? = some p) (hq:l[i+1]? = some q) (hv:v∈l) (h1:p<=z) (h2:z<q):v<=z↔v<=p:=by
 obtain ⟨j,hj,rfl⟩:=List.getElem_of_mem hv;obtain ⟨hi,rfl⟩:=List.getElem?_eq_some_iff.1 hp;obtain ⟨hi',rfl⟩:=List.getElem?_eq_some_iff.1 hq;rw [List.pairwise_iff_getElem] at hl;constructor
 ·intro h;rcases Nat.lt_trichotomy j (i+1) with h3 | h3 | h3
  ·rcases Nat.lt_or_ge j i with h4 | h4
   ·have:=hl j i hj hi h4;omega
   ·obtain rfl:j=i:=by omega
    exact Int.le_refl _
  ·subst h3;omega
  ·have:=hl (i+1) j hi' hj h3;omega
 ·intro h;omega
section
variable {l:List Bx} {xs ys:List Int}
theorem Lp {b:Bx} (hb:b∈l) (hc:b.counts=true):b.x1∈Gg l/\b.x2∈Gg l:=by
 unfold Gg;have:b∈l.filter Bx.counts:=List.mem_filter.2 ⟨hb,hc⟩;exact ⟨List.mem_flatMap.2 ⟨b,this,by simp⟩,List.mem_flatMap.2 ⟨b,this,by simp⟩⟩
theorem Jt {b:Bx} (hb:b∈l) (hc:b.counts=true):b.y1∈BX l/\b.y2∈BX l:=by
 unfold BX;have:b∈l.filter Bx.counts:=List.mem_filter.2 ⟨hb,hc⟩;exact ⟨List.mem_flatMap.2 ⟨b,this,by simp⟩,List.mem_flatMap.2 ⟨b,this,by simp⟩⟩
theorem any_congr {α:Type} {p q:α->Bool}:∀{l:List α},(∀b∈l,p b=q b)->l.any p=l.any q
 | [],_=>rfl
 |a::r,h=>by
  rw [List.any_cons,List.any_cons,h a (by simp),any_congr λb hb=>h b (List.mem_cons_of_mem _ hb)]
theorem a3z (hxs:xs.Pairwise (· < ·)) (hm:∀v∈Gg l,v∈xs) {i:Nat} {p q z y:Int} (hp:xs[i]? = some p) (hq:xs[i+1]? = some q) (h1:p<=z) (h2:z<q):Dq l z y=Dq l p y:=by
 refine any_congr λb hb=>?_
 by_cases hc:b.counts=true
 ·obtain ⟨m1,m2⟩:=Lp hb hc;have e1:=JU hxs hp hq (hm _ m1) h1 h2;have e2:=JU hxs hp hq (hm _ m2) h1 h2;unfold Bx.cell;rw [Bool.eq_iff_iff];simp only [decide_eq_true_eq];omega
 ·cases h3:b.cell z y
  ·cases h4:b.cell p y
   ·rfl
   ·exact absurd (Dz h4) hc
  ·exact absurd (Dz h3) hc
theorem oI (hys:ys.Pairwise (· < ·)) (hm:∀v∈BX l,v∈ys) {i:Nat} {p q z x:Int} (hp:ys[i]? = some p) (hq:ys[i+1]? = some q) (h1:p<=z) (h2:z<q):Dq l x z=Dq l x p:=by
 refine any_congr λb hb=>?_
 by_cases hc:b.counts=true
 ·obtain ⟨m1,m2⟩:=Jt hb hc;have e1:=JU hys hp hq (hm _ m1) h1 h2;have e2:=JU hys hp hq (hm _ m2) h1 h2;unfold Bx.cell;rw [Bool.eq_iff_iff];simp only [decide_eq_true_eq];omega
 ·cases h3:b.cell x z
  ·cases h4:b.cell x p
   ·rfl
   ·exact absurd (Dz h4) hc
  ·exact absurd (Dz h3) hc
theorem dY {l:List Int} (hl:l.Pairwise (· < ·)) {p v:Int} (hp:l.head? = some p) (hv:v∈l):p<=v:=by
 cases l with
 |nil=>simp at hp
 |cons a r=>
  simp at hp;subst hp;rcases List.mem_cons.1 hv with rfl | hv
  ·exact Int.le_refl _
  ·exact Int.le_of_lt (List.rel_of_pairwise_cons hl hv)
theorem le_last {l:List Int} (hl:l.Pairwise (· < ·)) {q v:Int} (hq:l.getLast? = some q) (hv:v∈l):v<=q:=by
 obtain ⟨j,hj,rfl⟩:=List.getElem_of_mem hv;rw [List.getLast?_eq_getElem?] at hq;obtain ⟨hn,rfl⟩:=List.getElem?_eq_some_iff.1 hq;rw [List.pairwise_iff_getElem] at hl;rcases Nat.lt_or_ge j (l.length - 1) with h | h
 ·exact Int.le_of_lt (hl j _ hj hn h)
 ·have:j=l.length - 1:=by omega
  subst this;exact Int.le_refl _
theorem xX (hxs:xs.Pairwise (· < ·)) (hm:∀v∈Gg l,v∈xs) {p q z y:Int} (hp:xs.head? = some p) (hq:xs.getLast? = some q) (h:z<p\/q<=z):Dq l z y=false:=by
 rw [Bool.eq_false_iff];intro hc;unfold Dq at hc;rw [List.any_eq_true] at hc;obtain ⟨b,hb,hc⟩:=hc;obtain ⟨m1,m2⟩:=Lp hb (Dz hc);have h1:=dY hxs hp (hm _ m1);have h2:=le_last hxs hq (hm _ m2);unfold Bx.cell at hc;simp only [decide_eq_true_eq] at hc;omega
theorem SQ (hys:ys.Pairwise (· < ·)) (hm:∀v∈BX l,v∈ys) {p q z x:Int} (hp:ys.head? = some p) (hq:ys.getLast? = some q) (h:z<p\/q<=z):Dq l x z=false:=by
 rw [Bool.eq_false_iff];intro hc;unfold Dq at hc;rw [List.any_eq_true] at hc;obtain ⟨b,hb,hc⟩:=hc;obtain ⟨m1,m2⟩:=Jt hb (Dz hc);have h1:=dY hys hp (hm _ m1);have h2:=le_last hys hq (hm _ m2);unfold Bx.cell at hc;simp only [decide_eq_true_eq] at hc;omega
theorem Ju (h:Gg l = []) (x y:Int):Dq l x y=false:=by
 rw [Bool.eq_false_iff];intro hc;unfold Dq at hc;rw [List.any_eq_true] at hc;obtain ⟨b,hb,hc⟩:=hc;have:=(Lp hb (Dz hc)).1;rw [h] at this;simp at this
end
def OD (l:List Bx) (lo hi:Int):Int:=Gj (λx=>Gj (λy=>ind (Dq l x y)) lo hi) lo hi
def oJ (l:List Bx) (xs ys:List Int):Int:=Dv (λx=>Dv (λy=>ind (Dq l x y)) ys) xs
theorem Jh {f g:Int->Int}:∀(l:List Int),(∀x∈l,f x=g x)->Dv f l=Dv g l
 | [],_=>rfl
 | [_],_=>rfl
 |x::y::r,h=>by
  rw [Dv,Dv,h x (by simp),Jh (y::r) λz hz=>h z (List.mem_cons_of_mem _ hz)]
theorem Gq {f:Int->Int}:∀(l:List Int),(∀x∈l,f x=0)->Dv f l=0
 | [],_=>rfl
 | [_],_=>rfl
 |x::y::r,h=>by
  rw [Dv,h x (by simp),Gq (y::r) λz hz=>h z (List.mem_cons_of_mem _ hz)];simp
theorem NP {f:Int->Int} {l:List Int} {lo hi:Int} (hl:l.Pairwise (· < ·)) (hin:∀v∈l,lo<=v/\v<=hi)
 (hf:∀(i:Nat) (x y z:Int),l[i]? = some x->l[i+1]? = some y->x<=z->z<y->f z=f x)
 (ho:∀p q z,l.head? = some p->l.getLast? = some q->z<p\/q<=z->f z=0) (hn:l = []->∀z,f z=0):Gj f lo hi=Dv f l:=by
 cases hc:l with
 |nil=>rw [FP λx _ _=>hn hc x];rfl
 |cons a r=>
  have hne:l≠[]:=by rw [hc];simp
  obtain ⟨p,hp⟩:∃p,l.head? = some p:=by rw [hc];exact ⟨a,rfl⟩
  obtain ⟨q,hq⟩:∃q,l.getLast? = some q:=by
   cases h:l.getLast? with
   |none=>rw [List.getLast?_eq_none_iff] at h;exact absurd h hne
   |some q=>exact ⟨q,rfl⟩
  obtain ⟨h1,h2⟩:=Zy f l hl hf p q hp hq;have hpm:p∈l:=List.mem_of_mem_head? hp;have hqm:q∈l:=List.mem_of_getLast? hq;rw [<-hc,IY (hin p hpm).1 h2 (hin q hqm).2 (λx hx=>ho p q x hp hq hx),h1]
theorem oM {l:List Bx} {xs ys:List Int} {lo hi:Int} (hxs:xs.Pairwise (· < ·)) (hys:ys.Pairwise (· < ·)) (mx:∀v,v∈xs↔v∈Gg l) (my:∀v,v∈ys↔v∈BX l)
 (hx:∀v∈xs,lo<=v/\v<=hi) (hy:∀v∈ys,lo<=v/\v<=hi):OD l lo hi=oJ l xs ys:=by
 have e0:ys = []->Gg l = []:=by
  intro h;unfold Gg;rw [List.flatMap_eq_nil_iff];intro b hb;have hb':=List.mem_filter.1 hb;have:=(my b.y1).2 (Jt hb'.1 hb'.2).1;rw [h] at this;simp at this
 have e1:∀x,Gj (λy=>ind (Dq l x y)) lo hi=Dv (λy=>ind (Dq l x y)) ys:=λx=>
  NP hys hy (λi p q z h1 h2 h3 h4=>by rw [oI hys (λv hv=>(my v).2 hv) h1 h2 h3 h4]) (λp q z h1 h2 h3=>by rw [SQ hys (λv hv=>(my v).2 hv) h1 h2 h3];rfl)
   (λh z=>by rw [Ju (e0 h)];rfl)
 unfold OD oJ;rw [EL λx _ _=>e1 x]
 refine NP hxs hx (λi p q z h1 h2 h3 h4=>Jh _ λy _=>by rw [a3z hxs (λv hv=>(mx v).2 hv) h1 h2 h3 h4])
  (λp q z h1 h2 h3=>Gq _ λy _=>by rw [xX hxs (λv hv=>(mx v).2 hv) h1 h2 h3];rfl) (λh z=>Gq _ λy _=>?_)
 have hX:Gg l = []:=by
  rw [List.eq_nil_iff_forall_not_mem];intro v hv;have:=(mx v).2 hv;rw [h] at this;simp at this
 rw [Ju hX];rfl
theorem X7 {l m:List Bx} {lo hi:Int} (h:∀x y,Dq l x y=Dq m x y):OD l lo hi=OD m lo hi:=
 EL λx _ _=>EL λy _ _=>by rw [h]
theorem WJ (l:List Bx) (lo hi:Int):0<=OD l lo hi:=IX λ_ _ _=>IX λ_ _ _=>(Zz _).1
theorem oO (l:List Bx) {lo hi:Int} (h:lo<=hi):OD l lo hi<=(hi - lo)*(hi - lo):=
 WI (hi - lo) h λx _ _=>by
  have:=WI (f:=λy=>ind (Dq l x y)) 1 h λy _ _=>(Zz _).2
  omega
