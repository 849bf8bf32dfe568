/- The sweep over the turns of boxes, plainly. What a sweep adds up to: all cells that are covered. Plainly. -/
import Derived.Test.YtkbaaonchdeneaaGreatPc15
import Derived.Test.YtkbaaonchdeneaaGreatPc45
import Derived.Test.YtkbaaonchdeneaaGreatPc46
namespace Go.Proofs.YtkbaaonchdeneaaGreat
section
def UH (M:List Int) (H:List (Nat×Nat)):List Bool:=(List.range (M.length - 1)).map (LH H)
def Ox (M:List Int) (H:List (Nat×Nat)):Part:=KH (mf M) 0 (UH M H)
theorem JH {M:List Int} {H:List (Nat×Nat)} (hH:XJ M H):GZ M H=Ox M H:=by
 unfold GZ Ox UH;split
 ·rename_i h;rw [h];rfl
 ·rw [Tj (M.length - 1) 0 _ _ _ (by omega) (by omega),pz (by omega) (λs hs=>by have:=(hH s hs).2;omega)]
def SC (Y:List Int) (t:Tn):Nat×Nat:=CJ Y t.b.y1 t.b.y2
def stepT (Y:List Int) (H:List (Nat×Nat)) (t:Tn):List (Nat×Nat):=if t.g=true then JG Y H t.b.y1 t.b.y2 else Qp Y H t.b.y1 t.b.y2
def vV (Y:List Int) (H:List (Nat×Nat)) (t:Tn):Nat:=if t.g=true then NJ Y H t.b.y1 t.b.y2 else Y7 Y t.b.y1 t.b.y2
def sw (Y:List Int) (T:List Tn):List (Nat×Nat):=T.foldl (stepT Y) []
theorem XM (Y:List Int) (T:List Tn) (t:Tn):sw Y (T++[t])=stepT Y (sw Y T) t:=by simp [sw,List.foldl_append]
def bgN (Y:List Int) (s:Nat×Nat) (T:List Tn):Nat:=T.countP λt=>!t.g&&decide (SC Y t=s)
def enN (Y:List Int) (s:Nat×Nat) (T:List Tn):Nat:=T.countP λt=>t.g&&decide (SC Y t=s)
theorem JI (P:Tn->Bool):∀(L:List Bx),(L.flatMap λb=>[(⟨b.x1,b,false⟩:Tn),⟨b.x2,b,true⟩]).countP P=L.countP (λb=>P ⟨b.x1,b,false⟩)+L.countP (λb=>P ⟨b.x2,b,true⟩)
 | []=>rfl
 |b::L=>by
  rw [List.flatMap_cons,List.countP_append,JI P L,List.countP_cons,List.countP_cons,List.countP_cons,List.countP_cons,List.countP_nil];omega
theorem UJ {α:Type} (L:List α):L.countP (λ_=>false)=0:=by simp
theorem vW (Y:List Int) (s:Nat×Nat) (x:Int):∀(L:List Bx),(∀b∈L,b.counts=true)->
 L.countP (λb=>decide (CJ Y b.y1 b.y2=s)&&decide (b.x2<=x))<=L.countP (λb=>decide (CJ Y b.y1 b.y2=s)&&decide (b.x1<x)):=by
 intro L h;refine List.countP_mono_left λb hb h1=>?_
 have:=h b hb;unfold Bx.counts at this;simp only [decide_eq_true_eq,Bool.and_eq_true] at this h1 |-;exact ⟨h1.1,by omega⟩
theorem Wn (Y:List Int) (s:Nat×Nat) (x:Int):∀(L:List Bx),(∀b∈L,b.counts=true)->
 L.countP (λb=>decide (CJ Y b.y1 b.y2=s)&&decide (b.x1<=x))=L.countP (λb=>decide (CJ Y b.y1 b.y2=s)&&decide (b.x2<=x))+L.countP (λb=>decide (CJ Y b.y1 b.y2=s)&&decide (b.x1<=x/\x<b.x2))
 | [],_=>rfl
 |b::L,h=>by
  have h0:=h b (by simp);have ih:=Wn Y s x L λc hc=>h c (List.mem_cons_of_mem _ hc)
  unfold Bx.counts at h0;simp only [decide_eq_true_eq] at h0;rw [List.countP_cons,List.countP_cons,List.countP_cons,ih];by_cases h1:CJ Y b.y1 b.y2=s
  ·by_cases h2:b.x1<=x
   ·by_cases h3:b.x2<=x
    ·have h4:¬x<b.x2:=by omega
     simp [h1,h2,h3,h4];omega
    ·have h4:x<b.x2:=by omega
     simp [h1,h2,h3,h4];omega
   ·have h3:¬b.x2<=x:=by omega
    simp [h1,h2,h3]
  ·simp [h1]
section
variable {l:List Bx} {T:List Tn} {Y:List Int}
theorem Kz (hs:T.Pairwise (λs t=>s.x<=t.x)) {k:Nat} {t:Tn} (ht:T[k]? = some t):(∀u∈T.take (k+1),u.x<=t.x)/\(∀u∈T.drop k,t.x<=u.x):=by
 obtain ⟨hk,rfl⟩:=AZ ht;rw [List.pairwise_iff_getElem] at hs;constructor
 ·intro u hu;obtain ⟨j,hj,rfl⟩:=List.getElem_of_mem hu;rw [Bf] at hj;rw [List.getElem_take];rcases Nat.lt_or_ge j k with h | h
  ·exact hs j k (by omega) hk h
  ·obtain rfl:j=k:=by omega
   exact Int.le_refl _
 ·intro u hu;obtain ⟨j,hj,rfl⟩:=List.getElem_of_mem hu;rw [List.length_drop] at hj;rw [List.getElem_drop];rcases Nat.eq_zero_or_pos j with rfl | h
  ·exact Int.le_refl _
  ·exact hs k (k+j) hk (by omega) (by omega)
theorem UK {α:Type} (L:List α) (k:Nat) (P:α->Bool):L.countP P=(L.take k).countP P+(L.drop k).countP P:=by
 rw [<-List.countP_append,List.take_append_drop]
theorem a1q (hp:T.Perm (BL l)) (hs:T.Pairwise (λs t=>s.x<=t.x)) {k:Nat} {t:Tn} (ht:T[k]? = some t) (s:Nat×Nat):enN Y s (T.take (k+1))<=bgN Y s (T.take k):=by
 obtain ⟨h1,h2⟩:=Kz hs ht
 have e1:enN Y s (T.take (k+1))<=T.countP (λu=>u.g&&decide (SC Y u=s)&&decide (u.x<=t.x)):=by
  rw [UK T (k+1)];refine Bh (List.countP_mono_left λu hu h=>?_) (Nat.le_add_right _ _)
  simp only [Bool.and_eq_true,decide_eq_true_eq] at h |-;exact ⟨h,h1 u hu⟩
 have e2:T.countP (λu=>!u.g&&decide (SC Y u=s)&&decide (u.x<t.x))<=bgN Y s (T.take k):=by
  rw [UK T k]
  have hz:(T.drop k).countP (λu=>!u.g&&decide (SC Y u=s)&&decide (u.x<t.x))=0:=by
   rw [List.countP_eq_zero];intro u hu h;have:=h2 u hu;simp only [Bool.and_eq_true,decide_eq_true_eq] at h;omega
  rw [hz];refine List.countP_mono_left λu _ h=>?_
  simp only [Bool.and_eq_true,decide_eq_true_eq] at h |-;exact h.1
 refine Bh e1 (Bh ?_ e2)
 rw [hp.countP_eq,hp.countP_eq];unfold BL;rw [JI,JI];have:=vW Y s t.x (l.filter Bx.counts) (λb hb=>(List.mem_filter.1 hb).2);simp only [Bool.false_and,Bool.not_true,Bool.not_false,Bool.true_and,UJ,Nat.zero_add,Nat.add_zero];exact this
def OkT (Y:List Int) (T:List Tn):Prop:=∀t∈T,FW Y t.b.y1 t.b.y2=true
theorem vX (hp:T.Perm (BL l)) (hs:T.Pairwise (λs t=>s.x<=t.x)) (ok:OkT Y T):∀k,k<=T.length->∀s,(sw Y (T.take k)).count s+enN Y s (T.take k)=bgN Y s (T.take k):=by
 intro k;induction k with
 |zero=>intro _ s;simp [sw,enN,bgN]
 |succ k ih=>
  intro hk s;obtain ⟨t,ht⟩:∃t,T[k]? = some t:=⟨_,Ba (by omega)⟩;have hle:=a1q (Y:=Y) hp hs ht (SC Y t);have ht2:T.take (k+1)=T.take k++[t]:=by rw [List.take_add_one,ht];rfl
  have h0:=ih (by omega) s;have h1:=ih (by omega) (SC Y t);have hok:=ok t (List.mem_of_getElem? ht);rw [ht2,XM];rw [ht2] at hle;unfold enN bgN at h0 h1 hle |-;rw [List.countP_append] at hle |-;rw [List.countP_append];rw [List.countP_singleton] at hle |-;rw [List.countP_singleton];unfold stepT
  cases hg:t.g
  ·simp only [Bool.false_and,Bool.not_false,Bool.true_and,Bool.false_eq_true,if_false,decide_eq_true_eq];unfold Qp;rw [if_pos hok,List.count_cons]
   have e:(CJ Y t.b.y1 t.b.y2==s)=decide (SC Y t=s):=by
    unfold SC;rw [Bool.eq_iff_iff,beq_iff_eq,decide_eq_true_eq]
   rw [e];by_cases hc:SC Y t=s
   ·simp only [hc,decide_true,if_true];omega
   ·simp only [hc,decide_false,Bool.false_eq_true,if_false];omega
  ·rw [hg] at hle;simp only [Bool.true_and,Bool.not_true,Bool.false_and,decide_true,if_true,Bool.false_eq_true,if_false,decide_eq_true_eq] at hle |-;unfold JG;rw [if_pos hok];have e:CJ Y t.b.y1 t.b.y2=SC Y t:=rfl;rw [e];by_cases hc:SC Y t=s
   ·rw [hc] at hle h1 |-;rw [List.count_erase_self,if_pos rfl];omega
   ·rw [List.count_erase_of_ne (λh=>hc h.symm),if_neg hc];omega
theorem vY (hp:T.Perm (BL l)) (hs:T.Pairwise (λs t=>s.x<=t.x)) (ok:OkT Y T) {k:Nat} {t:Tn} (ht:T[k]? = some t) (hg:t.g=true):SC Y t∈sw Y (T.take k):=by
 have hk:=(AZ ht).1;have h1:=vX hp hs ok k (by omega) (SC Y t);have hle:=a1q (Y:=Y) hp hs ht (SC Y t);have ht2:T.take (k+1)=T.take k++[t]:=by rw [List.take_add_one,ht];rfl
 rw [ht2] at hle;unfold enN bgN at h1 hle;rw [List.countP_append,List.countP_singleton,hg] at hle;simp only [Bool.true_and,decide_true,if_true] at hle;exact List.count_pos_iff.1 (by omega)
theorem vZ (hp:T.Perm (BL l)) (hs:T.Pairwise (λs t=>s.x<=t.x)) (ok:OkT Y T) {k:Nat} {t u:Tn} (ht:T[k]? = some t) (hu:T[k+1]? = some u) (hx:t.x<u.x) (s:Nat×Nat) :
 s∈sw Y (T.take (k+1))↔∃b∈l,b.counts=true/\CJ Y b.y1 b.y2=s/\b.x1<=t.x/\t.x<b.x2:=by
 have hk:=(AZ ht).1;have hk2:=(AZ hu).1;obtain ⟨h1,-⟩:=Kz hs ht;obtain ⟨-,h2⟩:=Kz hs hu;have hi:=vX hp hs ok (k+1) (by omega) s
 have e1:∀q:Tn->Bool,(T.take (k+1)).countP q=T.countP (λu=>q u&&decide (u.x<=t.x)):=by
  intro q;rw [UK T (k+1)]
  have hz:(T.drop (k+1)).countP (λu=>q u&&decide (u.x<=t.x))=0:=by
   rw [List.countP_eq_zero];intro v hv h;have:=h2 v hv;simp only [Bool.and_eq_true,decide_eq_true_eq] at h;omega
  rw [hz,Nat.add_zero];refine List.countP_congr λv hv=>?_
  have:=h1 v hv;simp [this]
 have e2:enN Y s (T.take (k+1))=(l.filter Bx.counts).countP (λb=>decide (CJ Y b.y1 b.y2=s)&&decide (b.x2<=t.x)):=by
  unfold enN;rw [e1,hp.countP_eq];unfold BL;rw [JI];simp only [Bool.false_and,Bool.true_and,UJ,Nat.zero_add];rfl
 have e3:bgN Y s (T.take (k+1))=(l.filter Bx.counts).countP (λb=>decide (CJ Y b.y1 b.y2=s)&&decide (b.x1<=t.x)):=by
  unfold bgN;rw [e1,hp.countP_eq];unfold BL;rw [JI];simp only [Bool.false_and,Bool.true_and,Bool.not_true,Bool.not_false,UJ,Nat.add_zero];rfl
 have h3:=Wn Y s t.x (l.filter Bx.counts) (λb hb=>(List.mem_filter.1 hb).2);rw [e2,e3,h3] at hi;rw [<-List.count_pos_iff,show (sw Y (T.take (k+1))).count s=(l.filter Bx.counts).countP (λb=>decide (CJ Y b.y1 b.y2=s)&&decide (b.x1<=t.x/\t.x<b.x2)) by omega,List.countP_pos_iff];constructor
 ·rintro ⟨b,hb,h⟩;have hb':=List.mem_filter.1 hb;simp only [Bool.and_eq_true,decide_eq_true_eq] at h;exact ⟨b,hb'.1,hb'.2,h.1,h.2⟩
 ·rintro ⟨b,hb,hc,h4,h5⟩;exact ⟨b,List.mem_filter.2 ⟨hb,hc⟩,by simp only [Bool.and_eq_true,decide_eq_true_eq];exact ⟨h4,h5⟩⟩
theorem Rk (hY:Y.Pairwise (· < ·)) {lo hi:Int} {i:Nat} (h:i<Y.length):((CJ Y lo hi).1<=i↔lo<=mf Y i)/\(i<(CJ Y lo hi).2↔mf Y i<hi):=by
 have hle:=hY.imp (λ{a b} (hab:a<b)=>Int.le_of_lt hab);have h1:=JD hle lo i _ (FM h);have h2:=JD hle hi i _ (FM h);unfold CJ;dsimp only;exact ⟨by omega,by omega⟩
theorem Zb (hp:T.Perm (BL l)) (hs:T.Pairwise (λs t=>s.x<=t.x)) (ok:OkT Y T) (hY:Y.Pairwise (· < ·)) {k:Nat} {t u:Tn} (ht:T[k]? = some t) (hu:T[k+1]? = some u) (hx:t.x<u.x) {i:Nat} (hi:i<Y.length) :
 LH (sw Y (T.take (k+1))) i=Dq l t.x (mf Y i):=by
 unfold LH Dq;rw [Bool.eq_iff_iff,List.any_eq_true,List.any_eq_true];constructor
 ·rintro ⟨s,h1,h2⟩;obtain ⟨b,hb,hc,rfl,h3,h4⟩:=(vZ hp hs ok ht hu hx s).1 h1;simp only [Bool.and_eq_true,decide_eq_true_eq] at h2;have h5:=Rk hY (lo:=b.y1) (hi:=b.y2) hi;refine ⟨b,hb,?_⟩
  unfold Bx.cell;rw [decide_eq_true_eq];exact ⟨h3,h4,h5.1.1 h2.1,h5.2.1 h2.2⟩
 ·rintro ⟨b,hb,h⟩;have hc:=Dz h;unfold Bx.cell at h;rw [decide_eq_true_eq] at h;have h5:=Rk hY (lo:=b.y1) (hi:=b.y2) hi;refine ⟨CJ Y b.y1 b.y2,(vZ hp hs ok ht hu hx _).2 ⟨b,hb,hc,rfl,h.1,h.2.1⟩,?_⟩
  simp only [Bool.and_eq_true,decide_eq_true_eq];exact ⟨h5.1.2 h.2.2.1,h5.2.2 h.2.2.2⟩
end
theorem XO (a:Int) (l:List Int) (i:Nat):mf (a::l) (i+1)=mf l i:=by unfold mf;rw [List.getElem?_cons_succ]
theorem KA (f:Int->Int):∀(l:List Int) (g:Nat->Nat),(∀i,i<l.length - 1->(g i:Int)=f (mf l i)*(mf l (i+1) - mf l i))->(EH g (l.length - 1):Int)=Dv f l
 | [],g,_=>rfl
 | [_],g,_=>rfl
 |x::y::r,g,h=>by
  have e:(x::y::r).length - 1=((y::r).length - 1)+1:=by simp
  rw [e,Wi,Dv];have h0:=h 0 (by simp);have e0:mf (x::y::r) 0=x:=rfl;have e1:mf (x::y::r) (0+1)=y:=rfl;rw [e0,e1] at h0
  have ih:=KA f (y::r) (λi=>g (i+1)) (λi hi=>by
   have:=h (i+1) (by simp at hi |-;omega);rw [XO,XO] at this;exact this)
  rw [Int.natCast_add,h0,ih]
theorem Qu {Y:List Int} (hY:Y.Pairwise (· < ·)) (p:Nat->Bool):∀n,n<Y.length\/n=0->Hl (mf Y) 0 ((List.range n).map p)=(EH (λi=>if p i=true then (mf Y (i+1) - mf Y i).toNat else 0) n:Int)
 |0,_=>rfl
 |n+1,h=>by
  have hlt:mf Y n<mf Y (n+1):=by
   have:=List.pairwise_iff_getElem.1 hY n (n+1) (by omega) (by omega) (by omega);unfold mf;rw [Ba (by omega),Ba (by omega)];exact this
  rw [List.range_succ,List.map_append,VD,Qu hY p n (.inl (by omega)),EH];simp only [List.map_cons,List.map_nil,Hl,List.length_map,List.length_range,Nat.zero_add,Int.natCast_add];split<;>omega
theorem cZ {Y:List Int} (hY:Y.Pairwise (· < ·)) (c:Int->Bool) {H:List (Nat×Nat)} (hH:XJ Y H) (h:∀i,i<Y.length->LH H i=c (mf Y i)):(GZ Y H).long=Dv (λy=>ind (c y)) Y:=by
 rw [JH hH];unfold Ox UH KH;dsimp only;rw [Qu hY _ _ (by omega)];refine KA _ Y _ λi hi=>?_
 have hlt:mf Y i<mf Y (i+1):=by
  have:=List.pairwise_iff_getElem.1 hY i (i+1) (by omega) (by omega) (by omega);unfold mf;rw [Ba (by omega),Ba (by omega)];exact this
 rw [h i (by omega)]
 cases c (mf Y i)
 ·simp [ind]
 ·simp [ind];omega
end
section
theorem Zc (f:Int->Int):∀(l:List Int),l.Pairwise (·<=·)->(∀(i:Nat) (x y z:Int),l[i]? = some x->l[i+1]? = some y->x<=z->z<y->f z=f x)->
 ∀p q,l.head? = some p->l.getLast? = some q->Gj f p q=Dv f l/\p<=q:=by
 intro l;induction l with
 |nil=>intro _ _ p q hp;simp at hp
 |cons x r ih=>
  intro hl hf p q hp hq;simp at hp;subst hp;rcases r with _ | ⟨y,r⟩
  ·simp at hq;subst hq;exact ⟨by rw [Vr (Int.le_refl _)];rfl,Int.le_refl _⟩
  ·have hxy:x<=y:=by
    have:=List.rel_of_pairwise_cons hl (a':=y) (by simp);exact this
   rw [List.getLast?_cons_cons] at hq;obtain ⟨h1,h2⟩:=ih (List.Pairwise.of_cons hl) (λi u v z hu hv h1 h2=>hf (i+1) u v z (by simpa using hu) (by simpa using hv) h1 h2) y q rfl hq;refine ⟨?_,by omega⟩
   rw [GR hxy h2,h1,Dv,IW (f x) hxy (λz h1 h2=>hf 0 x y z rfl rfl h1 h2)]
theorem Rl {l:List Int} (hl:l.Pairwise (·<=·)) {i:Nat} {p q v z:Int} (hp:l[i]? = some p) (hq:l[i+1]? = some q) (hv:v∈l) (h1:p<=z) (h2:z<q):v<=z↔v<=p:=by
 obtain ⟨j,hj,rfl⟩:=List.getElem_of_mem hv;obtain ⟨hi,rfl⟩:=AZ hp;obtain ⟨hi',rfl⟩:=AZ hq;rw [List.pairwise_iff_getElem] at hl;constructor
 ·intro h;rcases Nat.lt_trichotomy j (i+1) with h3 | h3 | h3
  ·rcases Nat.lt_or_ge j i with h4 | h4
   ·exact hl j i hj hi h4
   ·obtain rfl:j=i:=by omega
    exact Int.le_refl _
  ·subst h3;omega
  ·have:=hl (i+1) j hi' hj h3;omega
 ·intro h;omega
theorem wo {l:List Int} (hl:l.Pairwise (·<=·)) {p v:Int} (hp:l.head? = some p) (hv:v∈l):p<=v:=by
 cases l with
 |nil=>simp at hp
 |cons a r=>
  simp at hp;subst hp;rcases List.mem_cons.1 hv with rfl | hv
  ·exact Int.le_refl _
  ·exact List.rel_of_pairwise_cons hl hv
theorem wu {l:List Int} (hl:l.Pairwise (·<=·)) {q v:Int} (hq:l.getLast? = some q) (hv:v∈l):v<=q:=by
 obtain ⟨j,hj,rfl⟩:=List.getElem_of_mem hv;rw [List.getLast?_eq_getElem?] at hq;obtain ⟨hn,rfl⟩:=AZ hq;rw [List.pairwise_iff_getElem] at hl;rcases Nat.lt_or_ge j (l.length - 1) with h | h
 ·exact hl j _ hj hn h
 ·have:j=l.length - 1:=by omega
  subst this;exact Int.le_refl _
section
variable {l:List Bx} {xs ys:List Int}
theorem wC (hxs:xs.Pairwise (·<=·)) (hm:∀v∈Gg l,v∈xs) {i:Nat} {p q z y:Int} (hp:xs[i]? = some p) (hq:xs[i+1]? = some q) (h1:p<=z) (h2:z<q):Dq l z y=Dq l p y:=by
 refine any_congr λb hb=>?_
 by_cases hc:b.counts=true
 ·obtain ⟨m1,m2⟩:=Lp hb hc;have e1:=Rl hxs hp hq (hm _ m1) h1 h2;have e2:=Rl hxs hp hq (hm _ m2) h1 h2;unfold Bx.cell;rw [Bool.eq_iff_iff];simp only [decide_eq_true_eq];omega
 ·cases h3:b.cell z y
  ·cases h4:b.cell p y
   ·rfl
   ·exact absurd (Dz h4) hc
  ·exact absurd (Dz h3) hc
theorem Zd (hxs:xs.Pairwise (·<=·)) (hm:∀v∈Gg l,v∈xs) {p q z y:Int} (hp:xs.head? = some p) (hq:xs.getLast? = some q) (h:z<p\/q<=z):Dq l z y=false:=by
 rw [Bool.eq_false_iff];intro hc;unfold Dq at hc;rw [List.any_eq_true] at hc;obtain ⟨b,hb,hc⟩:=hc;obtain ⟨m1,m2⟩:=Lp hb (Dz hc);have h1:=wo hxs hp (hm _ m1);have h2:=wu hxs hq (hm _ m2);unfold Bx.cell at hc;simp only [decide_eq_true_eq] at hc;omega
theorem Rn {f:Int->Int} {l:List Int} {lo hi:Int} (hl:l.Pairwise (·<=·)) (hin:∀v∈l,lo<=v/\v<=hi)
 (hf:∀(i:Nat) (x y z:Int),l[i]? = some x->l[i+1]? = some y->x<=z->z<y->f z=f x)
 (ho:∀p q z,l.head? = some p->l.getLast? = some q->z<p\/q<=z->f z=0) (hn:l = []->∀z,f z=0):Gj f lo hi=Dv f l:=by
 cases hc:l with
 |nil=>rw [FP λx _ _=>hn hc x];rfl
 |cons a r=>
  have hne:l≠[]:=by rw [hc];simp
  obtain ⟨p,hp⟩:∃p,l.head? = some p:=by rw [hc];exact ⟨a,rfl⟩
  obtain ⟨q,hq⟩:∃q,l.getLast? = some q:=by
   cases h:l.getLast? with
   |none=>rw [List.getLast?_eq_none_iff] at h;exact absurd h hne
   |some q=>exact ⟨q,rfl⟩
  obtain ⟨h1,h2⟩:=Zc f l hl hf p q hp hq;have hpm:p∈l:=List.mem_of_mem_head? hp;have hqm:q∈l:=List.mem_of_getLast? hq;rw [<-hc,IY (hin p hpm).1 h2 (hin q hqm).2 (λx hx=>ho p q x hp hq hx),h1]
theorem Ze {lo hi:Int} (hxs:xs.Pairwise (·<=·)) (hys:ys.Pairwise (· < ·)) (mx:∀v,v∈xs↔v∈Gg l) (my:∀v,v∈ys↔v∈BX l)
 (hx:∀v∈xs,lo<=v/\v<=hi) (hy:∀v∈ys,lo<=v/\v<=hi):OD l lo hi=Dv (λx=>Dv (λy=>ind (Dq l x y)) ys) xs:=by
 have e0:ys = []->Gg l = []:=by
  intro h;unfold Gg;rw [List.flatMap_eq_nil_iff];intro b hb;have hb':=List.mem_filter.1 hb;have:=(my b.y1).2 (Jt hb'.1 hb'.2).1;rw [h] at this;simp at this
 have e1:∀x,Gj (λy=>ind (Dq l x y)) lo hi=Dv (λy=>ind (Dq l x y)) ys:=λx=>
  NP hys hy (λi p q z h1 h2 h3 h4=>by rw [oI hys (λv hv=>(my v).2 hv) h1 h2 h3 h4]) (λp q z h1 h2 h3=>by rw [SQ hys (λv hv=>(my v).2 hv) h1 h2 h3];rfl)
   (λh z=>by rw [Ju (e0 h)];rfl)
 unfold OD;rw [EL λx _ _=>e1 x]
 refine Rn hxs hx (λi p q z h1 h2 h3 h4=>Jh _ λy _=>by rw [wC hxs (λv hv=>(mx v).2 hv) h1 h2 h3 h4])
  (λp q z h1 h2 h3=>Gq _ λy _=>by rw [Zd hxs (λv hv=>(mx v).2 hv) h1 h2 h3];rfl) (λh z=>Gq _ λy _=>?_)
 have hX:Gg l = []:=by
  rw [List.eq_nil_iff_forall_not_mem];intro v hv;have:=(mx v).2 hv;rw [h] at this;simp at this
 rw [Ju hX];rfl
end
theorem IJ {l:List Bx} (v:Int):v∈(BL l).map Tn.x↔v∈Gg l:=by
 unfold BL Gg;simp only [List.mem_map,List.mem_flatMap,List.mem_cons,List.not_mem_nil,or_false];constructor
 ·rintro ⟨t,⟨b,hb,h⟩,rfl⟩;rcases h with rfl | rfl
  ·exact ⟨b,hb,.inl rfl⟩
  ·exact ⟨b,hb,.inr rfl⟩
 ·rintro ⟨b,hb,rfl | rfl⟩
  ·exact ⟨_,⟨b,hb,.inl rfl⟩,rfl⟩
  ·exact ⟨_,⟨b,hb,.inr rfl⟩,rfl⟩
theorem mJ {l:List Bx} {t:Tn} (h:t∈BL l):t.b∈l/\t.b.counts=true:=by
 unfold BL at h;simp only [List.mem_flatMap,List.mem_filter,List.mem_cons,List.not_mem_nil,or_false] at h;obtain ⟨b,⟨h1,h2⟩,rfl | rfl⟩:=h
 ·exact ⟨h1,h2⟩
 ·exact ⟨h1,h2⟩
theorem okT {l:List Bx} {T:List Tn} (hp:T.Perm (BL l)):OkT (Fq (BX l)) T:=by
 intro t ht;obtain ⟨h1,h2⟩:=mJ (hp.mem_iff.1 ht);obtain ⟨m1,m2⟩:=Jt h1 h2;unfold Bx.counts at h2;rw [decide_eq_true_eq] at h2;unfold FW;rw [decide_eq_true (MZ m1),decide_eq_true (MZ m2)];simp only [Bool.true_and,decide_eq_true_eq];unfold below;rw [<-List.countP_eq_length_filter,<-List.countP_eq_length_filter];refine List.countP_mono_left λx _ h=>?_
 rw [decide_eq_true_eq] at h |-;omega
theorem UL {Y:List Int} (hM:Du Y):∀(T:List Tn),XJ Y (sw Y T):=by
 intro T
 have:∀(T:List Tn) (H:List (Nat×Nat)),XJ Y H->XJ Y (T.foldl (stepT Y) H):=by
  intro T;induction T with
  |nil=>intro H h;exact h
  |cons t T ih=>
   intro H h;rw [List.foldl_cons];refine ih _ ?_
   unfold stepT;split
   ·exact vS h
   ·exact a0r hM h
 exact this T [] (λs hs=>by simp at hs)
theorem wE (Y:List Int):∀(T:List Tn),(sw Y T).length<=T.length:=by
 intro T
 have:∀(T:List Tn) (H:List (Nat×Nat)),(T.foldl (stepT Y) H).length<=H.length+T.length:=by
  intro T;induction T with
  |nil=>intro H;exact Nat.le_refl _
  |cons t T ih=>
   intro H;rw [List.foldl_cons,List.length_cons];have h1:=ih (stepT Y H t)
   have h2:(stepT Y H t).length<=H.length+1:=by
    unfold stepT JG Qp;split
    ·split
     ·have:=List.length_erase_le (a:=CJ Y t.b.y1 t.b.y2) (l:=H);omega
     ·omega
    ·split
     ·simp
     ·omega
   omega
 have:=this T [];rw [List.length_nil,Nat.zero_add] at this;exact this
def JJ (Y:List Int) (T:List Tn) (k:Nat):Int:=(GZ Y (sw Y (T.take (k+1)))).long
def IK (Y:List Int) (T:List Tn) (k:Nat):Nat:=(JJ Y T k).toNat*(mf (T.map Tn.x) (k+1) - mf (T.map Tn.x) k).toNat
theorem Ro {Y:List Int} (hM:Du Y) (T:List Tn) (k:Nat):0<=JJ Y T k/\JJ Y T k<18446744073709551616:=by
 unfold JJ;rw [JH (UL hM _)];unfold Ox UH KH;dsimp only;by_cases h0:Y.length - 1=0
 ·rw [h0];simp [Hl]
 rw [Qu hM.rise _ _ (by omega)];refine ⟨by omega,?_⟩
 have hb:∀(p:Nat->Bool) n,n<Y.length->(EH (λi=>if p i=true then (mf Y (i+1) - mf Y i).toNat else 0) n:Int)<=mf Y n - mf Y 0:=by
  intro p n;induction n with
  |zero=>intro _;simp [EH]
  |succ n ih=>
   intro hn;have h1:=ih (by omega)
   have hlt:mf Y n<mf Y (n+1):=by
    have:=List.pairwise_iff_getElem.1 hM.rise n (n+1) (by omega) (by omega) (by omega);unfold mf;rw [Ba (by omega),Ba (by omega)];exact this
   rw [EH];split<;>omega
 have h1:=hb (LH (sw Y (T.take (k+1)))) (Y.length - 1) (by omega);have g1:=hM.wf _ (List.mem_of_getElem? (FM (M:=Y) (i:=Y.length - 1) (by omega)));have g2:=hM.wf _ (List.mem_of_getElem? (FM (M:=Y) (i:=0) (by omega)));omega
theorem Hz {l:List Bx} (hb:∀b∈l,b.CS) (hl:l.length<100000):Du (Fq (BX l)):=by
 refine ⟨TI _,λx hx=>?_,?_⟩
 ·have hx:=Xd hx;unfold BX at hx;obtain ⟨b,h1,h2⟩:=List.mem_flatMap.1 hx;have h3:=hb b (List.mem_filter.1 h1).1;unfold Bx.CS at h3;simp at h2;rcases h2 with rfl | rfl
  ·exact h3.2.2.1
  ·exact h3.2.2.2
 ·have:=OU (BX l);have:=EG l;omega
def GN (l:List Bx):Int:=OD l (-9223372036854775808) 9223372036854775807
theorem a0v (l:List Bx):0<=GN l/\NC (GN l).toNat:=by
 refine ⟨WJ _ _ _,?_⟩
 have h2:=oO l (lo:=-9223372036854775808) (hi:=9223372036854775807) (by omega);have e:((9223372036854775807:Int) - -9223372036854775808)*(9223372036854775807 - -9223372036854775808)=340282366920938463426481119284349108225:=by decide
 rw [e] at h2;unfold NC GN;omega
theorem UM {l:List Bx} {T:List Tn} (hb:∀b∈l,b.CS) (hl:l.length<100000) (hp:T.Perm (BL l)) (hs:T.Pairwise (λs t=>s.x<=t.x)) :
 (EH (IK (Fq (BX l)) T) (T.length - 1):Int)=GN l:=by
 have hM:=Hz hb hl;have hmx:∀v,v∈T.map Tn.x↔v∈Gg l:=λv=>by rw [<-IJ,(hp.map Tn.x).mem_iff]
 have hX:(T.map Tn.x).Pairwise (·<=·):=by rw [List.pairwise_map];exact hs
 have hin:∀v∈T.map Tn.x,(-9223372036854775808:Int)<=v/\v<=9223372036854775807:=by
  intro v hv;have hx:=(hmx v).1 hv;unfold Gg at hx;obtain ⟨b,h1,h2⟩:=List.mem_flatMap.1 hx;have h3:=hb b (List.mem_filter.1 h1).1;unfold Bx.CS at h3;simp at h2;rcases h2 with rfl | rfl
  ·exact h3.1
  ·exact h3.2.1
 unfold GN;rw [Ze hX hM.rise hmx (λv=>⟨Xd,MZ⟩) hin hM.wf];have e:T.length - 1=(T.map Tn.x).length - 1:=by rw [List.length_map]
 rw [e];refine KA _ _ _ λi hi=>?_
 rw [List.length_map] at hi;obtain ⟨t,ht⟩:∃t,T[i]? = some t:=⟨_,Ba (by omega)⟩;obtain ⟨u,hu⟩:∃u,T[i+1]? = some u:=⟨_,Ba (by omega)⟩;have et:mf (T.map Tn.x) i=t.x:=by unfold mf;rw [List.getElem?_map,ht];rfl
 have eu:mf (T.map Tn.x) (i+1)=u.x:=by unfold mf;rw [List.getElem?_map,hu];rfl
 have htu:=(Kz hs ht).2 u (List.mem_of_getElem? (i:=1) (by rw [List.getElem?_drop];exact hu));have hn:=Ro hM T i;unfold IK;rw [et,eu,Int.natCast_mul,Int.toNat_of_nonneg hn.1,Int.toNat_of_nonneg (by omega)];rcases Int.lt_or_eq_of_le htu with hx | hx
 ·unfold JJ;rw [cZ hM.rise (Dq l t.x) (UL hM _) λj hj=>Zb hp hs (okT hp) hM.rise ht hu hx hj]
 ·rw [hx];simp
theorem dh {l:List Bx} {T:List Tn} (hb:∀b∈l,b.CS) (hl:l.length<100000) (hp:T.Perm (BL l)) (hs:T.Pairwise (λs t=>s.x<=t.x)) {k:Nat} (hk:k<=T.length - 1) :
 NC (EH (IK (Fq (BX l)) T) k):=by
 have h1:=Wj (IK (Fq (BX l)) T) hk;have h2:=UM hb hl hp hs;have h3:=a0v l;exact h3.2.mono (by omega)
def CG (Y:List Int) (T:List Tn):Nat:=(T.map λt=>Ky (SC Y t) (Y.length - 1)).sum
theorem Zf {l:List Bx} {T:List Tn} (hp:T.Perm (BL l)) (hs:T.Pairwise (λs t=>s.x<=t.x)) {k:Nat} {t:Tn} (ht:T[k]? = some t) :
 vV (Fq (BX l)) (sw (Fq (BX l)) (T.take k)) t=Ky (SC (Fq (BX l)) t) ((Fq (BX l)).length - 1):=by
 have hok:=okT hp t (List.mem_of_getElem? ht);unfold vV;split
 ·rename_i hg
  have:=vY hp hs (okT hp) ht hg;unfold NJ;have h2:CJ (Fq (BX l)) t.b.y1 t.b.y2∈sw (Fq (BX l)) (T.take k):=this;rw [if_pos hok,if_pos h2];rfl
 ·unfold Y7;rw [if_pos hok];rfl
theorem Ia {Y:List Int} {T U:List Tn} (h:T.Perm U):CG Y T=CG Y U:=(h.map _).sum_nat
theorem Zg (Y:List Int) {T:List Tn} {k:Nat} {t:Tn} (ht:T[k]? = some t):CG Y (T.take (k+1))=CG Y (T.take k)+Ky (SC Y t) (Y.length - 1):=by
 unfold CG;rw [List.take_add_one,ht,List.map_append,List.sum_append_nat];simp
theorem JK (Y:List Int) (hl:Y.length<400000) (T:List Tn):CG Y T<=T.length*100:=by
 unfold CG;induction T with
 |nil=>simp
 |cons t T ih=>
  rw [List.map_cons,List.sum_cons,List.length_cons]
  have:Ky (SC Y t) (Y.length - 1)<=100:=by
   unfold Ky;split
   ·omega
   ·have h1:=eU (a:=(SC Y t).1) (b:=(SC Y t).2) (Y.length - 1) 0 (Y.length - 1) (by omega);have h2:=Y6 (n:=Y.length - 1) (by omega);rw [Nat.sub_zero] at h1;omega
  omega
