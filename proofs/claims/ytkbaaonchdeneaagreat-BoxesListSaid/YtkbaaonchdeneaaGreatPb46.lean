/- The sweep over the turns of boxes, plainly. What a sweep adds up to: all cells that are covered. Plainly. -/
import Derived.Test.YtkbaaonchdeneaaGreatPb14
import Derived.Test.YtkbaaonchdeneaaGreatPb44
import Derived.Test.YtkbaaonchdeneaaGreatPb45
namespace Go.Proofs.YtkbaaonchdeneaaGreat
def NH (M:List Int) (H:List (Nat×Nat)):List Bool:=(List.range (M.length - 1)).map (MO H)
def Jl (M:List Int) (H:List (Nat×Nat)):Part:=Jb (mf M) 0 (NH M H)
theorem FN {M:List Int} {H:List (Nat×Nat)} (hH:ay M H):G8 M H=Jl M H:=by
 unfold G8 Jl NH;split
 ·rename_i h;rw [h];rfl
 ·rw [WT (M.length - 1) 0 _ _ _ (by omega) (by omega),uK (by omega) (fun s hs=>by have:=(hH s hs).2;omega)]
def Ut (Y:List Int) (t:Tn):Nat×Nat:=CX Y t.b.y1 t.b.y2
def stepT (Y:List Int) (H:List (Nat×Nat)) (t:Tn):List (Nat×Nat):=if t.g=true then NG Y H t.b.y1 t.b.y2 else U4 Y H t.b.y1 t.b.y2
def zk (Y:List Int) (H:List (Nat×Nat)) (t:Tn):Nat:=if t.g=true then Rw Y H t.b.y1 t.b.y2 else fF Y t.b.y1 t.b.y2
def sw (Y:List Int) (T:List Tn):List (Nat×Nat):=T.foldl (stepT Y) []
theorem aC (Y:List Int) (T:List Tn) (t:Tn):sw Y (T++[t])=stepT Y (sw Y T) t:=by simp [sw,List.foldl_append]
def bgN (Y:List Int) (s:Nat×Nat) (T:List Tn):Nat:=T.countP fun t=>!t.g&&decide (Ut Y t=s)
def enN (Y:List Int) (s:Nat×Nat) (T:List Tn):Nat:=T.countP fun t=>t.g&&decide (Ut Y t=s)
theorem NI (P:Tn→Bool):∀(L:List Bx),(L.flatMap fun b=>[(⟨b.x1,b,false⟩:Tn),⟨b.x2,b,true⟩]).countP P=L.countP (fun b=>P ⟨b.x1,b,false⟩)+L.countP (fun b=>P ⟨b.x2,b,true⟩)
 | []=>rfl
 |b::L=>by
  rw [List.flatMap_cons,List.countP_append,NI P L,List.countP_cons,List.countP_cons,List.countP_cons,List.countP_cons,List.countP_nil];omega
theorem X0 {α:Type} (L:List α):L.countP (fun _=>false)=0:=by simp
theorem zl (Y:List Int) (s:Nat×Nat) (x:Int):∀(L:List Bx),(∀b∈L,b.counts=true)→
 L.countP (fun b=>decide (CX Y b.y1 b.y2=s)&&decide (b.x2≤x))≤L.countP (fun b=>decide (CX Y b.y1 b.y2=s)&&decide (b.x1<x)):=by
 intro L h;refine List.countP_mono_left fun b hb h1=>?_
 have:=h b hb;unfold Bx.counts at this;simp only [decide_eq_true_eq,Bool.and_eq_true] at this h1 ⊢;exact ⟨h1.1,by omega⟩
theorem Zf (Y:List Int) (s:Nat×Nat) (x:Int):∀(L:List Bx),(∀b∈L,b.counts=true)→
 L.countP (fun b=>decide (CX Y b.y1 b.y2=s)&&decide (b.x1≤x))=L.countP (fun b=>decide (CX Y b.y1 b.y2=s)&&decide (b.x2≤x))+L.countP (fun b=>decide (CX Y b.y1 b.y2=s)&&decide (b.x1≤x∧x<b.x2))
 | [],_=>rfl
 |b::L,h=>by
  have h0:=h b (by simp);have ih:=Zf Y s x L fun c hc=>h c (List.mem_cons_of_mem _ hc)
  unfold Bx.counts at h0;simp only [decide_eq_true_eq] at h0;rw [List.countP_cons,List.countP_cons,List.countP_cons,ih];by_cases h1:CX Y b.y1 b.y2=s
  ·by_cases h2:b.x1≤x
   ·by_cases h3:b.x2≤x
    ·have h4:¬x<b.x2:=by omega
     simp [h1,h2,h3,h4];omega
    ·have h4:x<b.x2:=by omega
     simp [h1,h2,h3,h4];omega
   ·have h3:¬b.x2≤x:=by omega
    simp [h1,h2,h3]
  ·simp [h1]
section
variable {l:List Bx} {T:List Tn} {Y:List Int}
theorem Ko (hs:T.Pairwise (fun s t=>s.x≤t.x)) {k:Nat} {t:Tn} (ht:T[k]? = some t):(∀u∈T.take (k+1),u.x≤t.x)∧(∀u∈T.drop k,t.x≤u.x):=by
 obtain ⟨hk,rfl⟩:=AV ht;rw [List.pairwise_iff_getElem] at hs;constructor
 ·intro u hu;obtain ⟨j,hj,rfl⟩:=List.getElem_of_mem hu;rw [Ba] at hj;rw [List.getElem_take];rcases Nat.lt_or_ge j k with h | h
  ·exact hs j k (by omega) hk h
  ·obtain rfl:j=k:=by omega
   exact Int.le_refl _
 ·intro u hu;obtain ⟨j,hj,rfl⟩:=List.getElem_of_mem hu;rw [List.length_drop] at hj;rw [List.getElem_drop];rcases Nat.eq_zero_or_pos j with rfl | h
  ·exact Int.le_refl _
  ·exact hs k (k+j) hk (by omega) (by omega)
theorem X3 {α:Type} (L:List α) (k:Nat) (P:α→Bool):L.countP P=(L.take k).countP P+(L.drop k).countP P:=by
 rw [←List.countP_append,List.take_append_drop]
theorem a2m (hp:T.Perm (BF l)) (hs:T.Pairwise (fun s t=>s.x≤t.x)) {k:Nat} {t:Tn} (ht:T[k]? = some t) (s:Nat×Nat):enN Y s (T.take (k+1))≤bgN Y s (T.take k):=by
 obtain ⟨h1,h2⟩:=Ko hs ht
 have e1:enN Y s (T.take (k+1))≤T.countP (fun u=>u.g&&decide (Ut Y u=s)&&decide (u.x≤t.x)):=by
  rw [X3 T (k+1)];refine Bd (List.countP_mono_left fun u hu h=>?_) (Nat.le_add_right _ _)
  simp only [Bool.and_eq_true,decide_eq_true_eq] at h ⊢;exact ⟨h,h1 u hu⟩
 have e2:T.countP (fun u=>!u.g&&decide (Ut Y u=s)&&decide (u.x<t.x))≤bgN Y s (T.take k):=by
  rw [X3 T k]
  have hz:(T.drop k).countP (fun u=>!u.g&&decide (Ut Y u=s)&&decide (u.x<t.x))=0:=by
   rw [List.countP_eq_zero];intro u hu h;have:=h2 u hu;simp only [Bool.and_eq_true,decide_eq_true_eq] at h;omega
  rw [hz];refine List.countP_mono_left fun u _ h=>?_
  simp only [Bool.and_eq_true,decide_eq_true_eq] at h ⊢;exact h.1
 refine Bd e1 (Bd ?_ e2)
 rw [hp.countP_eq,hp.countP_eq];unfold BF;rw [NI,NI];have:=zl Y s t.x (l.filter Bx.counts) (fun b hb=>(List.mem_filter.1 hb).2);simp only [Bool.false_and,Bool.not_true,Bool.not_false,Bool.true_and,X0,Nat.zero_add,Nat.add_zero];exact this
def OkT (Y:List Int) (T:List Tn):Prop:=∀t∈T,Ia Y t.b.y1 t.b.y2=true
theorem zn (hp:T.Perm (BF l)) (hs:T.Pairwise (fun s t=>s.x≤t.x)) (ok:OkT Y T):∀k,k≤T.length→∀s,(sw Y (T.take k)).count s+enN Y s (T.take k)=bgN Y s (T.take k):=by
 intro k;induction k with
 |zero=>intro _ s;simp [sw,enN,bgN]
 |succ k ih=>
  intro hk s;obtain ⟨t,ht⟩:∃t,T[k]? = some t:=⟨_,AX (by omega)⟩;have hle:=a2m (Y:=Y) hp hs ht (Ut Y t);have ht2:T.take (k+1)=T.take k++[t]:=by rw [List.take_add_one,ht];rfl
  have h0:=ih (by omega) s;have h1:=ih (by omega) (Ut Y t);have hok:=ok t (List.mem_of_getElem? ht);rw [ht2,aC];rw [ht2] at hle;unfold enN bgN at h0 h1 hle ⊢;rw [List.countP_append] at hle ⊢;rw [List.countP_append];rw [List.countP_singleton] at hle ⊢;rw [List.countP_singleton];unfold stepT
  cases hg:t.g
  ·simp only [Bool.false_and,Bool.not_false,Bool.true_and,Bool.false_eq_true,if_false,decide_eq_true_eq];unfold U4;rw [if_pos hok,List.count_cons]
   have e:(CX Y t.b.y1 t.b.y2==s)=decide (Ut Y t=s):=by
    unfold Ut;rw [Bool.eq_iff_iff,beq_iff_eq,decide_eq_true_eq]
   rw [e];by_cases hc:Ut Y t=s
   ·simp only [hc,decide_true,if_true];omega
   ·simp only [hc,decide_false,Bool.false_eq_true,if_false];omega
  ·rw [hg] at hle;simp only [Bool.true_and,Bool.not_true,Bool.false_and,decide_true,if_true,Bool.false_eq_true,if_false,decide_eq_true_eq] at hle ⊢;unfold NG;rw [if_pos hok];have e:CX Y t.b.y1 t.b.y2=Ut Y t:=rfl;rw [e];by_cases hc:Ut Y t=s
   ·rw [hc] at hle h1 ⊢;rw [List.count_erase_self,if_pos rfl];omega
   ·rw [List.count_erase_of_ne (fun h=>hc h.symm),if_neg hc];omega
theorem zo (hp:T.Perm (BF l)) (hs:T.Pairwise (fun s t=>s.x≤t.x)) (ok:OkT Y T) {k:Nat} {t:Tn} (ht:T[k]? = some t) (hg:t.g=true):Ut Y t∈sw Y (T.take k):=by
 have hk:=(AV ht).1;have h1:=zn hp hs ok k (by omega) (Ut Y t);have hle:=a2m (Y:=Y) hp hs ht (Ut Y t);have ht2:T.take (k+1)=T.take k++[t]:=by rw [List.take_add_one,ht];rfl
 rw [ht2] at hle;unfold enN bgN at h1 hle;rw [List.countP_append,List.countP_singleton,hg] at hle;simp only [Bool.true_and,decide_true,if_true] at hle;exact List.count_pos_iff.1 (by omega)
theorem zq (hp:T.Perm (BF l)) (hs:T.Pairwise (fun s t=>s.x≤t.x)) (ok:OkT Y T) {k:Nat} {t u:Tn} (ht:T[k]? = some t) (hu:T[k+1]? = some u) (hx:t.x<u.x) (s:Nat×Nat) :
 s∈sw Y (T.take (k+1))↔∃b∈l,b.counts=true∧CX Y b.y1 b.y2=s∧b.x1≤t.x∧t.x<b.x2:=by
 have hk:=(AV ht).1;have hk2:=(AV hu).1;obtain ⟨h1,-⟩:=Ko hs ht;obtain ⟨-,h2⟩:=Ko hs hu;have hi:=zn hp hs ok (k+1) (by omega) s
 have e1:∀q:Tn→Bool,(T.take (k+1)).countP q=T.countP (fun u=>q u&&decide (u.x≤t.x)):=by
  intro q;rw [X3 T (k+1)]
  have hz:(T.drop (k+1)).countP (fun u=>q u&&decide (u.x≤t.x))=0:=by
   rw [List.countP_eq_zero];intro v hv h;have:=h2 v hv;simp only [Bool.and_eq_true,decide_eq_true_eq] at h;omega
  rw [hz,Nat.add_zero];refine List.countP_congr fun v hv=>?_
  have:=h1 v hv;simp [this]
 have e2:enN Y s (T.take (k+1))=(l.filter Bx.counts).countP (fun b=>decide (CX Y b.y1 b.y2=s)&&decide (b.x2≤t.x)):=by
  unfold enN;rw [e1,hp.countP_eq];unfold BF;rw [NI];simp only [Bool.false_and,Bool.true_and,X0,Nat.zero_add];rfl
 have e3:bgN Y s (T.take (k+1))=(l.filter Bx.counts).countP (fun b=>decide (CX Y b.y1 b.y2=s)&&decide (b.x1≤t.x)):=by
  unfold bgN;rw [e1,hp.countP_eq];unfold BF;rw [NI];simp only [Bool.false_and,Bool.true_and,Bool.not_true,Bool.not_false,X0,Nat.add_zero];rfl
 have h3:=Zf Y s t.x (l.filter Bx.counts) (fun b hb=>(List.mem_filter.1 hb).2);rw [e2,e3,h3] at hi;rw [←List.count_pos_iff,show (sw Y (T.take (k+1))).count s=(l.filter Bx.counts).countP (fun b=>decide (CX Y b.y1 b.y2=s)&&decide (b.x1≤t.x∧t.x<b.x2)) by omega,List.countP_pos_iff];constructor
 ·rintro ⟨b,hb,h⟩;have hb':=List.mem_filter.1 hb;simp only [Bool.and_eq_true,decide_eq_true_eq] at h;exact ⟨b,hb'.1,hb'.2,h.1,h.2⟩
 ·rintro ⟨b,hb,hc,h4,h5⟩;exact ⟨b,List.mem_filter.2 ⟨hb,hc⟩,by simp only [Bool.and_eq_true,decide_eq_true_eq];exact ⟨h4,h5⟩⟩
theorem VH (hY:Y.Pairwise (· < ·)) {lo hi:Int} {i:Nat} (h:i<Y.length):((CX Y lo hi).1≤i↔lo≤mf Y i)∧(i<(CX Y lo hi).2↔mf Y i<hi):=by
 have hle:=hY.imp (fun {a b} (hab:a<b)=>Int.le_of_lt hab);have h1:=Nv hle lo i _ (G7 h);have h2:=Nv hle hi i _ (G7 h);unfold CX;dsimp only;exact ⟨by omega,by omega⟩
theorem Ue (hp:T.Perm (BF l)) (hs:T.Pairwise (fun s t=>s.x≤t.x)) (ok:OkT Y T) (hY:Y.Pairwise (· < ·)) {k:Nat} {t u:Tn} (ht:T[k]? = some t) (hu:T[k+1]? = some u) (hx:t.x<u.x) {i:Nat} (hi:i<Y.length) :
 MO (sw Y (T.take (k+1))) i=BN l t.x (mf Y i):=by
 unfold MO BN;rw [Bool.eq_iff_iff,List.any_eq_true,List.any_eq_true];constructor
 ·rintro ⟨s,h1,h2⟩;obtain ⟨b,hb,hc,rfl,h3,h4⟩:=(zq hp hs ok ht hu hx s).1 h1;simp only [Bool.and_eq_true,decide_eq_true_eq] at h2;have h5:=VH hY (lo:=b.y1) (hi:=b.y2) hi;refine ⟨b,hb,?_⟩
  unfold Bx.cell;rw [decide_eq_true_eq];exact ⟨h3,h4,h5.1.1 h2.1,h5.2.1 h2.2⟩
 ·rintro ⟨b,hb,h⟩;have hc:=Dj h;unfold Bx.cell at h;rw [decide_eq_true_eq] at h;have h5:=VH hY (lo:=b.y1) (hi:=b.y2) hi;refine ⟨CX Y b.y1 b.y2,(zq hp hs ok ht hu hx _).2 ⟨b,hb,hc,rfl,h.1,h.2.1⟩,?_⟩
  simp only [Bool.and_eq_true,decide_eq_true_eq];exact ⟨h5.1.2 h.2.2.1,h5.2.2 h.2.2.2⟩
end
theorem Uf (a:Int) (l:List Int) (i:Nat):mf (a::l) (i+1)=mf l i:=by unfold mf;rw [List.getElem?_cons_succ]
theorem Jm (f:Int→Int):∀(l:List Int) (g:Nat→Nat),(∀i,i<l.length - 1→(g i:Int)=f (mf l i)*(mf l (i+1) - mf l i))→(DV g (l.length - 1):Int)=D5 f l
 | [],g,_=>rfl
 | [_],g,_=>rfl
 |x::y::r,g,h=>by
  have e:(x::y::r).length - 1=((y::r).length - 1)+1:=by simp
  rw [e,Ze,D5];have h0:=h 0 (by simp);have e0:mf (x::y::r) 0=x:=rfl;have e1:mf (x::y::r) (0+1)=y:=rfl;rw [e0,e1] at h0
  have ih:=Jm f (y::r) (fun i=>g (i+1)) (fun i hi=>by
   have:=h (i+1) (by simp at hi ⊢;omega);rw [Uf,Uf] at this;exact this)
  rw [Int.natCast_add,h0,ih]
theorem Vd {Y:List Int} (hY:Y.Pairwise (· < ·)) (p:Nat→Bool):∀n,n<Y.length∨n=0→JE (mf Y) 0 ((List.range n).map p)=(DV (fun i=>if p i=true then (mf Y (i+1) - mf Y i).toNat else 0) n:Int)
 |0,_=>rfl
 |n+1,h=>by
  have hlt:mf Y n<mf Y (n+1):=by
   have:=List.pairwise_iff_getElem.1 hY n (n+1) (by omega) (by omega) (by omega);unfold mf;rw [AX (by omega),AX (by omega)];exact this
  rw [List.range_succ,List.map_append,YM,Vd hY p n (.inl (by omega)),DV];simp only [List.map_cons,List.map_nil,JE,List.length_map,List.length_range,Nat.zero_add,Int.natCast_add];split<;>omega
theorem kL {Y:List Int} (hY:Y.Pairwise (· < ·)) (c:Int→Bool) {H:List (Nat×Nat)} (hH:ay Y H) (h:∀i,i<Y.length→MO H i=c (mf Y i)):(G8 Y H).long=D5 (fun y=>ind (c y)) Y:=by
 rw [FN hH];unfold Jl NH Jb;dsimp only;rw [Vd hY _ _ (by omega)];refine Jm _ Y _ fun i hi=>?_
 have hlt:mf Y i<mf Y (i+1):=by
  have:=List.pairwise_iff_getElem.1 hY i (i+1) (by omega) (by omega) (by omega);unfold mf;rw [AX (by omega),AX (by omega)];exact this
 rw [h i (by omega)]
 cases c (mf Y i)
 ·simp [ind]
 ·simp [ind];omega
end Go.Proofs.YtkbaaonchdeneaaGreat
namespace Go.Proofs.YtkbaaonchdeneaaGreat
theorem fM (f:Int→Int):∀(l:List Int),l.Pairwise (·≤·)→(∀(i:Nat) (x y z:Int),l[i]? = some x→l[i+1]? = some y→x≤z→z<y→f z=f x)→
 ∀p q,l.head? = some p→l.getLast? = some q→Gs f p q=D5 f l∧p≤q:=by
 intro l;induction l with
 |nil=>intro _ _ p q hp;simp at hp
 |cons x r ih=>
  intro hl hf p q hp hq;simp at hp;subst hp;rcases r with _ | ⟨y,r⟩
  ·simp at hq;subst hq;exact ⟨by rw [YD (Int.le_refl _)];rfl,Int.le_refl _⟩
  ·have hxy:x≤y:=by
    have:=List.rel_of_pairwise_cons hl (a':=y) (by simp);exact this
   rw [List.getLast?_cons_cons] at hq;obtain ⟨h1,h2⟩:=ih (List.Pairwise.of_cons hl) (fun i u v z hu hv h1 h2=>hf (i+1) u v z (by simpa using hu) (by simpa using hv) h1 h2) y q rfl hq;refine ⟨?_,by omega⟩
   rw [Fg hxy h2,h1,D5,FU (f x) hxy (fun z h1 h2=>hf 0 x y z rfl rfl h1 h2)]
theorem VI {l:List Int} (hl:l.Pairwise (·≤·)) {i:Nat} {p q v z:Int} (hp:l[i]? = some p) (hq:l[i+1]? = some q) (hv:v∈l) (h1:p≤z) (h2:z<q):v≤z↔v≤p:=by
 obtain ⟨j,hj,rfl⟩:=List.getElem_of_mem hv;obtain ⟨hi,rfl⟩:=AV hp;obtain ⟨hi',rfl⟩:=AV hq;rw [List.pairwise_iff_getElem] at hl;constructor
 ·intro h;rcases Nat.lt_trichotomy j (i+1) with h3 | h3 | h3
  ·rcases Nat.lt_or_ge j i with h4 | h4
   ·exact hl j i hj hi h4
   ·obtain rfl:j=i:=by omega
    exact Int.le_refl _
  ·subst h3;omega
  ·have:=hl (i+1) j hi' hj h3;omega
 ·intro h;omega
theorem zu {l:List Int} (hl:l.Pairwise (·≤·)) {p v:Int} (hp:l.head? = some p) (hv:v∈l):p≤v:=by
 cases l with
 |nil=>simp at hp
 |cons a r=>
  simp at hp;subst hp;rcases List.mem_cons.1 hv with rfl | hv
  ·exact Int.le_refl _
  ·exact List.rel_of_pairwise_cons hl hv
theorem zx {l:List Int} (hl:l.Pairwise (·≤·)) {q v:Int} (hq:l.getLast? = some q) (hv:v∈l):v≤q:=by
 obtain ⟨j,hj,rfl⟩:=List.getElem_of_mem hv;rw [List.getLast?_eq_getElem?] at hq;obtain ⟨hn,rfl⟩:=AV hq;rw [List.pairwise_iff_getElem] at hl;rcases Nat.lt_or_ge j (l.length - 1) with h | h
 ·exact hl j _ hj hn h
 ·have:j=l.length - 1:=by omega
  subst this;exact Int.le_refl _
section
variable {l:List Bx} {xs ys:List Int}
theorem aF (hxs:xs.Pairwise (·≤·)) (hm:∀v∈Eu l,v∈xs) {i:Nat} {p q z y:Int} (hp:xs[i]? = some p) (hq:xs[i+1]? = some q) (h1:p≤z) (h2:z<q):BN l z y=BN l p y:=by
 refine any_congr fun b hb=>?_
 by_cases hc:b.counts=true
 ·obtain ⟨m1,m2⟩:=Pe hb hc;have e1:=VI hxs hp hq (hm _ m1) h1 h2;have e2:=VI hxs hp hq (hm _ m2) h1 h2;unfold Bx.cell;rw [Bool.eq_iff_iff];simp only [decide_eq_true_eq];omega
 ·cases h3:b.cell z y
  ·cases h4:b.cell p y
   ·rfl
   ·exact absurd (Dj h4) hc
  ·exact absurd (Dj h3) hc
theorem Ug (hxs:xs.Pairwise (·≤·)) (hm:∀v∈Eu l,v∈xs) {p q z y:Int} (hp:xs.head? = some p) (hq:xs.getLast? = some q) (h:z<p∨q≤z):BN l z y=false:=by
 rw [Bool.eq_false_iff];intro hc;unfold BN at hc;rw [List.any_eq_true] at hc;obtain ⟨b,hb,hc⟩:=hc;obtain ⟨m1,m2⟩:=Pe hb (Dj hc);have h1:=zu hxs hp (hm _ m1);have h2:=zx hxs hq (hm _ m2);unfold Bx.cell at hc;simp only [decide_eq_true_eq] at hc;omega
theorem MB {f:Int→Int} {l:List Int} {lo hi:Int} (hl:l.Pairwise (·≤·)) (hin:∀v∈l,lo≤v∧v≤hi)
 (hf:∀(i:Nat) (x y z:Int),l[i]? = some x→l[i+1]? = some y→x≤z→z<y→f z=f x)
 (ho:∀p q z,l.head? = some p→l.getLast? = some q→z<p∨q≤z→f z=0) (hn:l = []→∀z,f z=0):Gs f lo hi=D5 f l:=by
 cases hc:l with
 |nil=>rw [Dn fun x _ _=>hn hc x];rfl
 |cons a r=>
  have hne:l≠[]:=by rw [hc];simp
  obtain ⟨p,hp⟩:∃p,l.head? = some p:=by rw [hc];exact ⟨a,rfl⟩
  obtain ⟨q,hq⟩:∃q,l.getLast? = some q:=by
   cases h:l.getLast? with
   |none=>rw [List.getLast?_eq_none_iff] at h;exact absurd h hne
   |some q=>exact ⟨q,rfl⟩
  obtain ⟨h1,h2⟩:=fM f l hl hf p q hp hq;have hpm:p∈l:=List.mem_of_mem_head? hp;have hqm:q∈l:=List.mem_of_getLast? hq;rw [←hc,FW (hin p hpm).1 h2 (hin q hqm).2 (fun x hx=>ho p q x hp hq hx),h1]
theorem fO {lo hi:Int} (hxs:xs.Pairwise (·≤·)) (hys:ys.Pairwise (· < ·)) (mx:∀v,v∈xs↔v∈Eu l) (my:∀v,v∈ys↔v∈BG l)
 (hx:∀v∈xs,lo≤v∧v≤hi) (hy:∀v∈ys,lo≤v∧v≤hi):KG l lo hi=D5 (fun x=>D5 (fun y=>ind (BN l x y)) ys) xs:=by
 have e0:ys = []→Eu l = []:=by
  intro h;unfold Eu;rw [List.flatMap_eq_nil_iff];intro b hb;have hb':=List.mem_filter.1 hb;have:=(my b.y1).2 (Jz hb'.1 hb'.2).1;rw [h] at this;simp at this
 have e1:∀x,Gs (fun y=>ind (BN l x y)) lo hi=D5 (fun y=>ind (BN l x y)) ys:=fun x=>
  RD hys hy (fun i p q z h1 h2 h3 h4=>by rw [bg hys (fun v hv=>(my v).2 hv) h1 h2 h3 h4]) (fun p q z h1 h2 h3=>by rw [Pg hys (fun v hv=>(my v).2 hv) h1 h2 h3];rfl)
   (fun h z=>by rw [Ib (e0 h)];rfl)
 unfold KG;rw [DF fun x _ _=>e1 x]
 refine MB hxs hx (fun i p q z h1 h2 h3 h4=>MI _ fun y _=>by rw [aF hxs (fun v hv=>(mx v).2 hv) h1 h2 h3 h4])
  (fun p q z h1 h2 h3=>IJ _ fun y _=>by rw [Ug hxs (fun v hv=>(mx v).2 hv) h1 h2 h3];rfl) (fun h z=>IJ _ fun y _=>?_)
 have hX:Eu l = []:=by
  rw [List.eq_nil_iff_forall_not_mem];intro v hv;have:=(mx v).2 hv;rw [h] at this;simp at this
 rw [Ib hX];rfl
end
theorem Gi {l:List Bx} (v:Int):v∈(BF l).map Tn.x↔v∈Eu l:=by
 unfold BF Eu;simp only [List.mem_map,List.mem_flatMap,List.mem_cons,List.not_mem_nil,or_false];constructor
 ·rintro ⟨t,⟨b,hb,h⟩,rfl⟩;rcases h with rfl | rfl
  ·exact ⟨b,hb,.inl rfl⟩
  ·exact ⟨b,hb,.inr rfl⟩
 ·rintro ⟨b,hb,rfl | rfl⟩
  ·exact ⟨_,⟨b,hb,.inl rfl⟩,rfl⟩
  ·exact ⟨_,⟨b,hb,.inr rfl⟩,rfl⟩
theorem sG {l:List Bx} {t:Tn} (h:t∈BF l):t.b∈l∧t.b.counts=true:=by
 unfold BF at h;simp only [List.mem_flatMap,List.mem_filter,List.mem_cons,List.not_mem_nil,or_false] at h;obtain ⟨b,⟨h1,h2⟩,rfl | rfl⟩:=h
 ·exact ⟨h1,h2⟩
 ·exact ⟨h1,h2⟩
theorem okT {l:List Bx} {T:List Tn} (hp:T.Perm (BF l)):OkT (Dv (BG l)) T:=by
 intro t ht;obtain ⟨h1,h2⟩:=sG (hp.mem_iff.1 ht);obtain ⟨m1,m2⟩:=Jz h1 h2;unfold Bx.counts at h2;rw [decide_eq_true_eq] at h2;unfold Ia;rw [decide_eq_true (Mc m1),decide_eq_true (Mc m2)];simp only [Bool.true_and,decide_eq_true_eq];unfold below;rw [←List.countP_eq_length_filter,←List.countP_eq_length_filter];refine List.countP_mono_left fun x _ h=>?_
 rw [decide_eq_true_eq] at h ⊢;omega
theorem Lc {Y:List Int} (hM:Dp Y):∀(T:List Tn),ay Y (sw Y T):=by
 intro T
 have:∀(T:List Tn) (H:List (Nat×Nat)),ay Y H→ay Y (T.foldl (stepT Y) H):=by
  intro T;induction T with
  |nil=>intro H h;exact h
  |cons t T ih=>
   intro H h;rw [List.foldl_cons];refine ih _ ?_
   unfold stepT;split
   ·exact yY h
   ·exact a1y hM h
 exact this T [] (fun s hs=>by simp at hs)
theorem zy (Y:List Int):∀(T:List Tn),(sw Y T).length≤T.length:=by
 intro T
 have:∀(T:List Tn) (H:List (Nat×Nat)),(T.foldl (stepT Y) H).length≤H.length+T.length:=by
  intro T;induction T with
  |nil=>intro H;exact Nat.le_refl _
  |cons t T ih=>
   intro H;rw [List.foldl_cons,List.length_cons];have h1:=ih (stepT Y H t)
   have h2:(stepT Y H t).length≤H.length+1:=by
    unfold stepT NG U4;split
    ·split
     ·have:=List.length_erase_le (a:=CX Y t.b.y1 t.b.y2) (l:=H);omega
     ·omega
    ·split
     ·simp
     ·omega
   omega
 have:=this T [];rw [List.length_nil,Nat.zero_add] at this;exact this
def NJ (Y:List Int) (T:List Tn) (k:Nat):Int:=(G8 Y (sw Y (T.take (k+1)))).long
def Ld (Y:List Int) (T:List Tn) (k:Nat):Nat:=(NJ Y T k).toNat*(mf (T.map Tn.x) (k+1) - mf (T.map Tn.x) k).toNat
theorem VJ {Y:List Int} (hM:Dp Y) (T:List Tn) (k:Nat):0≤NJ Y T k∧NJ Y T k<18446744073709551616:=by
 unfold NJ;rw [FN (Lc hM _)];unfold Jl NH Jb;dsimp only;by_cases h0:Y.length - 1=0
 ·rw [h0];simp [JE]
 rw [Vd hM.rise _ _ (by omega)];refine ⟨by omega,?_⟩
 have hb:∀(p:Nat→Bool) n,n<Y.length→(DV (fun i=>if p i=true then (mf Y (i+1) - mf Y i).toNat else 0) n:Int)≤mf Y n - mf Y 0:=by
  intro p n;induction n with
  |zero=>intro _;simp [DV]
  |succ n ih=>
   intro hn;have h1:=ih (by omega)
   have hlt:mf Y n<mf Y (n+1):=by
    have:=List.pairwise_iff_getElem.1 hM.rise n (n+1) (by omega) (by omega) (by omega);unfold mf;rw [AX (by omega),AX (by omega)];exact this
   rw [DV];split<;>omega
 have h1:=hb (MO (sw Y (T.take (k+1)))) (Y.length - 1) (by omega);have g1:=hM.wf _ (List.mem_of_getElem? (G7 (M:=Y) (i:=Y.length - 1) (by omega)));have g2:=hM.wf _ (List.mem_of_getElem? (G7 (M:=Y) (i:=0) (by omega)));omega
theorem Gn {l:List Bx} (hb:∀b∈l,b.BO) (hl:l.length<100000):Dp (Dv (BG l)):=by
 refine ⟨Px _,fun x hx=>?_,?_⟩
 ·have hx:=Tj hx;unfold BG at hx;obtain ⟨b,h1,h2⟩:=List.mem_flatMap.1 hx;have h3:=hb b (List.mem_filter.1 h1).1;unfold Bx.BO at h3;simp at h2;rcases h2 with rfl | rfl
  ·exact h3.2.2.1
  ·exact h3.2.2.2
 ·have:=J5 (BG l);have:=Ea l;omega
def BZ (l:List Bx):Int:=KG l (-9223372036854775808) 9223372036854775807
theorem a1B (l:List Bx):0≤BZ l∧Jk (BZ l).toNat:=by
 refine ⟨SK _ _ _,?_⟩
 have h2:=bD l (lo:=-9223372036854775808) (hi:=9223372036854775807) (by omega);have e:((9223372036854775807:Int) - -9223372036854775808)*(9223372036854775807 - -9223372036854775808)=340282366920938463426481119284349108225:=by decide
 rw [e] at h2;unfold Jk BZ;omega
theorem X4 {l:List Bx} {T:List Tn} (hb:∀b∈l,b.BO) (hl:l.length<100000) (hp:T.Perm (BF l)) (hs:T.Pairwise (fun s t=>s.x≤t.x)) :
 (DV (Ld (Dv (BG l)) T) (T.length - 1):Int)=BZ l:=by
 have hM:=Gn hb hl;have hmx:∀v,v∈T.map Tn.x↔v∈Eu l:=fun v=>by rw [←Gi,(hp.map Tn.x).mem_iff]
 have hX:(T.map Tn.x).Pairwise (·≤·):=by rw [List.pairwise_map];exact hs
 have hin:∀v∈T.map Tn.x,(-9223372036854775808:Int)≤v∧v≤9223372036854775807:=by
  intro v hv;have hx:=(hmx v).1 hv;unfold Eu at hx;obtain ⟨b,h1,h2⟩:=List.mem_flatMap.1 hx;have h3:=hb b (List.mem_filter.1 h1).1;unfold Bx.BO at h3;simp at h2;rcases h2 with rfl | rfl
  ·exact h3.1
  ·exact h3.2.1
 unfold BZ;rw [fO hX hM.rise hmx (fun v=>⟨Tj,Mc⟩) hin hM.wf];have e:T.length - 1=(T.map Tn.x).length - 1:=by rw [List.length_map]
 rw [e];refine Jm _ _ _ fun i hi=>?_
 rw [List.length_map] at hi;obtain ⟨t,ht⟩:∃t,T[i]? = some t:=⟨_,AX (by omega)⟩;obtain ⟨u,hu⟩:∃u,T[i+1]? = some u:=⟨_,AX (by omega)⟩;have et:mf (T.map Tn.x) i=t.x:=by unfold mf;rw [List.getElem?_map,ht];rfl
 have eu:mf (T.map Tn.x) (i+1)=u.x:=by unfold mf;rw [List.getElem?_map,hu];rfl
 have htu:=(Ko hs ht).2 u (List.mem_of_getElem? (i:=1) (by rw [List.getElem?_drop];exact hu));have hn:=VJ hM T i;unfold Ld;rw [et,eu,Int.natCast_mul,Int.toNat_of_nonneg hn.1,Int.toNat_of_nonneg (by omega)];rcases Int.lt_or_eq_of_le htu with hx | hx
 ·unfold NJ;rw [kL hM.rise (BN l t.x) (Lc hM _) fun j hj=>Ue hp hs (okT hp) hM.rise ht hu hx hj]
 ·rw [hx];simp
theorem kM {l:List Bx} {T:List Tn} (hb:∀b∈l,b.BO) (hl:l.length<100000) (hp:T.Perm (BF l)) (hs:T.Pairwise (fun s t=>s.x≤t.x)) {k:Nat} (hk:k≤T.length - 1) :
 Jk (DV (Ld (Dv (BG l)) T) k):=by
 have h1:=QN (Ld (Dv (BG l)) T) hk;have h2:=X4 hb hl hp hs;have h3:=a1B l;exact h3.2.mono (by omega)
def BQ (Y:List Int) (T:List Tn):Nat:=(T.map fun t=>La (Ut Y t) (Y.length - 1)).sum
theorem fP {l:List Bx} {T:List Tn} (hp:T.Perm (BF l)) (hs:T.Pairwise (fun s t=>s.x≤t.x)) {k:Nat} {t:Tn} (ht:T[k]? = some t) :
 zk (Dv (BG l)) (sw (Dv (BG l)) (T.take k)) t=La (Ut (Dv (BG l)) t) ((Dv (BG l)).length - 1):=by
 have hok:=okT hp t (List.mem_of_getElem? ht);unfold zk;split
 ·rename_i hg
  have:=zo hp hs (okT hp) ht hg;unfold Rw;have h2:CX (Dv (BG l)) t.b.y1 t.b.y2∈sw (Dv (BG l)) (T.take k):=this;rw [if_pos hok,if_pos h2];rfl
 ·unfold fF;rw [if_pos hok];rfl
theorem G9 {Y:List Int} {T U:List Tn} (h:T.Perm U):BQ Y T=BQ Y U:=(h.map _).sum_nat
theorem fQ (Y:List Int) {T:List Tn} {k:Nat} {t:Tn} (ht:T[k]? = some t):BQ Y (T.take (k+1))=BQ Y (T.take k)+La (Ut Y t) (Y.length - 1):=by
 unfold BQ;rw [List.take_add_one,ht,List.map_append,List.sum_append_nat];simp
theorem Jo (Y:List Int) (hl:Y.length<400000) (T:List Tn):BQ Y T≤T.length*100:=by
 unfold BQ;induction T with
 |nil=>simp
 |cons t T ih=>
  rw [List.map_cons,List.sum_cons,List.length_cons]
  have:La (Ut Y t) (Y.length - 1)≤100:=by
   unfold La;split
   ·omega
   ·have h1:=lN (a:=(Ut Y t).1) (b:=(Ut Y t).2) (Y.length - 1) 0 (Y.length - 1) (by omega);have h2:=fE (n:=Y.length - 1) (by omega);rw [Nat.sub_zero] at h1;omega
  omega
