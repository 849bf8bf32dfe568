/- Sums over whole numbers from one to another, and over blocks between lines. No program. Boxes, -/
namespace Go.Proofs.YtkbaaonchdeneaaGreat
def LM (f:Int→Int) (a:Int):Nat→Int
 |0=>0
 |n+1=>LM f a n+f (a+n)
def Gs (f:Int→Int) (a b:Int):Int:=LM f a (b - a).toNat
theorem WC {f g:Int→Int} {a:Int}:∀(n:Nat),(∀x,a≤x→x<a+n→f x=g x)→LM f a n=LM g a n
 |0,_=>rfl
 |n+1,h=>by
  rw [LM,LM,WC n (fun x h1 h2=>h x h1 (by omega)),h (a+n) (by omega) (by omega)]
theorem Vj (f:Int→Int) (a:Int) (m:Nat):∀(n:Nat),LM f a (m+n)=LM f a m+LM f (a+m) n
 |0=>by simp [LM]
 |n+1=>by
  rw [←Nat.add_assoc,LM,Vj f a m n,LM];have e:a+((m+n:Nat):Int)=a+m+n:=by omega
  rw [e];omega
theorem aZ (f g:Int→Int) (a:Int):∀(n:Nat),LM (fun x=>f x+g x) a n=LM f a n+LM g a n
 |0=>rfl
 |n+1=>by simp only [LM];rw [aZ f g a n];omega
theorem Rz (k a:Int):∀(n:Nat),LM (fun _=>k) a n=k*n
 |0=>by simp [LM]
 |n+1=>by simp only [LM];rw [Rz k a n,Int.natCast_add,Int.mul_add];simp
theorem YC {f g:Int→Int} {a:Int}:∀(n:Nat),(∀x,a≤x→x<a+n→f x≤g x)→LM f a n≤LM g a n
 |0,_=>Int.le_refl _
 |n+1,h=>by
  have h1:=YC n (fun x h1 h2=>h x h1 (by omega));have h2:=h (a+n) (by omega) (by omega);simp only [LM];omega
section
variable {f g:Int→Int} {a b c:Int}
theorem YD (h:b≤a):Gs f a b=0:=by
 unfold Gs;rw [show (b - a).toNat=0 by omega];rfl
theorem Fg (h1:a≤b) (h2:b≤c):Gs f a c=Gs f a b+Gs f b c:=by
 unfold Gs;rw [show (c - a).toNat=(b - a).toNat+(c - b).toNat by omega,Vj];rw [show a+((b - a).toNat:Int)=b by omega]
theorem DF (h:∀x,a≤x→x<b→f x=g x):Gs f a b=Gs g a b:=WC _ fun x h1 h2=>h x h1 (by omega)
theorem Kw (h:∀x,a≤x→x<b→f x≤g x):Gs f a b≤Gs g a b:=YC _ fun x h1 h2=>h x h1 (by omega)
theorem WE (k:Int) (hab:a≤b):Gs (fun _=>k) a b=k*(b - a):=by
 unfold Gs;rw [Rz,Int.toNat_of_nonneg (by omega)]
theorem YE:Gs (fun _=>0) a b=0:=by
 unfold Gs;rw [Rz];simp
theorem Dn (h:∀x,a≤x→x<b→f x=0):Gs f a b=0:=by
 rw [DF (g:=fun _=>0) h,YE]
theorem FU (k:Int) (hab:a≤b) (h:∀x,a≤x→x<b→f x=k):Gs f a b=k*(b - a):=by
 rw [DF h,WE k hab]
theorem FV (h:∀x,a≤x→x<b→0≤f x):0≤Gs f a b:=by
 have:=Kw (f:=fun _=>0) (g:=f) (a:=a) (b:=b) h;rwa [YE] at this
theorem SI (k:Int) (hab:a≤b) (h:∀x,a≤x→x<b→f x≤k):Gs f a b≤k*(b - a):=by
 have:=Kw (f:=f) (g:=fun _=>k) (a:=a) (b:=b) h;rwa [WE k hab] at this
theorem bf:Gs (fun x=>f x+g x) a b=Gs f a b+Gs g a b:=aZ f g a _
end
theorem FW {f:Int→Int} {a b p q:Int} (h1:a≤p) (h2:p≤q) (h3:q≤b) (hz:∀x,x<p∨q≤x→f x=0):Gs f a b=Gs f p q:=by
 rw [Fg h1 (Int.le_trans h2 h3),Fg h2 h3,Dn (b:=p) (fun x _ hx=>hz x (.inl hx)),Dn (a:=q) (fun x hx _=>hz x (.inr hx))];omega
def D5 (f:Int→Int):List Int→Int
 |x::y::r=>f x*(y - x)+D5 f (y::r)
 |_=>0
theorem iD (f:Int→Int):∀(l:List Int),l.Pairwise (· < ·)→(∀(i:Nat) (x y z:Int),l[i]? = some x→l[i+1]? = some y→x≤z→z<y→f z=f x)→
 ∀p q,l.head? = some p→l.getLast? = some q→Gs f p q=D5 f l∧p≤q:=by
 intro l;induction l with
 |nil=>intro _ _ p q hp;simp at hp
 |cons x r ih=>
  intro hl hf p q hp hq;simp at hp;subst hp;rcases r with _ | ⟨y,r⟩
  ·simp at hq;subst hq;exact ⟨by rw [YD (Int.le_refl _)];rfl,Int.le_refl _⟩
  ·have hxy:x<y:=by
    have:=List.rel_of_pairwise_cons hl (a':=y) (by simp);exact this
   rw [List.getLast?_cons_cons] at hq;obtain ⟨h1,h2⟩:=ih (List.Pairwise.of_cons hl) (fun i u v z hu hv h1 h2=>hf (i+1) u v z (by simpa using hu) (by simpa using hv) h1 h2) y q rfl hq;refine ⟨?_,by omega⟩
   rw [Fg (Int.le_of_lt hxy) h2,h1,D5,FU (f x) (Int.le_of_lt hxy) (fun z h1 h2=>hf 0 x y z rfl rfl h1 h2)]
end Go.Proofs.YtkbaaonchdeneaaGreat
namespace Go.Proofs.YtkbaaonchdeneaaGreat
structure Bx where
 x1:Int
 x2:Int
 y1:Int
 y2:Int
 id:Nat
deriving DecidableEq
def Bx.cell (b:Bx) (x y:Int):Bool:=decide (b.x1≤x∧x<b.x2∧b.y1≤y∧y<b.y2)
def Bx.counts (b:Bx):Bool:=decide (b.x1<b.x2∧b.y1<b.y2)
def Bx.BO (b:Bx):Prop:=(-9223372036854775808≤b.x1∧b.x1≤9223372036854775807)∧(-9223372036854775808≤b.x2∧b.x2≤9223372036854775807)∧(-9223372036854775808≤b.y1∧b.y1≤9223372036854775807)∧(-9223372036854775808≤b.y2∧b.y2≤9223372036854775807)
def BN (l:List Bx) (x y:Int):Bool:=l.any fun b=>b.cell x y
def ind (b:Bool):Int:=if b then 1 else 0
theorem Uw (b:Bool):0≤ind b∧ind b≤1:=by cases b<;>simp [ind]
def Eu (l:List Bx):List Int:=(l.filter Bx.counts).flatMap fun b=>[b.x1,b.x2]
def BG (l:List Bx):List Int:=(l.filter Bx.counts).flatMap fun b=>[b.y1,b.y2]
theorem Dj {b:Bx} {x y:Int} (h:b.cell x y=true):b.counts=true:=by
 unfold Bx.cell at h;unfold Bx.counts;simp only [decide_eq_true_eq] at h ⊢;omega
theorem Oe {l:List Int} (hl:l.Pairwise (· < ·)) {i:Nat} {p q v z:Int} (hp:l[i]? = some p) (hq:l[i+1]? = some q) (hv:v∈l) (h1:p≤z) (h2:z<q):v≤z↔v≤p:=by
 obtain ⟨j,hj,rfl⟩:=List.getElem_of_mem hv;obtain ⟨hi,rfl⟩:=List.getElem?_eq_some_iff.1 hp;obtain ⟨hi',rfl⟩:=List.getElem?_eq_some_iff.1 hq;rw [List.pairwise_iff_getElem] at hl;constructor
 ·intro h;rcases Nat.lt_trichotomy j (i+1) with h3 | h3 | h3
  ·rcases Nat.lt_or_ge j i with h4 | h4
   ·have:=hl j i hj hi h4;omega
   ·obtain rfl:j=i:=by omega
    exact Int.le_refl _
  ·subst h3;omega
  ·have:=hl (i+1) j hi' hj h3;omega
 ·intro h;omega
section
variable {l:List Bx} {xs ys:List Int}
theorem Pe {b:Bx} (hb:b∈l) (hc:b.counts=true):b.x1∈Eu l∧b.x2∈Eu l:=by
 unfold Eu;have:b∈l.filter Bx.counts:=List.mem_filter.2 ⟨hb,hc⟩;exact ⟨List.mem_flatMap.2 ⟨b,this,by simp⟩,List.mem_flatMap.2 ⟨b,this,by simp⟩⟩
theorem Jz {b:Bx} (hb:b∈l) (hc:b.counts=true):b.y1∈BG l∧b.y2∈BG l:=by
 unfold BG;have:b∈l.filter Bx.counts:=List.mem_filter.2 ⟨hb,hc⟩;exact ⟨List.mem_flatMap.2 ⟨b,this,by simp⟩,List.mem_flatMap.2 ⟨b,this,by simp⟩⟩
theorem any_congr {α:Type} {p q:α→Bool}:∀{l:List α},(∀b∈l,p b=q b)→l.any p=l.any q
 | [],_=>rfl
 |a::r,h=>by
  rw [List.any_cons,List.any_cons,h a (by simp),any_congr fun b hb=>h b (List.mem_cons_of_mem _ hb)]
theorem a5S (hxs:xs.Pairwise (· < ·)) (hm:∀v∈Eu l,v∈xs) {i:Nat} {p q z y:Int} (hp:xs[i]? = some p) (hq:xs[i+1]? = some q) (h1:p≤z) (h2:z<q):BN l z y=BN l p y:=by
 refine any_congr fun b hb=>?_
 by_cases hc:b.counts=true
 ·obtain ⟨m1,m2⟩:=Pe hb hc;have e1:=Oe hxs hp hq (hm _ m1) h1 h2;have e2:=Oe hxs hp hq (hm _ m2) h1 h2;unfold Bx.cell;rw [Bool.eq_iff_iff];simp only [decide_eq_true_eq];omega
 ·cases h3:b.cell z y
  ·cases h4:b.cell p y
   ·rfl
   ·exact absurd (Dj h4) hc
  ·exact absurd (Dj h3) hc
theorem bg (hys:ys.Pairwise (· < ·)) (hm:∀v∈BG l,v∈ys) {i:Nat} {p q z x:Int} (hp:ys[i]? = some p) (hq:ys[i+1]? = some q) (h1:p≤z) (h2:z<q):BN l x z=BN l x p:=by
 refine any_congr fun b hb=>?_
 by_cases hc:b.counts=true
 ·obtain ⟨m1,m2⟩:=Jz hb hc;have e1:=Oe hys hp hq (hm _ m1) h1 h2;have e2:=Oe hys hp hq (hm _ m2) h1 h2;unfold Bx.cell;rw [Bool.eq_iff_iff];simp only [decide_eq_true_eq];omega
 ·cases h3:b.cell x z
  ·cases h4:b.cell x p
   ·rfl
   ·exact absurd (Dj h4) hc
  ·exact absurd (Dj h3) hc
theorem lI {l:List Int} (hl:l.Pairwise (· < ·)) {p v:Int} (hp:l.head? = some p) (hv:v∈l):p≤v:=by
 cases l with
 |nil=>simp at hp
 |cons a r=>
  simp at hp;subst hp;rcases List.mem_cons.1 hv with rfl | hv
  ·exact Int.le_refl _
  ·exact Int.le_of_lt (List.rel_of_pairwise_cons hl hv)
theorem le_last {l:List Int} (hl:l.Pairwise (· < ·)) {q v:Int} (hq:l.getLast? = some q) (hv:v∈l):v≤q:=by
 obtain ⟨j,hj,rfl⟩:=List.getElem_of_mem hv;rw [List.getLast?_eq_getElem?] at hq;obtain ⟨hn,rfl⟩:=List.getElem?_eq_some_iff.1 hq;rw [List.pairwise_iff_getElem] at hl;rcases Nat.lt_or_ge j (l.length - 1) with h | h
 ·exact Int.le_of_lt (hl j _ hj hn h)
 ·have:j=l.length - 1:=by omega
  subst this;exact Int.le_refl _
theorem a0u (hxs:xs.Pairwise (· < ·)) (hm:∀v∈Eu l,v∈xs) {p q z y:Int} (hp:xs.head? = some p) (hq:xs.getLast? = some q) (h:z<p∨q≤z):BN l z y=false:=by
 rw [Bool.eq_false_iff];intro hc;unfold BN at hc;rw [List.any_eq_true] at hc;obtain ⟨b,hb,hc⟩:=hc;obtain ⟨m1,m2⟩:=Pe hb (Dj hc);have h1:=lI hxs hp (hm _ m1);have h2:=le_last hxs hq (hm _ m2);unfold Bx.cell at hc;simp only [decide_eq_true_eq] at hc;omega
theorem Pg (hys:ys.Pairwise (· < ·)) (hm:∀v∈BG l,v∈ys) {p q z x:Int} (hp:ys.head? = some p) (hq:ys.getLast? = some q) (h:z<p∨q≤z):BN l x z=false:=by
 rw [Bool.eq_false_iff];intro hc;unfold BN at hc;rw [List.any_eq_true] at hc;obtain ⟨b,hb,hc⟩:=hc;obtain ⟨m1,m2⟩:=Jz hb (Dj hc);have h1:=lI hys hp (hm _ m1);have h2:=le_last hys hq (hm _ m2);unfold Bx.cell at hc;simp only [decide_eq_true_eq] at hc;omega
theorem Ib (h:Eu l = []) (x y:Int):BN l x y=false:=by
 rw [Bool.eq_false_iff];intro hc;unfold BN at hc;rw [List.any_eq_true] at hc;obtain ⟨b,hb,hc⟩:=hc;have:=(Pe hb (Dj hc)).1;rw [h] at this;simp at this
end
def KG (l:List Bx) (lo hi:Int):Int:=Gs (fun x=>Gs (fun y=>ind (BN l x y)) lo hi) lo hi
def bC (l:List Bx) (xs ys:List Int):Int:=D5 (fun x=>D5 (fun y=>ind (BN l x y)) ys) xs
theorem MI {f g:Int→Int}:∀(l:List Int),(∀x∈l,f x=g x)→D5 f l=D5 g l
 | [],_=>rfl
 | [_],_=>rfl
 |x::y::r,h=>by
  rw [D5,D5,h x (by simp),MI (y::r) fun z hz=>h z (List.mem_cons_of_mem _ hz)]
theorem IJ {f:Int→Int}:∀(l:List Int),(∀x∈l,f x=0)→D5 f l=0
 | [],_=>rfl
 | [_],_=>rfl
 |x::y::r,h=>by
  rw [D5,h x (by simp),IJ (y::r) fun z hz=>h z (List.mem_cons_of_mem _ hz)];simp
theorem RD {f:Int→Int} {l:List Int} {lo hi:Int} (hl:l.Pairwise (· < ·)) (hin:∀v∈l,lo≤v∧v≤hi)
 (hf:∀(i:Nat) (x y z:Int),l[i]? = some x→l[i+1]? = some y→x≤z→z<y→f z=f x)
 (ho:∀p q z,l.head? = some p→l.getLast? = some q→z<p∨q≤z→f z=0) (hn:l = []→∀z,f z=0):Gs f lo hi=D5 f l:=by
 cases hc:l with
 |nil=>rw [Dn fun x _ _=>hn hc x];rfl
 |cons a r=>
  have hne:l≠[]:=by rw [hc];simp
  obtain ⟨p,hp⟩:∃p,l.head? = some p:=by rw [hc];exact ⟨a,rfl⟩
  obtain ⟨q,hq⟩:∃q,l.getLast? = some q:=by
   cases h:l.getLast? with
   |none=>rw [List.getLast?_eq_none_iff] at h;exact absurd h hne
   |some q=>exact ⟨q,rfl⟩
  obtain ⟨h1,h2⟩:=iD f l hl hf p q hp hq;have hpm:p∈l:=List.mem_of_mem_head? hp;have hqm:q∈l:=List.mem_of_getLast? hq;rw [←hc,FW (hin p hpm).1 h2 (hin q hqm).2 (fun x hx=>ho p q x hp hq hx),h1]
theorem WG {l:List Bx} {xs ys:List Int} {lo hi:Int} (hxs:xs.Pairwise (· < ·)) (hys:ys.Pairwise (· < ·)) (mx:∀v,v∈xs↔v∈Eu l) (my:∀v,v∈ys↔v∈BG l)
 (hx:∀v∈xs,lo≤v∧v≤hi) (hy:∀v∈ys,lo≤v∧v≤hi):KG l lo hi=bC l xs ys:=by
 have e0:ys = []→Eu l = []:=by
  intro h;unfold Eu;rw [List.flatMap_eq_nil_iff];intro b hb;have hb':=List.mem_filter.1 hb;have:=(my b.y1).2 (Jz hb'.1 hb'.2).1;rw [h] at this;simp at this
 have e1:∀x,Gs (fun y=>ind (BN l x y)) lo hi=D5 (fun y=>ind (BN l x y)) ys:=fun x=>
  RD hys hy (fun i p q z h1 h2 h3 h4=>by rw [bg hys (fun v hv=>(my v).2 hv) h1 h2 h3 h4]) (fun p q z h1 h2 h3=>by rw [Pg hys (fun v hv=>(my v).2 hv) h1 h2 h3];rfl)
   (fun h z=>by rw [Ib (e0 h)];rfl)
 unfold KG bC;rw [DF fun x _ _=>e1 x]
 refine RD hxs hx (fun i p q z h1 h2 h3 h4=>MI _ fun y _=>by rw [a5S hxs (fun v hv=>(mx v).2 hv) h1 h2 h3 h4])
  (fun p q z h1 h2 h3=>IJ _ fun y _=>by rw [a0u hxs (fun v hv=>(mx v).2 hv) h1 h2 h3];rfl) (fun h z=>IJ _ fun y _=>?_)
 have hX:Eu l = []:=by
  rw [List.eq_nil_iff_forall_not_mem];intro v hv;have:=(mx v).2 hv;rw [h] at this;simp at this
 rw [Ib hX];rfl
theorem WH {l m:List Bx} {lo hi:Int} (h:∀x y,BN l x y=true→BN m x y=true):KG l lo hi≤KG m lo hi:=by
 refine Kw fun x _ _=>Kw fun y _ _=>?_
 have:=h x y
 cases h1:BN l x y
 ·exact (Uw _).1
 ·rw [this h1];exact Int.le_refl _
theorem Ph {l m:List Bx} {lo hi:Int} (h:∀x y,BN l x y=BN m x y):KG l lo hi=KG m lo hi:=
 DF fun x _ _=>DF fun y _ _=>by rw [h]
theorem SK (l:List Bx) (lo hi:Int):0≤KG l lo hi:=FV fun _ _ _=>FV fun _ _ _=>(Uw _).1
theorem bD (l:List Bx) {lo hi:Int} (h:lo≤hi):KG l lo hi≤(hi - lo)*(hi - lo):=
 SI (hi - lo) h fun x _ _=>by
  have:=SI (f:=fun y=>ind (BN l x y)) 1 h fun y _ _=>(Uw _).2
  omega
