/- Sums over whole numbers from one to another, and over blocks between lines. No program. Boxes, plainly: which cells they cover, the lines of those that count, how many cells they cover. No program. -/
namespace Go.Proofs.YtkmnbodlciepaaaGreat
def sumN (f:Int→Int) (a:Int):Nat→Int
 |0=>0
 |n+1=>sumN f a n+f (a+n)
def sumR (f:Int→Int) (a b:Int):Int:=sumN f a (b - a).toNat
theorem sumN_congr {f g:Int→Int} {a:Int}:∀(n:Nat),(∀x,a≤x→x<a+n→f x=g x)→sumN f a n=sumN g a n
 |0,_=>rfl
 |n+1,h=>by
  rw [sumN,sumN,sumN_congr n (fun x h1 h2=>h x h1 (by omega)),h (a+n) (by omega) (by omega)]
theorem sumN_append (f:Int→Int) (a:Int) (m:Nat):∀(n:Nat),sumN f a (m+n)=sumN f a m+sumN f (a+m) n
 |0=>by simp [sumN]
 |n+1=>by
  rw [←Nat.add_assoc,sumN,sumN_append f a m n,sumN]
  have e:a+((m+n:Nat):Int)=a+m+n:=by omega
  rw [e];omega
theorem sumN_const (k a:Int):∀(n:Nat),sumN (fun _=>k) a n=k*n
 |0=>by simp [sumN]
 |n+1=>by simp only [sumN];rw [sumN_const k a n,Int.natCast_add,Int.mul_add];simp
theorem sumN_mono {f g:Int→Int} {a:Int}:∀(n:Nat),(∀x,a≤x→x<a+n→f x≤g x)→sumN f a n≤sumN g a n
 |0,_=>Int.le_refl _
 |n+1,h=>by
  have h1:=sumN_mono n (fun x h1 h2=>h x h1 (by omega))
  have h2:=h (a+n) (by omega) (by omega)
  simp only [sumN];omega
section
variable {f g:Int→Int} {a b c:Int}
theorem sumR_none (h:b≤a):sumR f a b=0:=by
 unfold sumR
 rw [show (b - a).toNat=0 by omega];rfl
theorem sumR_split (h1:a≤b) (h2:b≤c):sumR f a c=sumR f a b+sumR f b c:=by
 unfold sumR
 rw [show (c - a).toNat=(b - a).toNat+(c - b).toNat by omega,sumN_append]
 rw [show a+((b - a).toNat:Int)=b by omega]
theorem sumR_congr (h:∀x,a≤x→x<b→f x=g x):sumR f a b=sumR g a b:=sumN_congr _ fun x h1 h2=>h x h1 (by omega)
theorem sumR_mono (h:∀x,a≤x→x<b→f x≤g x):sumR f a b≤sumR g a b:=sumN_mono _ fun x h1 h2=>h x h1 (by omega)
theorem sumR_const (k:Int) (hab:a≤b):sumR (fun _=>k) a b=k*(b - a):=by
 unfold sumR
 rw [sumN_const,Int.toNat_of_nonneg (by omega)]
theorem sumR_zero:sumR (fun _=>0) a b=0:=by
 unfold sumR
 rw [sumN_const];simp
theorem sumR_of_zero (h:∀x,a≤x→x<b→f x=0):sumR f a b=0:=by
 rw [sumR_congr (g:=fun _=>0) h,sumR_zero]
theorem sumR_const' (k:Int) (hab:a≤b) (h:∀x,a≤x→x<b→f x=k):sumR f a b=k*(b - a):=by
 rw [sumR_congr h,sumR_const k hab]
theorem sumR_nonneg (h:∀x,a≤x→x<b→0≤f x):0≤sumR f a b:=by
 have:=sumR_mono (f:=fun _=>0) (g:=f) (a:=a) (b:=b) h
 rwa [sumR_zero] at this
theorem sumR_le (k:Int) (hab:a≤b) (h:∀x,a≤x→x<b→f x≤k):sumR f a b≤k*(b - a):=by
 have:=sumR_mono (f:=f) (g:=fun _=>k) (a:=a) (b:=b) h
 rwa [sumR_const k hab] at this
end
theorem sumR_within {f:Int→Int} {a b p q:Int} (h1:a≤p) (h2:p≤q) (h3:q≤b) (hz:∀x,x<p∨q≤x→f x=0):sumR f a b=sumR f p q:=by
 rw [sumR_split h1 (Int.le_trans h2 h3),sumR_split h2 h3,sumR_of_zero (b:=p) (fun x _ hx=>hz x (.inl hx)),sumR_of_zero (a:=q) (fun x hx _=>hz x (.inr hx))]
 omega
def stepSum (f:Int→Int):List Int→Int
 |x::y::r=>f x*(y - x)+stepSum f (y::r)
 |_=>0
theorem stepSum_eq (f:Int→Int):∀(l:List Int),l.Pairwise (· < ·)→(∀(i:Nat) (x y z:Int),l[i]? = some x→l[i+1]? = some y→x≤z→z<y→f z=f x)→
 ∀p q,l.head? = some p→l.getLast? = some q→sumR f p q=stepSum f l∧p≤q:=by
 intro l
 induction l with
 |nil=>intro _ _ p q hp;simp at hp
 |cons x r ih=>
  intro hl hf p q hp hq
  simp at hp;subst hp
  rcases r with _ | ⟨y,r⟩
  ·simp at hq;subst hq
   exact ⟨by rw [sumR_none (Int.le_refl _)];rfl,Int.le_refl _⟩
  ·have hxy:x<y:=by
    have:=List.rel_of_pairwise_cons hl (a':=y) (by simp)
    exact this
   rw [List.getLast?_cons_cons] at hq
   obtain ⟨h1,h2⟩:=ih (List.Pairwise.of_cons hl) (fun i u v z hu hv h1 h2=>hf (i+1) u v z (by simpa using hu) (by simpa using hv) h1 h2) y q rfl hq
   refine ⟨?_,by omega⟩
   rw [sumR_split (Int.le_of_lt hxy) h2,h1,stepSum,sumR_const' (f x) (Int.le_of_lt hxy) (fun z h1 h2=>hf 0 x y z rfl rfl h1 h2)]
end Go.Proofs.YtkmnbodlciepaaaGreat
namespace Go.Proofs.YtkmnbodlciepaaaGreat
structure Bx where
 x1:Int
 x2:Int
 y1:Int
 y2:Int
 id:Nat
deriving DecidableEq
def Bx.cell (b:Bx) (x y:Int):Bool:=decide (b.x1≤x∧x<b.x2∧b.y1≤y∧y<b.y2)
def Bx.counts (b:Bx):Bool:=decide (b.x1<b.x2∧b.y1<b.y2)
def Bx.in64 (b:Bx):Prop:=(-9223372036854775808≤b.x1∧b.x1≤9223372036854775807)∧(-9223372036854775808≤b.x2∧b.x2≤9223372036854775807)∧(-9223372036854775808≤b.y1∧b.y1≤9223372036854775807)∧(-9223372036854775808≤b.y2∧b.y2≤9223372036854775807)
def covB (l:List Bx) (x y:Int):Bool:=l.any fun b=>b.cell x y
def ind (b:Bool):Int:=if b then 1 else 0
theorem ind_bd (b:Bool):0≤ind b∧ind b≤1:=by cases b<;>simp [ind]
def linX (l:List Bx):List Int:=(l.filter Bx.counts).flatMap fun b=>[b.x1,b.x2]
def linY (l:List Bx):List Int:=(l.filter Bx.counts).flatMap fun b=>[b.y1,b.y2]
theorem cov_counts {b:Bx} {x y:Int} (h:b.cell x y=true):b.counts=true:=by
 unfold Bx.cell at h
 unfold Bx.counts
 simp only [decide_eq_true_eq] at h ⊢
 omega
theorem line_const {l:List Int} (hl:l.Pairwise (· < ·)) {i:Nat} {p q v z:Int} (hp:l[i]? = some p) (hq:l[i+1]? = some q) (hv:v∈l) (h1:p≤z) (h2:z<q):v≤z↔v≤p:=by
 obtain ⟨j,hj,rfl⟩:=List.getElem_of_mem hv
 obtain ⟨hi,rfl⟩:=List.getElem?_eq_some_iff.1 hp
 obtain ⟨hi',rfl⟩:=List.getElem?_eq_some_iff.1 hq
 rw [List.pairwise_iff_getElem] at hl
 constructor
 ·intro h
  rcases Nat.lt_trichotomy j (i+1) with h3 | h3 | h3
  ·rcases Nat.lt_or_ge j i with h4 | h4
   ·have:=hl j i hj hi h4;omega
   ·obtain rfl:j=i:=by omega
    exact Int.le_refl _
  ·subst h3;omega
  ·have:=hl (i+1) j hi' hj h3;omega
 ·intro h;omega
section
variable {l:List Bx} {xs ys:List Int}
theorem mem_linX {b:Bx} (hb:b∈l) (hc:b.counts=true):b.x1∈linX l∧b.x2∈linX l:=by
 unfold linX
 have:b∈l.filter Bx.counts:=List.mem_filter.2 ⟨hb,hc⟩
 exact ⟨List.mem_flatMap.2 ⟨b,this,by simp⟩,List.mem_flatMap.2 ⟨b,this,by simp⟩⟩
theorem mem_linY {b:Bx} (hb:b∈l) (hc:b.counts=true):b.y1∈linY l∧b.y2∈linY l:=by
 unfold linY
 have:b∈l.filter Bx.counts:=List.mem_filter.2 ⟨hb,hc⟩
 exact ⟨List.mem_flatMap.2 ⟨b,this,by simp⟩,List.mem_flatMap.2 ⟨b,this,by simp⟩⟩
theorem any_congr {α:Type} {p q:α→Bool}:∀{l:List α},(∀b∈l,p b=q b)→l.any p=l.any q
 | [],_=>rfl
 |a::r,h=>by
  rw [List.any_cons,List.any_cons,h a (by simp),any_congr fun b hb=>h b (List.mem_cons_of_mem _ hb)]
theorem cov_x (hxs:xs.Pairwise (· < ·)) (hm:∀v∈linX l,v∈xs) {i:Nat} {p q z y:Int} (hp:xs[i]? = some p) (hq:xs[i+1]? = some q) (h1:p≤z) (h2:z<q):covB l z y=covB l p y:=by
 refine any_congr fun b hb=>?_
 by_cases hc:b.counts=true
 ·obtain ⟨m1,m2⟩:=mem_linX hb hc
  have e1:=line_const hxs hp hq (hm _ m1) h1 h2
  have e2:=line_const hxs hp hq (hm _ m2) h1 h2
  unfold Bx.cell
  rw [Bool.eq_iff_iff]
  simp only [decide_eq_true_eq]
  omega
 ·cases h3:b.cell z y
  ·cases h4:b.cell p y
   ·rfl
   ·exact absurd (cov_counts h4) hc
  ·exact absurd (cov_counts h3) hc
theorem cov_y (hys:ys.Pairwise (· < ·)) (hm:∀v∈linY l,v∈ys) {i:Nat} {p q z x:Int} (hp:ys[i]? = some p) (hq:ys[i+1]? = some q) (h1:p≤z) (h2:z<q):covB l x z=covB l x p:=by
 refine any_congr fun b hb=>?_
 by_cases hc:b.counts=true
 ·obtain ⟨m1,m2⟩:=mem_linY hb hc
  have e1:=line_const hys hp hq (hm _ m1) h1 h2
  have e2:=line_const hys hp hq (hm _ m2) h1 h2
  unfold Bx.cell
  rw [Bool.eq_iff_iff]
  simp only [decide_eq_true_eq]
  omega
 ·cases h3:b.cell x z
  ·cases h4:b.cell x p
   ·rfl
   ·exact absurd (cov_counts h4) hc
  ·exact absurd (cov_counts h3) hc
theorem head_le {l:List Int} (hl:l.Pairwise (· < ·)) {p v:Int} (hp:l.head? = some p) (hv:v∈l):p≤v:=by
 cases l with
 |nil=>simp at hp
 |cons a r=>
  simp at hp;subst hp
  rcases List.mem_cons.1 hv with rfl | hv
  ·exact Int.le_refl _
  ·exact Int.le_of_lt (List.rel_of_pairwise_cons hl hv)
theorem le_last {l:List Int} (hl:l.Pairwise (· < ·)) {q v:Int} (hq:l.getLast? = some q) (hv:v∈l):v≤q:=by
 obtain ⟨j,hj,rfl⟩:=List.getElem_of_mem hv
 rw [List.getLast?_eq_getElem?] at hq
 obtain ⟨hn,rfl⟩:=List.getElem?_eq_some_iff.1 hq
 rw [List.pairwise_iff_getElem] at hl
 rcases Nat.lt_or_ge j (l.length - 1) with h | h
 ·exact Int.le_of_lt (hl j _ hj hn h)
 ·have:j=l.length - 1:=by omega
  subst this;exact Int.le_refl _
theorem cov_out (hxs:xs.Pairwise (· < ·)) (hm:∀v∈linX l,v∈xs) {p q z y:Int} (hp:xs.head? = some p) (hq:xs.getLast? = some q) (h:z<p∨q≤z):covB l z y=false:=by
 rw [Bool.eq_false_iff]
 intro hc
 unfold covB at hc
 rw [List.any_eq_true] at hc
 obtain ⟨b,hb,hc⟩:=hc
 obtain ⟨m1,m2⟩:=mem_linX hb (cov_counts hc)
 have h1:=head_le hxs hp (hm _ m1)
 have h2:=le_last hxs hq (hm _ m2)
 unfold Bx.cell at hc
 simp only [decide_eq_true_eq] at hc
 omega
theorem cov_outY (hys:ys.Pairwise (· < ·)) (hm:∀v∈linY l,v∈ys) {p q z x:Int} (hp:ys.head? = some p) (hq:ys.getLast? = some q) (h:z<p∨q≤z):covB l x z=false:=by
 rw [Bool.eq_false_iff]
 intro hc
 unfold covB at hc
 rw [List.any_eq_true] at hc
 obtain ⟨b,hb,hc⟩:=hc
 obtain ⟨m1,m2⟩:=mem_linY hb (cov_counts hc)
 have h1:=head_le hys hp (hm _ m1)
 have h2:=le_last hys hq (hm _ m2)
 unfold Bx.cell at hc
 simp only [decide_eq_true_eq] at hc
 omega
theorem cov_none (h:linX l = []) (x y:Int):covB l x y=false:=by
 rw [Bool.eq_false_iff]
 intro hc
 unfold covB at hc
 rw [List.any_eq_true] at hc
 obtain ⟨b,hb,hc⟩:=hc
 have:=(mem_linX hb (cov_counts hc)).1
 rw [h] at this
 simp at this
end
def areaR (l:List Bx) (lo hi:Int):Int:=sumR (fun x=>sumR (fun y=>ind (covB l x y)) lo hi) lo hi
def areaS (l:List Bx) (xs ys:List Int):Int:=stepSum (fun x=>stepSum (fun y=>ind (covB l x y)) ys) xs
theorem stepSum_congr {f g:Int→Int}:∀(l:List Int),(∀x∈l,f x=g x)→stepSum f l=stepSum g l
 | [],_=>rfl
 | [_],_=>rfl
 |x::y::r,h=>by
  rw [stepSum,stepSum,h x (by simp),stepSum_congr (y::r) fun z hz=>h z (List.mem_cons_of_mem _ hz)]
theorem stepSum_zero {f:Int→Int}:∀(l:List Int),(∀x∈l,f x=0)→stepSum f l=0
 | [],_=>rfl
 | [_],_=>rfl
 |x::y::r,h=>by
  rw [stepSum,h x (by simp),stepSum_zero (y::r) fun z hz=>h z (List.mem_cons_of_mem _ hz)];simp
theorem sumR_steps {f:Int→Int} {l:List Int} {lo hi:Int} (hl:l.Pairwise (· < ·)) (hin:∀v∈l,lo≤v∧v≤hi)
 (hf:∀(i:Nat) (x y z:Int),l[i]? = some x→l[i+1]? = some y→x≤z→z<y→f z=f x)
 (ho:∀p q z,l.head? = some p→l.getLast? = some q→z<p∨q≤z→f z=0) (hn:l = []→∀z,f z=0):sumR f lo hi=stepSum f l:=by
 cases hc:l with
 |nil=>rw [sumR_of_zero fun x _ _=>hn hc x];rfl
 |cons a r=>
  have hne:l≠[]:=by rw [hc];simp
  obtain ⟨p,hp⟩:∃p,l.head? = some p:=by rw [hc];exact ⟨a,rfl⟩
  obtain ⟨q,hq⟩:∃q,l.getLast? = some q:=by
   cases h:l.getLast? with
   |none=>rw [List.getLast?_eq_none_iff] at h;exact absurd h hne
   |some q=>exact ⟨q,rfl⟩
  obtain ⟨h1,h2⟩:=stepSum_eq f l hl hf p q hp hq
  have hpm:p∈l:=List.mem_of_mem_head? hp
  have hqm:q∈l:=List.mem_of_getLast? hq
  rw [←hc,sumR_within (hin p hpm).1 h2 (hin q hqm).2 (fun x hx=>ho p q x hp hq hx),h1]
theorem areaR_eq {l:List Bx} {xs ys:List Int} {lo hi:Int} (hxs:xs.Pairwise (· < ·)) (hys:ys.Pairwise (· < ·)) (mx:∀v,v∈xs↔v∈linX l) (my:∀v,v∈ys↔v∈linY l)
 (hx:∀v∈xs,lo≤v∧v≤hi) (hy:∀v∈ys,lo≤v∧v≤hi):areaR l lo hi=areaS l xs ys:=by
 have e0:ys = []→linX l = []:=by
  intro h
  unfold linX
  rw [List.flatMap_eq_nil_iff]
  intro b hb
  have hb':=List.mem_filter.1 hb
  have:=(my b.y1).2 (mem_linY hb'.1 hb'.2).1
  rw [h] at this
  simp at this
 have e1:∀x,sumR (fun y=>ind (covB l x y)) lo hi=stepSum (fun y=>ind (covB l x y)) ys:=fun x=>
  sumR_steps hys hy (fun i p q z h1 h2 h3 h4=>by rw [cov_y hys (fun v hv=>(my v).2 hv) h1 h2 h3 h4]) (fun p q z h1 h2 h3=>by rw [cov_outY hys (fun v hv=>(my v).2 hv) h1 h2 h3];rfl)
   (fun h z=>by rw [cov_none (e0 h)];rfl)
 unfold areaR areaS
 rw [sumR_congr fun x _ _=>e1 x]
 refine sumR_steps hxs hx (fun i p q z h1 h2 h3 h4=>stepSum_congr _ fun y _=>by rw [cov_x hxs (fun v hv=>(mx v).2 hv) h1 h2 h3 h4])
  (fun p q z h1 h2 h3=>stepSum_zero _ fun y _=>by rw [cov_out hxs (fun v hv=>(mx v).2 hv) h1 h2 h3];rfl) (fun h z=>stepSum_zero _ fun y _=>?_)
 have hX:linX l = []:=by
  rw [List.eq_nil_iff_forall_not_mem]
  intro v hv
  have:=(mx v).2 hv
  rw [h] at this
  simp at this
 rw [cov_none hX];rfl
theorem areaR_nonneg (l:List Bx) (lo hi:Int):0≤areaR l lo hi:=sumR_nonneg fun _ _ _=>sumR_nonneg fun _ _ _=>(ind_bd _).1
theorem areaR_le (l:List Bx) {lo hi:Int} (h:lo≤hi):areaR l lo hi≤(hi - lo)*(hi - lo):=
 sumR_le (hi - lo) h fun x _ _=>by
  have:=sumR_le (f:=fun y=>ind (covB l x y)) 1 h fun y _ _=>(ind_bd _).2
  omega
end Go.Proofs.YtkmnbodlciepaaaGreat
