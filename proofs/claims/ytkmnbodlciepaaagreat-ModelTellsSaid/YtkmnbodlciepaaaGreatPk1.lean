/- Sums over whole numbers from one to another, and over blocks between lines. No program. Boxes, plainly: which cells they cover, the lines of those that count, how many cells they cover. No program. Cells that boxes cover, counted by what each covers, less what is covered behind it, too; plainly. No program. -/
namespace Go.Proofs.YtkmnbodlciepaaaGreat
def sumN (f:Int→Int) (a:Int):Nat→Int
 |0=>0
 |n+1=>sumN f a n+f (a+n)
def sumR (f:Int→Int) (a b:Int):Int:=sumN f a (b - a).toNat
theorem sumN_congr {f g:Int→Int} {a:Int}:∀(n:Nat),(∀x,a≤x→x<a+n→f x=g x)→sumN f a n=sumN g a n
 |0,_=>rfl
 |n+1,h=>by
  rw [sumN,sumN,sumN_congr n (fun x h1 h2=>h x h1 (by omega)),h (a+n) (by omega) (by omega)]
theorem sumN_append (f:Int→Int) (a:Int) (m:Nat):∀(n:Nat),sumN f a (m+n)=sumN f a m+sumN f (a+m) n
 |0=>by simp [sumN]
 |n+1=>by
  rw [←Nat.add_assoc,sumN,sumN_append f a m n,sumN]
  have e:a+((m+n:Nat):Int)=a+m+n:=by omega
  rw [e];omega
theorem sumN_add (f g:Int→Int) (a:Int):∀(n:Nat),sumN (fun x=>f x+g x) a n=sumN f a n+sumN g a n
 |0=>rfl
 |n+1=>by simp only [sumN];rw [sumN_add f g a n];omega
theorem sumN_mul (f:Int→Int) (k a:Int):∀(n:Nat),sumN (fun x=>k*f x) a n=k*sumN f a n
 |0=>by simp [sumN]
 |n+1=>by simp only [sumN];rw [sumN_mul f k a n,Int.mul_add]
theorem sumN_const (k a:Int):∀(n:Nat),sumN (fun _=>k) a n=k*n
 |0=>by simp [sumN]
 |n+1=>by simp only [sumN];rw [sumN_const k a n,Int.natCast_add,Int.mul_add];simp
theorem sumN_mono {f g:Int→Int} {a:Int}:∀(n:Nat),(∀x,a≤x→x<a+n→f x≤g x)→sumN f a n≤sumN g a n
 |0,_=>Int.le_refl _
 |n+1,h=>by
  have h1:=sumN_mono n (fun x h1 h2=>h x h1 (by omega))
  have h2:=h (a+n) (by omega) (by omega)
  simp only [sumN];omega
theorem sumN_shift (f:Int→Int) (d a:Int):∀(n:Nat),sumN (fun x=>f (x+d)) a n=sumN f (a+d) n
 |0=>rfl
 |n+1=>by
  simp only [sumN];rw [sumN_shift f d a n]
  have e:a+(n:Int)+d=a+d+n:=by omega
  rw [e]
theorem sumN_swap (f:Int→Int→Int) (a b:Int) (m:Nat):∀(n:Nat),sumN (fun x=>sumN (fun y=>f x y) b m) a n=sumN (fun y=>sumN (fun x=>f x y) a n) b m
 |0=>by
  have:∀m:Nat,sumN (fun _=>(0:Int)) b m=0:=fun m=>by rw [sumN_const];simp
  simp only [sumN];exact (this m).symm
 |n+1=>by
  simp only [sumN]
  rw [sumN_swap f a b m n,←sumN_add]
section
variable {f g:Int→Int} {a b c:Int}
theorem sumR_none (h:b≤a):sumR f a b=0:=by
 unfold sumR
 rw [show (b - a).toNat=0 by omega];rfl
theorem sumR_split (h1:a≤b) (h2:b≤c):sumR f a c=sumR f a b+sumR f b c:=by
 unfold sumR
 rw [show (c - a).toNat=(b - a).toNat+(c - b).toNat by omega,sumN_append]
 rw [show a+((b - a).toNat:Int)=b by omega]
theorem sumR_congr (h:∀x,a≤x→x<b→f x=g x):sumR f a b=sumR g a b:=sumN_congr _ fun x h1 h2=>h x h1 (by omega)
theorem sumR_mono (h:∀x,a≤x→x<b→f x≤g x):sumR f a b≤sumR g a b:=sumN_mono _ fun x h1 h2=>h x h1 (by omega)
theorem sumR_const (k:Int) (hab:a≤b):sumR (fun _=>k) a b=k*(b - a):=by
 unfold sumR
 rw [sumN_const,Int.toNat_of_nonneg (by omega)]
theorem sumR_zero:sumR (fun _=>0) a b=0:=by
 unfold sumR
 rw [sumN_const];simp
theorem sumR_of_zero (h:∀x,a≤x→x<b→f x=0):sumR f a b=0:=by
 rw [sumR_congr (g:=fun _=>0) h,sumR_zero]
theorem sumR_const' (k:Int) (hab:a≤b) (h:∀x,a≤x→x<b→f x=k):sumR f a b=k*(b - a):=by
 rw [sumR_congr h,sumR_const k hab]
theorem sumR_le (k:Int) (hab:a≤b) (h:∀x,a≤x→x<b→f x≤k):sumR f a b≤k*(b - a):=by
 have:=sumR_mono (f:=f) (g:=fun _=>k) (a:=a) (b:=b) h
 rwa [sumR_const k hab] at this
theorem sumR_add:sumR (fun x=>f x+g x) a b=sumR f a b+sumR g a b:=sumN_add f g a _
theorem sumR_mul (k:Int):sumR (fun x=>k*f x) a b=k*sumR f a b:=sumN_mul f k a _
theorem sumR_sub:sumR (fun x=>f x - g x) a b=sumR f a b - sumR g a b:=by
 have h1:=sumR_add (f:=fun x=>f x - g x) (g:=g) (a:=a) (b:=b)
 have h2:sumR (fun x=>f x - g x+g x) a b=sumR f a b:=sumR_congr fun x _ _=>by omega
 omega
theorem sumR_shift (d:Int):sumR (fun x=>f (x+d)) a b=sumR f (a+d) (b+d):=by
 unfold sumR
 rw [sumN_shift,show (b+d - (a+d)).toNat=(b - a).toNat by omega]
end
theorem sumR_swap (f:Int→Int→Int) (a b c d:Int):sumR (fun x=>sumR (fun y=>f x y) c d) a b=sumR (fun y=>sumR (fun x=>f x y) a b) c d:=sumN_swap f a c _ _
theorem sumR_within {f:Int→Int} {a b p q:Int} (h1:a≤p) (h2:p≤q) (h3:q≤b) (hz:∀x,x<p∨q≤x→f x=0):sumR f a b=sumR f p q:=by
 rw [sumR_split h1 (Int.le_trans h2 h3),sumR_split h2 h3,sumR_of_zero (b:=p) (fun x _ hx=>hz x (.inl hx)),sumR_of_zero (a:=q) (fun x hx _=>hz x (.inr hx))]
 omega
def stepSum (f:Int→Int):List Int→Int
 |x::y::r=>f x*(y - x)+stepSum f (y::r)
 |_=>0
theorem stepSum_eq (f:Int→Int):∀(l:List Int),l.Pairwise (· < ·)→(∀(i:Nat) (x y z:Int),l[i]? = some x→l[i+1]? = some y→x≤z→z<y→f z=f x)→
 ∀p q,l.head? = some p→l.getLast? = some q→sumR f p q=stepSum f l∧p≤q:=by
 intro l
 induction l with
 |nil=>intro _ _ p q hp;simp at hp
 |cons x r ih=>
  intro hl hf p q hp hq
  simp at hp;subst hp
  rcases r with _ | ⟨y,r⟩
  ·simp at hq;subst hq
   exact ⟨by rw [sumR_none (Int.le_refl _)];rfl,Int.le_refl _⟩
  ·have hxy:x<y:=by
    have:=List.rel_of_pairwise_cons hl (a':=y) (by simp)
    exact this
   rw [List.getLast?_cons_cons] at hq
   obtain ⟨h1,h2⟩:=ih (List.Pairwise.of_cons hl) (fun i u v z hu hv h1 h2=>hf (i+1) u v z (by simpa using hu) (by simpa using hv) h1 h2) y q rfl hq
   refine ⟨?_,by omega⟩
   rw [sumR_split (Int.le_of_lt hxy) h2,h1,stepSum,sumR_const' (f x) (Int.le_of_lt hxy) (fun z h1 h2=>hf 0 x y z rfl rfl h1 h2)]
end Go.Proofs.YtkmnbodlciepaaaGreat
namespace Go.Proofs.YtkmnbodlciepaaaGreat
structure Bx where
 x1:Int
 x2:Int
 y1:Int
 y2:Int
 id:Nat
deriving DecidableEq
def Bx.cell (b:Bx) (x y:Int):Bool:=decide (b.x1≤x∧x<b.x2∧b.y1≤y∧y<b.y2)
def Bx.counts (b:Bx):Bool:=decide (b.x1<b.x2∧b.y1<b.y2)
def Bx.in64 (b:Bx):Prop:=(-9223372036854775808≤b.x1∧b.x1≤9223372036854775807)∧(-9223372036854775808≤b.x2∧b.x2≤9223372036854775807)∧(-9223372036854775808≤b.y1∧b.y1≤9223372036854775807)∧(-9223372036854775808≤b.y2∧b.y2≤9223372036854775807)
def covB (l:List Bx) (x y:Int):Bool:=l.any fun b=>b.cell x y
def ind (b:Bool):Int:=if b then 1 else 0
theorem ind_bd (b:Bool):0≤ind b∧ind b≤1:=by cases b<;>simp [ind]
def linX (l:List Bx):List Int:=(l.filter Bx.counts).flatMap fun b=>[b.x1,b.x2]
def linY (l:List Bx):List Int:=(l.filter Bx.counts).flatMap fun b=>[b.y1,b.y2]
theorem cov_counts {b:Bx} {x y:Int} (h:b.cell x y=true):b.counts=true:=by
 unfold Bx.cell at h
 unfold Bx.counts
 simp only [decide_eq_true_eq] at h ⊢
 omega
theorem line_const {l:List Int} (hl:l.Pairwise (· < ·)) {i:Nat} {p q v z:Int} (hp:l[i]? = some p) (hq:l[i+1]? = some q) (hv:v∈l) (h1:p≤z) (h2:z<q):v≤z↔v≤p:=by
 obtain ⟨j,hj,rfl⟩:=List.getElem_of_mem hv
 obtain ⟨hi,rfl⟩:=List.getElem?_eq_some_iff.1 hp
 obtain ⟨hi',rfl⟩:=List.getElem?_eq_some_iff.1 hq
 rw [List.pairwise_iff_getElem] at hl
 constructor
 ·intro h
  rcases Nat.lt_trichotomy j (i+1) with h3 | h3 | h3
  ·rcases Nat.lt_or_ge j i with h4 | h4
   ·have:=hl j i hj hi h4;omega
   ·obtain rfl:j=i:=by omega
    exact Int.le_refl _
  ·subst h3;omega
  ·have:=hl (i+1) j hi' hj h3;omega
 ·intro h;omega
section
variable {l:List Bx} {xs ys:List Int}
theorem mem_linX {b:Bx} (hb:b∈l) (hc:b.counts=true):b.x1∈linX l∧b.x2∈linX l:=by
 unfold linX
 have:b∈l.filter Bx.counts:=List.mem_filter.2 ⟨hb,hc⟩
 exact ⟨List.mem_flatMap.2 ⟨b,this,by simp⟩,List.mem_flatMap.2 ⟨b,this,by simp⟩⟩
theorem mem_linY {b:Bx} (hb:b∈l) (hc:b.counts=true):b.y1∈linY l∧b.y2∈linY l:=by
 unfold linY
 have:b∈l.filter Bx.counts:=List.mem_filter.2 ⟨hb,hc⟩
 exact ⟨List.mem_flatMap.2 ⟨b,this,by simp⟩,List.mem_flatMap.2 ⟨b,this,by simp⟩⟩
theorem any_congr {α:Type} {p q:α→Bool}:∀{l:List α},(∀b∈l,p b=q b)→l.any p=l.any q
 | [],_=>rfl
 |a::r,h=>by
  rw [List.any_cons,List.any_cons,h a (by simp),any_congr fun b hb=>h b (List.mem_cons_of_mem _ hb)]
theorem cov_x (hxs:xs.Pairwise (· < ·)) (hm:∀v∈linX l,v∈xs) {i:Nat} {p q z y:Int} (hp:xs[i]? = some p) (hq:xs[i+1]? = some q) (h1:p≤z) (h2:z<q):covB l z y=covB l p y:=by
 refine any_congr fun b hb=>?_
 by_cases hc:b.counts=true
 ·obtain ⟨m1,m2⟩:=mem_linX hb hc
  have e1:=line_const hxs hp hq (hm _ m1) h1 h2
  have e2:=line_const hxs hp hq (hm _ m2) h1 h2
  unfold Bx.cell
  rw [Bool.eq_iff_iff]
  simp only [decide_eq_true_eq]
  omega
 ·cases h3:b.cell z y
  ·cases h4:b.cell p y
   ·rfl
   ·exact absurd (cov_counts h4) hc
  ·exact absurd (cov_counts h3) hc
theorem cov_y (hys:ys.Pairwise (· < ·)) (hm:∀v∈linY l,v∈ys) {i:Nat} {p q z x:Int} (hp:ys[i]? = some p) (hq:ys[i+1]? = some q) (h1:p≤z) (h2:z<q):covB l x z=covB l x p:=by
 refine any_congr fun b hb=>?_
 by_cases hc:b.counts=true
 ·obtain ⟨m1,m2⟩:=mem_linY hb hc
  have e1:=line_const hys hp hq (hm _ m1) h1 h2
  have e2:=line_const hys hp hq (hm _ m2) h1 h2
  unfold Bx.cell
  rw [Bool.eq_iff_iff]
  simp only [decide_eq_true_eq]
  omega
 ·cases h3:b.cell x z
  ·cases h4:b.cell x p
   ·rfl
   ·exact absurd (cov_counts h4) hc
  ·exact absurd (cov_counts h3) hc
theorem head_le {l:List Int} (hl:l.Pairwise (· < ·)) {p v:Int} (hp:l.head? = some p) (hv:v∈l):p≤v:=by
 cases l with
 |nil=>simp at hp
 |cons a r=>
  simp at hp;subst hp
  rcases List.mem_cons.1 hv with rfl | hv
  ·exact Int.le_refl _
  ·exact Int.le_of_lt (List.rel_of_pairwise_cons hl hv)
theorem le_last {l:List Int} (hl:l.Pairwise (· < ·)) {q v:Int} (hq:l.getLast? = some q) (hv:v∈l):v≤q:=by
 obtain ⟨j,hj,rfl⟩:=List.getElem_of_mem hv
 rw [List.getLast?_eq_getElem?] at hq
 obtain ⟨hn,rfl⟩:=List.getElem?_eq_some_iff.1 hq
 rw [List.pairwise_iff_getElem] at hl
 rcases Nat.lt_or_ge j (l.length - 1) with h | h
 ·exact Int.le_of_lt (hl j _ hj hn h)
 ·have:j=l.length - 1:=by omega
  subst this;exact Int.le_refl _
theorem cov_out (hxs:xs.Pairwise (· < ·)) (hm:∀v∈linX l,v∈xs) {p q z y:Int} (hp:xs.head? = some p) (hq:xs.getLast? = some q) (h:z<p∨q≤z):covB l z y=false:=by
 rw [Bool.eq_false_iff]
 intro hc
 unfold covB at hc
 rw [List.any_eq_true] at hc
 obtain ⟨b,hb,hc⟩:=hc
 obtain ⟨m1,m2⟩:=mem_linX hb (cov_counts hc)
 have h1:=head_le hxs hp (hm _ m1)
 have h2:=le_last hxs hq (hm _ m2)
 unfold Bx.cell at hc
 simp only [decide_eq_true_eq] at hc
 omega
theorem cov_outY (hys:ys.Pairwise (· < ·)) (hm:∀v∈linY l,v∈ys) {p q z x:Int} (hp:ys.head? = some p) (hq:ys.getLast? = some q) (h:z<p∨q≤z):covB l x z=false:=by
 rw [Bool.eq_false_iff]
 intro hc
 unfold covB at hc
 rw [List.any_eq_true] at hc
 obtain ⟨b,hb,hc⟩:=hc
 obtain ⟨m1,m2⟩:=mem_linY hb (cov_counts hc)
 have h1:=head_le hys hp (hm _ m1)
 have h2:=le_last hys hq (hm _ m2)
 unfold Bx.cell at hc
 simp only [decide_eq_true_eq] at hc
 omega
theorem cov_none (h:linX l = []) (x y:Int):covB l x y=false:=by
 rw [Bool.eq_false_iff]
 intro hc
 unfold covB at hc
 rw [List.any_eq_true] at hc
 obtain ⟨b,hb,hc⟩:=hc
 have:=(mem_linX hb (cov_counts hc)).1
 rw [h] at this
 simp at this
end
def areaR (l:List Bx) (lo hi:Int):Int:=sumR (fun x=>sumR (fun y=>ind (covB l x y)) lo hi) lo hi
def areaS (l:List Bx) (xs ys:List Int):Int:=stepSum (fun x=>stepSum (fun y=>ind (covB l x y)) ys) xs
theorem stepSum_congr {f g:Int→Int}:∀(l:List Int),(∀x∈l,f x=g x)→stepSum f l=stepSum g l
 | [],_=>rfl
 | [_],_=>rfl
 |x::y::r,h=>by
  rw [stepSum,stepSum,h x (by simp),stepSum_congr (y::r) fun z hz=>h z (List.mem_cons_of_mem _ hz)]
theorem stepSum_zero {f:Int→Int}:∀(l:List Int),(∀x∈l,f x=0)→stepSum f l=0
 | [],_=>rfl
 | [_],_=>rfl
 |x::y::r,h=>by
  rw [stepSum,h x (by simp),stepSum_zero (y::r) fun z hz=>h z (List.mem_cons_of_mem _ hz)];simp
theorem sumR_steps {f:Int→Int} {l:List Int} {lo hi:Int} (hl:l.Pairwise (· < ·)) (hin:∀v∈l,lo≤v∧v≤hi)
 (hf:∀(i:Nat) (x y z:Int),l[i]? = some x→l[i+1]? = some y→x≤z→z<y→f z=f x)
 (ho:∀p q z,l.head? = some p→l.getLast? = some q→z<p∨q≤z→f z=0) (hn:l = []→∀z,f z=0):sumR f lo hi=stepSum f l:=by
 cases hc:l with
 |nil=>rw [sumR_of_zero fun x _ _=>hn hc x];rfl
 |cons a r=>
  have hne:l≠[]:=by rw [hc];simp
  obtain ⟨p,hp⟩:∃p,l.head? = some p:=by rw [hc];exact ⟨a,rfl⟩
  obtain ⟨q,hq⟩:∃q,l.getLast? = some q:=by
   cases h:l.getLast? with
   |none=>rw [List.getLast?_eq_none_iff] at h;exact absurd h hne
   |some q=>exact ⟨q,rfl⟩
  obtain ⟨h1,h2⟩:=stepSum_eq f l hl hf p q hp hq
  have hpm:p∈l:=List.mem_of_mem_head? hp
  have hqm:q∈l:=List.mem_of_getLast? hq
  rw [←hc,sumR_within (hin p hpm).1 h2 (hin q hqm).2 (fun x hx=>ho p q x hp hq hx),h1]
theorem areaR_eq {l:List Bx} {xs ys:List Int} {lo hi:Int} (hxs:xs.Pairwise (· < ·)) (hys:ys.Pairwise (· < ·)) (mx:∀v,v∈xs↔v∈linX l) (my:∀v,v∈ys↔v∈linY l)
 (hx:∀v∈xs,lo≤v∧v≤hi) (hy:∀v∈ys,lo≤v∧v≤hi):areaR l lo hi=areaS l xs ys:=by
 have e0:ys = []→linX l = []:=by
  intro h
  unfold linX
  rw [List.flatMap_eq_nil_iff]
  intro b hb
  have hb':=List.mem_filter.1 hb
  have:=(my b.y1).2 (mem_linY hb'.1 hb'.2).1
  rw [h] at this
  simp at this
 have e1:∀x,sumR (fun y=>ind (covB l x y)) lo hi=stepSum (fun y=>ind (covB l x y)) ys:=fun x=>
  sumR_steps hys hy (fun i p q z h1 h2 h3 h4=>by rw [cov_y hys (fun v hv=>(my v).2 hv) h1 h2 h3 h4]) (fun p q z h1 h2 h3=>by rw [cov_outY hys (fun v hv=>(my v).2 hv) h1 h2 h3];rfl)
   (fun h z=>by rw [cov_none (e0 h)];rfl)
 unfold areaR areaS
 rw [sumR_congr fun x _ _=>e1 x]
 refine sumR_steps hxs hx (fun i p q z h1 h2 h3 h4=>stepSum_congr _ fun y _=>by rw [cov_x hxs (fun v hv=>(mx v).2 hv) h1 h2 h3 h4])
  (fun p q z h1 h2 h3=>stepSum_zero _ fun y _=>by rw [cov_out hxs (fun v hv=>(mx v).2 hv) h1 h2 h3];rfl) (fun h z=>stepSum_zero _ fun y _=>?_)
 have hX:linX l = []:=by
  rw [List.eq_nil_iff_forall_not_mem]
  intro v hv
  have:=(mx v).2 hv
  rw [h] at this
  simp at this
 rw [cov_none hX];rfl
theorem areaR_le (l:List Bx) {lo hi:Int} (h:lo≤hi):areaR l lo hi≤(hi - lo)*(hi - lo):=
 sumR_le (hi - lo) h fun x _ _=>by
  have:=sumR_le (f:=fun y=>ind (covB l x y)) 1 h fun y _ _=>(ind_bd _).2
  omega
end Go.Proofs.YtkmnbodlciepaaaGreat
namespace Go.Proofs.YtkmnbodlciepaaaGreat
def cellM (mX mY:Int) (b:Bx) (x y:Int):Bool:=b.counts&&decide (b.x1≤x∧x<b.x2+mX∧b.y1≤y∧y<b.y2+mY)
def covM' (mX mY:Int) (l:List Bx) (x y:Int):Bool:=l.any fun b=>cellM mX mY b x y
def bothB (b i:Bx):Bx:=⟨max b.x1 i.x1,min b.x2 i.x2,max b.y1 i.y1,min b.y2 i.y2,0⟩
def okI (b i:Bx):Bool:=b.counts&&(decide ((bothB b i).x1≤(bothB b i).x2)&&decide ((bothB b i).y1≤(bothB b i).y2))
def oneI (mX mY:Int) (b:Bx):Int:=(b.x2 - b.x1+mX)*(b.y2 - b.y1+mY)
def cellsI (mX mY:Int):List Bx→Bx→Int
 | [],_=>0
 |b::l,i=>(if okI b i=true then oneI mX mY (bothB b i) - cellsI mX mY l (bothB b i) else 0)+cellsI mX mY l i
def overI (mX mY:Int) (i:Bx) (f:Int→Int→Int):Int:=sumR (fun x=>sumR (fun y=>f x y) i.y1 (i.y2+mY)) i.x1 (i.x2+mX)
theorem sumR_in {f:Int→Int} {a b p q:Int} (h1:a≤p) (h2:p≤q) (h3:q≤b) (hz:∀x,a≤x→x<b→(x<p∨q≤x)→f x=0):sumR f a b=sumR f p q:=by
 rw [sumR_split h1 (show p≤b by omega),sumR_split h2 h3,sumR_of_zero fun x h4 h5=>hz x h4 (by omega) (.inl h5),sumR_of_zero (a:=q) fun x h4 h5=>hz x (by omega) h5 (.inr h4)]
 omega
theorem overI_zero {mX mY:Int} {i:Bx} {f:Int→Int→Int} (h:∀x y,i.x1≤x→x<i.x2+mX→i.y1≤y→y<i.y2+mY→f x y=0):overI mX mY i f=0:=
 sumR_of_zero fun x h1 h2=>sumR_of_zero fun y h3 h4=>h x y h1 h2 h3 h4
theorem overI_congr {mX mY:Int} {i:Bx} {f g:Int→Int→Int} (h:∀x y,i.x1≤x→x<i.x2+mX→i.y1≤y→y<i.y2+mY→f x y=g x y):overI mX mY i f=overI mX mY i g:=
 sumR_congr fun x h1 h2=>sumR_congr fun y h3 h4=>h x y h1 h2 h3 h4
theorem overI_add (mX mY:Int) (i:Bx) (f g:Int→Int→Int):overI mX mY i (fun x y=>f x y+g x y)=overI mX mY i f+overI mX mY i g:=by
 unfold overI
 rw [←sumR_add]
 exact sumR_congr fun x _ _=>sumR_add
theorem overI_sub (mX mY:Int) (i:Bx) (f g:Int→Int→Int):overI mX mY i (fun x y=>f x y - g x y)=overI mX mY i f - overI mX mY i g:=by
 unfold overI
 rw [←sumR_sub]
 exact sumR_congr fun x _ _=>sumR_sub
theorem overI_part {mX mY:Int} {i p:Bx} {f:Int→Int→Int} (hx1:i.x1≤p.x1) (hx:p.x1≤p.x2+mX) (hx2:p.x2≤i.x2) (hy1:i.y1≤p.y1) (hy:p.y1≤p.y2+mY) (hy2:p.y2≤i.y2)
 (h:∀x y,i.x1≤x→x<i.x2+mX→i.y1≤y→y<i.y2+mY→¬(p.x1≤x∧x<p.x2+mX∧p.y1≤y∧y<p.y2+mY)→f x y=0):overI mX mY i f=overI mX mY p f:=by
 unfold overI
 rw [sumR_in hx1 hx (show p.x2+mX≤i.x2+mX by omega) fun x h1 h2 h3=>sumR_of_zero fun y h4 h5=>h x y h1 h2 h4 h5 (by omega)]
 exact sumR_congr fun x h1 h2=>sumR_in hy1 hy (by omega) fun y h4 h5 h6=>h x y (by omega) (by omega) h4 h5 (by omega)
theorem overI_one {mX mY:Int} {i:Bx} (hx:i.x1≤i.x2+mX) (hy:i.y1≤i.y2+mY):overI mX mY i (fun _ _=>1)=oneI mX mY i:=by
 unfold overI oneI
 rw [sumR_congr (g:=fun _=>1*(i.y2+mY - i.y1)) fun x _ _=>sumR_const 1 hy,sumR_const _ hx]
 rw [Int.one_mul,Int.mul_comm]
 congr 1<;>omega
theorem cellsI_eq {mX mY:Int} (mx:0≤mX∧mX≤1) (my:0≤mY∧mY≤1):∀(l:List Bx) (i:Bx),i.x1≤i.x2→i.y1≤i.y2→cellsI mX mY l i=overI mX mY i (fun x y=>ind (covM' mX mY l x y))
 | [],i,_,_=>by unfold cellsI;exact (overI_zero fun x y _ _ _ _=>rfl).symm
 |b::l,i,h1,h2=>by
  have ih:=cellsI_eq mx my l i h1 h2
  unfold cellsI
  rw [ih]
  have e:overI mX mY i (fun x y=>ind (covM' mX mY (b::l) x y))=overI mX mY i (fun x y=>(ind (cellM mX mY b x y) - ind (cellM mX mY b x y&&covM' mX mY l x y))+ind (covM' mX mY l x y)):=by
   refine overI_congr fun x y _ _ _ _=>?_
   unfold covM'
   rw [List.any_cons]
   cases cellM mX mY b x y<;>cases (l.any fun b=>cellM mX mY b x y)<;>rfl
  rw [e,overI_add,overI_sub]
  congr 1
  by_cases hok:okI b i=true
  ·rw [if_pos hok]
   have hok':=hok
   unfold okI at hok'
   simp only [Bool.and_eq_true,decide_eq_true_eq] at hok'
   obtain ⟨hc,g1,g2⟩:=hok'
   have ih2:=cellsI_eq mx my l (bothB b i) g1 g2
   have q1:i.x1≤(bothB b i).x1:=by unfold bothB;dsimp only;omega
   have q2:(bothB b i).x2≤i.x2:=by unfold bothB;dsimp only;omega
   have q3:i.y1≤(bothB b i).y1:=by unfold bothB;dsimp only;omega
   have q4:(bothB b i).y2≤i.y2:=by unfold bothB;dsimp only;omega
   have hin:∀x y,i.x1≤x→x<i.x2+mX→i.y1≤y→y<i.y2+mY→cellM mX mY b x y=decide ((bothB b i).x1≤x∧x<(bothB b i).x2+mX∧(bothB b i).y1≤y∧y<(bothB b i).y2+mY):=fun x y a1 a2 a3 a4=>by
    unfold cellM
    rw [hc,Bool.true_and]
    refine decide_eq_decide.2 ?_
    unfold bothB
    dsimp only
    omega
   rw [ih2,←overI_one (mX:=mX) (mY:=mY) (i:=bothB b i) (by omega) (by omega)]
   congr 1
   ·rw [overI_part (i:=i) (p:=bothB b i) q1 (by omega) q2 q3 (by omega) q4 fun x y a1 a2 a3 a4 hn=>by rw [hin x y a1 a2 a3 a4,decide_eq_false hn];rfl]
    refine (overI_congr fun x y a1 a2 a3 a4=>?_).symm
    rw [hin x y (by omega) (by omega) (by omega) (by omega),decide_eq_true ⟨a1,a2,a3,a4⟩];rfl
   ·rw [overI_part (i:=i) (p:=bothB b i) q1 (by omega) q2 q3 (by omega) q4 fun x y a1 a2 a3 a4 hn=>by rw [hin x y a1 a2 a3 a4,decide_eq_false hn];rfl]
    refine (overI_congr fun x y a1 a2 a3 a4=>?_).symm
    rw [hin x y (by omega) (by omega) (by omega) (by omega),decide_eq_true ⟨a1,a2,a3,a4⟩,Bool.true_and]
  ·rw [if_neg hok]
   have hz:∀x y,i.x1≤x→x<i.x2+mX→i.y1≤y→y<i.y2+mY→cellM mX mY b x y=false:=fun x y a1 a2 a3 a4=>by
    cases hcm:cellM mX mY b x y with
    |false=>rfl
    |true=>
     exfalso
     apply hok
     unfold cellM at hcm
     unfold okI bothB
     dsimp only
     simp only [Bool.and_eq_true,decide_eq_true_eq] at hcm ⊢
     refine ⟨hcm.1,?_,?_⟩<;>omega
   rw [overI_zero fun x y a1 a2 a3 a4=>by rw [hz x y a1 a2 a3 a4];rfl,overI_zero (f:=fun x y=>ind (cellM mX mY b x y&&covM' mX mY l x y)) fun x y a1 a2 a3 a4=>by rw [hz x y a1 a2 a3 a4];rfl]
   rfl
def allB:Bx:=⟨-9223372036854775808,9223372036854775807,-9223372036854775808,9223372036854775807,0⟩
theorem covM_00 (l:List Bx) (x y:Int):covM' 0 0 l x y=covB l x y:=by
 unfold covM' covB
 refine any_congr fun b _=>?_
 unfold cellM Bx.counts Bx.cell
 rw [Bool.eq_iff_iff]
 simp only [Bool.and_eq_true,decide_eq_true_eq]
 omega
theorem cells_area (l:List Bx):cellsI 0 0 l allB=areaR l (-9223372036854775808) 9223372036854775807:=by
 rw [cellsI_eq ⟨by decide,by decide⟩ ⟨by decide,by decide⟩ l allB (by decide) (by decide)]
 unfold overI areaR allB
 dsimp only
 rw [Int.add_zero]
 exact sumR_congr fun x _ _=>sumR_congr fun y _ _=>by rw [covM_00]
theorem covM_01 (l:List Bx) (x y:Int):covM' 0 1 l x y=(covB l x y||covB l x (y - 1)):=by
 have e:∀b:Bx,cellM 0 1 b x y=(b.cell x y||b.cell x (y - 1)):=fun b=>by
  unfold cellM Bx.counts Bx.cell
  rw [Bool.eq_iff_iff]
  simp only [Bool.and_eq_true,Bool.or_eq_true,decide_eq_true_eq]
  omega
 unfold covM' covB
 rw [any_congr (q:=fun b:Bx=>b.cell x y||b.cell x (y - 1)) fun b _=>e b]
 clear e
 induction l with
 |nil=>rfl
 |cons b l ih=>
  rw [List.any_cons,List.any_cons,List.any_cons,ih]
  cases b.cell x y<;>cases b.cell x (y - 1)<;>simp
end Go.Proofs.YtkmnbodlciepaaaGreat
