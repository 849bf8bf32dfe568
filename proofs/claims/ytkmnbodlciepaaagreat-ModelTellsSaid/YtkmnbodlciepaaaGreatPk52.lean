/- The rim, block by block, is the rim by boxes that are all one longer; plainly. No program. -/
import Derived.Test.YtkmnbodlciepaaaGreatPk39
import Derived.Test.YtkmnbodlciepaaaGreatPk46
import Derived.Test.YtkmnbodlciepaaaGreatPk1
namespace Go.Proofs.YtkmnbodlciepaaaGreat
theorem mf_cons (a:Int) (l:List Int) (i:Nat):mf (a::l) (i+1)=mf l i:=by unfold mf;rw [List.getElem?_cons_succ]
theorem steps_sumK (f:Int→Int):∀(l:List Int) (g:Nat→Nat),(∀i,i<l.length - 1→(g i:Int)=f (mf l i)*(mf l (i+1) - mf l i))→(sumK g (l.length - 1):Int)=stepSum f l
 | [],g,_=>rfl
 | [_],g,_=>rfl
 |x::y::r,g,h=>by
  have e:(x::y::r).length - 1=((y::r).length - 1)+1:=by simp
  rw [e,sumK_cons,stepSum]
  have h0:=h 0 (by simp)
  have e0:mf (x::y::r) 0=x:=rfl
  have e1:mf (x::y::r) (0+1)=y:=rfl
  rw [e0,e1] at h0
  have ih:=steps_sumK f (y::r) (fun i=>g (i+1)) (fun i hi=>by
   have:=h (i+1) (by simp at hi ⊢;omega)
   rw [mf_cons,mf_cons] at this
   exact this)
  rw [Int.natCast_add,h0,ih]
theorem line_constL {l:List Int} (hl:l.Pairwise (·≤·)) {i:Nat} {p q v z:Int} (hp:l[i]? = some p) (hq:l[i+1]? = some q) (hv:v∈l) (h1:p≤z) (h2:z<q):v≤z↔v≤p:=by
 obtain ⟨j,hj,rfl⟩:=List.getElem_of_mem hv
 obtain ⟨hi,rfl⟩:=List.getElem?_eq_some_iff.1 hp
 obtain ⟨hi',rfl⟩:=List.getElem?_eq_some_iff.1 hq
 rw [List.pairwise_iff_getElem] at hl
 constructor
 ·intro h
  rcases Nat.lt_trichotomy j (i+1) with h3 | h3 | h3
  ·rcases Nat.lt_or_ge j i with h4 | h4
   ·exact hl j i hj hi h4
   ·obtain rfl:j=i:=by omega
    exact Int.le_refl _
  ·subst h3;omega
  ·have:=hl (i+1) j hi' hj h3;omega
 ·intro h;omega
theorem head_leL {l:List Int} (hl:l.Pairwise (·≤·)) {p v:Int} (hp:l.head? = some p) (hv:v∈l):p≤v:=by
 cases l with
 |nil=>simp at hp
 |cons a r=>
  simp at hp;subst hp
  rcases List.mem_cons.1 hv with rfl | hv
  ·exact Int.le_refl _
  ·exact List.rel_of_pairwise_cons hl hv
theorem le_lastL {l:List Int} (hl:l.Pairwise (·≤·)) {q v:Int} (hq:l.getLast? = some q) (hv:v∈l):v≤q:=by
 obtain ⟨j,hj,rfl⟩:=List.getElem_of_mem hv
 rw [List.getLast?_eq_getElem?] at hq
 obtain ⟨hn,rfl⟩:=List.getElem?_eq_some_iff.1 hq
 rw [List.pairwise_iff_getElem] at hl
 rcases Nat.lt_or_ge j (l.length - 1) with h | h
 ·exact hl j _ hj hn h
 ·have:j=l.length - 1:=by omega
  subst this;exact Int.le_refl _
theorem stepSum_eqL (f:Int→Int):∀(l:List Int),l.Pairwise (·≤·)→(∀(i:Nat) (x y z:Int),l[i]? = some x→l[i+1]? = some y→x≤z→z<y→f z=f x)→
 ∀p q,l.head? = some p→l.getLast? = some q→sumR f p q=stepSum f l∧p≤q:=by
 intro l
 induction l with
 |nil=>intro _ _ p q hp;simp at hp
 |cons x r ih=>
  intro hl hf p q hp hq
  simp at hp;subst hp
  rcases r with _ | ⟨y,r⟩
  ·simp at hq;subst hq
   exact ⟨by rw [sumR_none (Int.le_refl _)];rfl,Int.le_refl _⟩
  ·have hxy:x≤y:=by
    have:=List.rel_of_pairwise_cons hl (a':=y) (by simp)
    exact this
   rw [List.getLast?_cons_cons] at hq
   obtain ⟨h1,h2⟩:=ih (List.Pairwise.of_cons hl) (fun i u v z hu hv h1 h2=>hf (i+1) u v z (by simpa using hu) (by simpa using hv) h1 h2) y q rfl hq
   refine ⟨?_,by omega⟩
   rw [sumR_split hxy h2,h1,stepSum,sumR_const' (f x) hxy (fun z h1 h2=>hf 0 x y z rfl rfl h1 h2)]
section
variable {l:List Bx} {xs ys:List Int}
theorem cov_xL (hxs:xs.Pairwise (·≤·)) (hm:∀v∈linX l,v∈xs) {i:Nat} {p q z y:Int} (hp:xs[i]? = some p) (hq:xs[i+1]? = some q) (h1:p≤z) (h2:z<q):covB l z y=covB l p y:=by
 refine any_congr fun b hb=>?_
 by_cases hc:b.counts=true
 ·obtain ⟨m1,m2⟩:=mem_linX hb hc
  have e1:=line_constL hxs hp hq (hm _ m1) h1 h2
  have e2:=line_constL hxs hp hq (hm _ m2) h1 h2
  unfold Bx.cell
  rw [Bool.eq_iff_iff]
  simp only [decide_eq_true_eq]
  omega
 ·cases h3:b.cell z y
  ·cases h4:b.cell p y
   ·rfl
   ·exact absurd (cov_counts h4) hc
  ·exact absurd (cov_counts h3) hc
theorem cov_outL (hxs:xs.Pairwise (·≤·)) (hm:∀v∈linX l,v∈xs) {p q z y:Int} (hp:xs.head? = some p) (hq:xs.getLast? = some q) (h:z<p∨q≤z):covB l z y=false:=by
 rw [Bool.eq_false_iff]
 intro hc
 unfold covB at hc
 rw [List.any_eq_true] at hc
 obtain ⟨b,hb,hc⟩:=hc
 obtain ⟨m1,m2⟩:=mem_linX hb (cov_counts hc)
 have h1:=head_leL hxs hp (hm _ m1)
 have h2:=le_lastL hxs hq (hm _ m2)
 unfold Bx.cell at hc
 simp only [decide_eq_true_eq] at hc
 omega
end
theorem sumR_stepsL {f:Int→Int} {l:List Int} {lo hi:Int} (hl:l.Pairwise (·≤·)) (hin:∀v∈l,lo≤v∧v≤hi)
 (hf:∀(i:Nat) (x y z:Int),l[i]? = some x→l[i+1]? = some y→x≤z→z<y→f z=f x)
 (ho:∀p q z,l.head? = some p→l.getLast? = some q→z<p∨q≤z→f z=0) (hn:l = []→∀z,f z=0):sumR f lo hi=stepSum f l:=by
 cases hc:l with
 |nil=>rw [sumR_of_zero fun x _ _=>hn hc x];rfl
 |cons a r=>
  have hne:l≠[]:=by rw [hc];simp
  obtain ⟨p,hp⟩:∃p,l.head? = some p:=by rw [hc];exact ⟨a,rfl⟩
  obtain ⟨q,hq⟩:∃q,l.getLast? = some q:=by
   cases h:l.getLast? with
   |none=>rw [List.getLast?_eq_none_iff] at h;exact absurd h hne
   |some q=>exact ⟨q,rfl⟩
  obtain ⟨h1,h2⟩:=stepSum_eqL f l hl hf p q hp hq
  have hpm:p∈l:=List.mem_of_mem_head? hp
  have hqm:q∈l:=List.mem_of_getLast? hq
  rw [←hc,sumR_within (hin p hpm).1 h2 (hin q hqm).2 (fun x hx=>ho p q x hp hq hx),h1]
def Within (l:List Bx) (a b c d:Int):Prop:=∀s∈l,s.counts=true→a≤s.x1∧s.x2≤b∧c≤s.y1∧s.y2≤d
def tuB (b:Bx):Bx:=⟨b.y1,b.y2,b.x1,b.x2,0⟩
theorem tuB_cov (l:List Bx) (x y:Int):covB (l.map tuB) y x=covB l x y:=by
 unfold covB
 rw [List.any_map]
 refine any_congr fun b _=>?_
 simp only [Function.comp]
 unfold tuB Bx.cell
 rw [Bool.eq_iff_iff]
 simp only [decide_eq_true_eq]
 omega
def turnsR (c:Int→Bool) (a b:Int):Int:=sumR (fun y=>ind (c y != c (y - 1))) a b
def chg:Bool→List Bool→Int
 |p,[]=>ind p
 |p,g::G=>ind (p != g)+chg g G
theorem turnsR_ext {c:Int→Bool} {p q a b:Int} (h1:a≤p) (h2:p≤q) (h3:q<b) (hz:∀y,y<p∨q≤y→c y=false):turnsR c a b=turnsR c p (q+1):=by
 refine sumR_within h1 (by omega) (by omega) fun x hx=>?_
 rw [hz x (by omega),hz (x - 1) (by omega)];rfl
theorem turnsR_none {c:Int→Bool} {a b:Int} (h:∀y,c y=false):turnsR c a b=0:=sumR_of_zero fun x _ _=>by rw [h,h];rfl
theorem turnsR_congr {c d:Int→Bool} (a b:Int) (h:∀y,c y=d y):turnsR c a b=turnsR d a b:=sumR_congr fun x _ _=>by rw [h,h]
theorem turns_chg (c:Int→Bool):∀(Y:List Int),Y.Pairwise (· < ·)→(∀(i:Nat) (x y z:Int),Y[i]? = some x→Y[i+1]? = some y→x≤z→z<y→c z=c x)→
 (∀q,Y.getLast? = some q→c q=false)→∀a q,Y.head? = some a→Y.getLast? = some q→turnsR c a (q+1)=chg (c (a - 1)) ((List.range (Y.length - 1)).map fun i=>c (mf Y i))∧a≤q:=by
 intro Y
 induction Y with
 |nil=>intro _ _ _ a q h;simp at h
 |cons x r ih=>
  intro hY hc hq a q ha hl
  simp at ha;subst ha
  rcases r with _ | ⟨y,r⟩
  ·simp at hl;subst hl
   refine ⟨?_,Int.le_refl _⟩
   unfold turnsR
   rw [sumR_const' (ind (c x != c (x - 1))) (by omega) fun z h1 h2=>by rw [show z=x by omega],hq x rfl]
   simp [chg]
   rw [show x+1 - x=1 by omega,Int.mul_one]
  ·have hxy:x<y:=List.rel_of_pairwise_cons hY (a':=y) (by simp)
   rw [List.getLast?_cons_cons] at hl hq
   obtain ⟨h1,h2⟩:=ih (List.Pairwise.of_cons hY) (fun i u v z hu hv h1 h2=>hc (i+1) u v z (by simpa using hu) (by simpa using hv) h1 h2) hq y q rfl hl
   refine ⟨?_,by omega⟩
   have hk:∀z,x≤z→z<y→c z=c x:=fun z h3 h4=>hc 0 x y z rfl rfl h3 h4
   have e1:turnsR c x (q+1)=turnsR c x (x+1)+(turnsR c (x+1) y+turnsR c y (q+1)):=by
    unfold turnsR
    rw [sumR_split (show x≤x+1 by omega) (show x+1≤q+1 by omega),sumR_split (show x+1≤y by omega) (show y≤q+1 by omega)]
   have e2:turnsR c x (x+1)=ind (c x != c (x - 1)):=by
    unfold turnsR
    rw [sumR_const' (ind (c x != c (x - 1))) (by omega) fun z h1 h2=>by rw [show z=x by omega],show x+1 - x=1 by omega,Int.mul_one]
   have e3:turnsR c (x+1) y=0:=sumR_of_zero fun z h3 h4=>by rw [hk z (by omega) h4,hk (z - 1) (by omega) (by omega)];simp [ind]
   have e4:c (y - 1)=c x:=hk _ (by omega) (by omega)
   have e5:(x::y::r).length - 1=((y::r).length - 1)+1:=by simp
   rw [e1,e2,e3,h1,e4,e5,List.range_succ_eq_map,List.map_cons,List.map_map,chg]
   have e6:mf (x::y::r) 0=x:=rfl
   have e7:((fun i=>c (mf (x::y::r) i)) ∘ Nat.succ)=fun i=>c (mf (y::r) i):=by
    funext i
    simp only [Function.comp]
    rw [show Nat.succ i=i+1 from rfl,mf_cons]
   rw [e6,e7,Int.zero_add]
   congr 1
   cases c x<;>cases c (x - 1)<;>rfl
def horG (l:List Bx) (a b c d:Int):Int:=sumR (fun x=>turnsR (covB l x) c d) a b
def horR (l:List Bx):Int:=horG l (-9223372036854775808) 9223372036854775808 (-9223372036854775808) 9223372036854775808
theorem cov_within {l:List Bx} {p q r s:Int} (h:Within l p q r s) {x y:Int} (hc:covB l x y=true):p≤x∧x<q∧r≤y∧y<s:=by
 unfold covB at hc
 rw [List.any_eq_true] at hc
 obtain ⟨b,h1,h2⟩:=hc
 have h3:=h b h1 (cov_counts h2)
 unfold Bx.cell at h2
 rw [decide_eq_true_eq] at h2
 omega
theorem horG_ext {l:List Bx} {p q r s a b c d:Int} (h:Within l p q r s) (h1:a≤p) (h2:p≤q) (h3:q≤b) (h4:c≤r) (h5:r≤s) (h6:s<d):horG l a b c d=horG l p q r (s+1):=by
 have hn:∀x y,¬(p≤x∧x<q∧r≤y∧y<s)→covB l x y=false:=fun x y hh=>by
  cases e:covB l x y
  ·rfl
  ·exact absurd (cov_within h e) hh
 unfold horG
 rw [sumR_congr fun x _ _=>turnsR_ext h4 h5 h6 fun y hy=>hn x y (by omega)]
 exact sumR_within h1 h2 h3 fun x hx=>turnsR_none fun y=>hn x y (by omega)
theorem horG_any {l:List Bx} (hb:∀b∈l,b.in64) {a b c d:Int} (h1:a≤-9223372036854775808) (h3:9223372036854775807≤b) (h4:c≤-9223372036854775808) (h6:9223372036854775807<d):horG l a b c d=horR l:=by
 have hw:Within l (-9223372036854775808) 9223372036854775807 (-9223372036854775808) 9223372036854775807:=fun s hs _=>by have:=hb s hs;unfold Bx.in64 at this;omega
 unfold horR
 rw [horG_ext hw h1 (by omega) h3 h4 (by omega) h6,horG_ext (b:=9223372036854775808) (d:=9223372036854775808) hw (Int.le_refl _) (by omega) (by omega) (Int.le_refl _) (by omega) (by omega)]
theorem tuB_in {l:List Bx} (hb:∀b∈l,b.in64):∀b∈l.map tuB,b.in64:=by
 intro b h
 obtain ⟨a,h1,rfl⟩:=List.mem_map.1 h
 have:=hb a h1
 unfold Bx.in64 at *
 unfold tuB
 dsimp only
 omega
theorem col_turns {l:List Bx} (hb:∀b∈l,b.in64) (x:Int):turnsR (covB l x) (-9223372036854775808) 9223372036854775808=chg false ((List.range ((sqz (linY l)).length - 1)).map fun i=>covB l x (mf (sqz (linY l)) i)):=by
 obtain ⟨Y,hYe⟩:∃Y,sqz (linY l)=Y:=⟨_,rfl⟩
 have hY:Y.Pairwise (· < ·):=by rw [←hYe];exact sqz_rise _
 have hm:∀v∈linY l,v∈Y:=fun v hv=>by rw [←hYe];exact mem_sqz hv
 have hin:∀v∈Y,-9223372036854775808≤v∧v≤9223372036854775807:=by
  intro v hv
  rw [←hYe] at hv
  have hx:=sqz_mem hv
  unfold linY at hx
  obtain ⟨b,h1,h2⟩:=List.mem_flatMap.1 hx
  have h3:=hb b (List.mem_filter.1 h1).1
  unfold Bx.in64 at h3
  simp at h2
  rcases h2 with rfl | rfl
  ·exact h3.2.2.1
  ·exact h3.2.2.2
 rw [hYe]
 by_cases h0:Y = []
 ·have hX:linX l = []:=by
   unfold linX
   rw [List.flatMap_eq_nil_iff]
   intro b hb
   have hb':=List.mem_filter.1 hb
   have:=hm b.y1 (mem_linY hb'.1 hb'.2).1
   rw [h0] at this
   simp at this
  rw [turnsR_none fun y=>cov_none hX x y,h0]
  rfl
 obtain ⟨p,hp⟩:∃p,Y.head? = some p:=by
  cases Y with
  |nil=>exact absurd rfl h0
  |cons a r=>exact ⟨a,rfl⟩
 obtain ⟨q,hq⟩:∃q,Y.getLast? = some q:=by
  cases h:Y.getLast? with
  |none=>rw [List.getLast?_eq_none_iff] at h;exact absurd h h0
  |some q=>exact ⟨q,rfl⟩
 have hout:∀z,z<p∨q≤z→covB l x z=false:=fun z hz=>cov_outY hY hm hp hq hz
 obtain ⟨h1,h2⟩:=turns_chg (covB l x) Y hY (fun i u v z hu hv h3 h4=>cov_y hY hm hu hv h3 h4) (fun r hr=>by rw [hq] at hr;cases hr;exact hout q (.inr (Int.le_refl _))) p q hp hq
 have b1:=hin p (List.mem_of_mem_head? hp)
 have b2:=hin q (List.mem_of_getLast? hq)
 rw [turnsR_ext b1.1 h2 (by omega) hout,h1,hout (p - 1) (.inl (by omega))]
theorem sumK_zero (m:Nat):sumK (fun _=>0) m=0:=by
 induction m with
 |zero=>rfl
 |succ m ih=>rw [sumK,ih]
theorem sumK_add (f g:Nat→Nat):∀n,sumK (fun i=>f i+g i) n=sumK f n+sumK g n
 |0=>rfl
 |n+1=>by rw [sumK,sumK,sumK,sumK_add f g n];omega
theorem sumK_swap (f:Nat→Nat→Nat) (m:Nat):∀n,sumK (fun i=>sumK (fun k=>f i k) m) n=sumK (fun k=>sumK (fun i=>f i k) n) m
 |0=>(sumK_zero m).symm
 |n+1=>by
  rw [sumK,sumK_swap f m n,←sumK_add]
  exact sumK_congr m fun i _=>rfl
theorem sumK_mulL (c:Nat) (f:Nat→Nat):∀n,sumK (fun i=>c*f i) n=c*sumK f n
 |0=>rfl
 |n+1=>by rw [sumK,sumK,sumK_mulL c f n,Nat.mul_add]
def nxG (G:List Bool) (k:Nat):Bool:=(G[k]?).getD false
def prG (p:Bool) (G:List Bool):Nat→Bool
 |0=>p
 |k+1=>nxG G k
theorem chg_sumK:∀(G:List Bool) (p:Bool),(sumK (fun k=>if (prG p G k != nxG G k)=true then 1 else 0) (G.length+1):Int)=chg p G
 | [],p=>by
  cases p<;>simp [sumK,prG,nxG,chg,ind]
 |g::G,p=>by
  rw [List.length_cons,sumK_cons,Int.natCast_add,chg,←chg_sumK G g]
  have e1:nxG (g::G) 0=g:=rfl
  have e2:sumK (fun i=>if (prG p (g::G) (i+1) != nxG (g::G) (i+1))=true then 1 else 0) (G.length+1)=sumK (fun k=>if (prG g G k != nxG G k)=true then 1 else 0) (G.length+1):=by
   refine sumK_congr _ fun i _=>?_
   have h1:prG p (g::G) (i+1)=prG g G i:=by
    cases i with
    |zero=>rfl
    |succ i=>rfl
   have h2:nxG (g::G) (i+1)=nxG G i:=rfl
   rw [h1,h2]
  rw [e2,e1]
  congr 1
  unfold prG
  cases p<;>cases g<;>simp [ind]
def colG (l:List Bx) (Y:List Int) (x:Int):List Bool:=(List.range (Y.length - 1)).map fun j=>covB l x (mf Y j)
theorem sideH_eq {l:List Bx} {X Y:List Int} {i k:Nat} (hi:i+1<X.length):sideH l X Y i k=(mf X (i+1) - mf X i).toNat*(if (prG false (colG l Y (mf X i)) k != nxG (colG l Y (mf X i)) k)=true then 1 else 0):=by
 have hn:∀k:Nat,isR (colsB l X Y) i k=nxG (colG l Y (mf X i)) k:=fun k=>by
  rw [isR_cols]
  unfold nxG colG
  by_cases hk:k<Y.length - 1
  ·rw [if_pos ⟨by omega,by omega,by omega,by omega⟩,List.getElem?_map,List.getElem?_range hk]
   rfl
  ·rw [if_neg (by omega),List.getElem?_eq_none (by rw [List.length_map,List.length_range];omega)]
   rfl
 have hp:isR (colsB l X Y) i ((k:Int) - 1)=prG false (colG l Y (mf X i)) k:=by
  cases k with
  |zero=>rw [isR_cols,if_neg (by omega)];rfl
  |succ k=>rw [show ((k+1:Nat):Int) - 1=(k:Int) by omega,hn];rfl
 unfold sideH
 rw [hn,hp]
 split
 ·rename_i h
  rw [if_pos h.2,Nat.mul_one];rfl
 ·rename_i h
  rw [if_neg fun h'=>h ⟨hi,h'⟩,Nat.mul_zero]
theorem sideH_last {l:List Bx} {X Y:List Int} {i k:Nat} (hi:¬i+1<X.length):sideH l X Y i k=0:=by
 unfold sideH
 rw [if_neg fun h=>hi h.1]
theorem rowH {l:List Bx} (hb:∀b∈l,b.in64) {i:Nat} (hi:i+1<(sqz (linX l)).length) :
 (sumK (fun k=>sideH l (sqz (linX l)) (sqz (linY l)) i k) (sqz (linY l)).length:Int)=turnsR (covB l (mf (sqz (linX l)) i)) (-9223372036854775808) 9223372036854775808*(mf (sqz (linX l)) (i+1) - mf (sqz (linX l)) i):=by
 have hX:=sqz_rise (linX l)
 have hd:mf (sqz (linX l)) i<mf (sqz (linX l)) (i+1):=by
  have h1:=mf_get (M:=sqz (linX l)) (i:=i) (by omega)
  have h2:=mf_get (M:=sqz (linX l)) (i:=i+1) hi
  exact rise_stepC hX h1 h2
 rw [sumK_congr _ fun k _=>sideH_eq (l:=l) (Y:=sqz (linY l)) (k:=k) hi,sumK_mulL,Int.natCast_mul,col_turns hb]
 have e:(sumK (fun k=>if (prG false (colG l (sqz (linY l)) (mf (sqz (linX l)) i)) k != nxG (colG l (sqz (linY l)) (mf (sqz (linX l)) i)) k)=true then 1 else 0) (sqz (linY l)).length:Int)=chg false (colG l (sqz (linY l)) (mf (sqz (linX l)) i)):=by
  rcases Nat.eq_zero_or_pos (sqz (linY l)).length with h | h
  ·have hG:colG l (sqz (linY l)) (mf (sqz (linX l)) i) = []:=by unfold colG;rw [h];rfl
   rw [h,hG];rfl
  ·rw [←chg_sumK]
   have:(sqz (linY l)).length=(colG l (sqz (linY l)) (mf (sqz (linX l)) i)).length+1:=by unfold colG;rw [List.length_map,List.length_range];omega
   rw [this]
 rw [e]
 unfold colG
 rw [Int.toNat_of_nonneg (by omega),Int.mul_comm]
theorem sumH {l:List Bx} (hb:∀b∈l,b.in64):(sumK (fun i=>sumK (fun k=>sideH l (sqz (linX l)) (sqz (linY l)) i k) (sqz (linY l)).length) (sqz (linX l)).length:Int)=horR l:=by
 obtain ⟨X,hXe⟩:∃X,sqz (linX l)=X:=⟨_,rfl⟩
 have hX:X.Pairwise (· < ·):=by rw [←hXe];exact sqz_rise _
 have hX':X.Pairwise (·≤·):=hX.imp fun h=>Int.le_of_lt h
 have hm:∀v∈linX l,v∈X:=fun v hv=>by rw [←hXe];exact mem_sqz hv
 have hin:∀v∈X,(-9223372036854775808:Int)≤v∧v≤9223372036854775808:=by
  intro v hv
  rw [←hXe] at hv
  have hx:=sqz_mem hv
  unfold linX at hx
  obtain ⟨b,h1,h2⟩:=List.mem_flatMap.1 hx
  have h3:=hb b (List.mem_filter.1 h1).1
  unfold Bx.in64 at h3
  simp at h2
  rcases h2 with rfl | rfl
  ·have:=h3.1;omega
  ·have:=h3.2.1;omega
 unfold horR horG
 rw [sumR_stepsL (f:=fun x=>turnsR (covB l x) (-9223372036854775808) 9223372036854775808) hX' hin (fun i p q z h1 h2 h3 h4=>turnsR_congr _ _ fun y=>cov_xL hX' hm h1 h2 h3 h4)
  (fun p q z h1 h2 h3=>turnsR_none fun y=>cov_outL hX' hm h1 h2 h3) (fun h z=>turnsR_none fun y=>cov_none (by
   rw [List.eq_nil_iff_forall_not_mem]
   intro v hv
   have:=hm v hv
   rw [h] at this
   simp at this) z y)]
 rw [hXe]
 rcases Nat.eq_zero_or_pos X.length with h0 | h0
 ·rw [List.eq_nil_of_length_eq_zero h0];rfl
 ·have e:sumK (fun i=>sumK (fun k=>sideH l X (sqz (linY l)) i k) (sqz (linY l)).length) X.length=sumK (fun i=>sumK (fun k=>sideH l X (sqz (linY l)) i k) (sqz (linY l)).length) (X.length - 1):=by
   obtain ⟨n,hn⟩:∃n,X.length=n+1:=⟨X.length - 1,by omega⟩
   rw [hn,sumK]
   have:sumK (fun k=>sideH l X (sqz (linY l)) n k) (sqz (linY l)).length=0:=by
    rw [sumK_congr _ fun k _=>sideH_last (l:=l) (Y:=sqz (linY l)) (k:=k) (by omega)]
    exact sumK_zero _
   rw [this];rfl
  rw [e]
  refine steps_sumK _ _ _ fun i hi=>?_
  have:=rowH hb (i:=i) (by rw [hXe];omega)
  rw [hXe] at this
  exact this
theorem tuB_counts (b:Bx):(tuB b).counts=b.counts:=by
 unfold tuB Bx.counts
 rw [Bool.eq_iff_iff]
 simp only [decide_eq_true_eq]
 omega
theorem tu_filter (l:List Bx):(l.map tuB).filter Bx.counts=(l.filter Bx.counts).map tuB:=by
 rw [List.filter_map]
 congr 1
 exact List.filter_congr fun b _=>tuB_counts b
theorem lin_tu (l:List Bx):linX (l.map tuB)=linY l∧linY (l.map tuB)=linX l:=by
 unfold linX linY
 rw [tu_filter,List.flatMap_map,List.flatMap_map]
 exact ⟨rfl,rfl⟩
theorem sideV_tu (l:List Bx) (X Y:List Int) (i k:Nat):sideV l X Y i k=sideH (l.map tuB) Y X k i:=by
 have h:∀i k:Int,isR (colsB l X Y) i k=isR (colsB (l.map tuB) Y X) k i:=fun i k=>by
  rw [isR_cols,isR_cols]
  by_cases hh:0≤i∧0≤k∧i.toNat<X.length - 1∧k.toNat<Y.length - 1
  ·rw [if_pos hh,if_pos ⟨hh.2.1,hh.1,hh.2.2.2,hh.2.2.1⟩,tuB_cov]
  ·rw [if_neg hh,if_neg fun h'=>hh ⟨h'.2.1,h'.1,h'.2.2.2,h'.2.2.1⟩]
 unfold sideV sideH
 rw [h,h]
theorem shift_same {c:Int→Bool} {a b:Int} (hab:a≤b) (h1:c (a - 1)=false) (h2:c (b - 1)=false):sumR (fun y=>ind (c (y - 1))) a b=sumR (fun y=>ind (c y)) a b:=by
 rcases Int.lt_or_le a b with h | h
 ·have e:=sumR_shift (f:=fun y=>ind (c y)) (a:=a) (b:=b) (-1)
  have e':sumR (fun y=>ind (c (y - 1))) a b=sumR (fun y=>ind (c y)) (a - 1) (b - 1):=e
  rw [e',sumR_split (show a - 1≤a by omega) (show a≤b - 1 by omega),sumR_split (f:=fun y=>ind (c y)) (show a≤b - 1 by omega) (show b - 1≤b by omega)]
  rw [sumR_of_zero (a:=a - 1) fun y g1 g2=>by rw [show y=a - 1 by omega,h1];rfl,sumR_of_zero (a:=b - 1) fun y g1 g2=>by rw [show y=b - 1 by omega,h2];rfl]
  omega
 ·have:a=b:=by omega
  subst this
  rw [sumR_none (Int.le_refl _),sumR_none (Int.le_refl _)]
theorem ends_turns {c:Int→Bool} {a b:Int} (hab:a≤b) (h1:c (a - 1)=false) (h2:c (b - 1)=false) :
 2*(sumR (fun y=>ind (c y||c (y - 1))) a b - sumR (fun y=>ind (c y)) a b)=turnsR c a b:=by
 have e:sumR (fun y=>2*(ind (c y||c (y - 1)) - ind (c y))) a b=sumR (fun y=>ind (c y != c (y - 1))+(ind (c (y - 1)) - ind (c y))) a b:=
  sumR_congr fun y _ _=>by cases c y<;>cases c (y - 1)<;>rfl
 rw [sumR_mul,sumR_sub,sumR_add,sumR_sub,shift_same hab h1 h2] at e
 unfold turnsR
 omega
theorem cov_far {l:List Bx} (hb:∀b∈l,b.in64) {x y:Int} (h:x < -9223372036854775808∨9223372036854775807≤x∨y < -9223372036854775808∨9223372036854775807≤y):covB l x y=false:=by
 cases e:covB l x y with
 |false=>rfl
 |true=>
  exfalso
  have:=cov_within (l:=l) (p:=-9223372036854775808) (q:=9223372036854775807) (r:=-9223372036854775808) (s:=9223372036854775807) (fun s hs _=>by have:=hb s hs;unfold Bx.in64 at this;omega) e
  omega
theorem cells_hor {l:List Bx} (hb:∀b∈l,b.in64):2*(cellsI 0 1 l allB - cellsI 0 0 l allB)=horR l:=by
 rw [cellsI_eq ⟨by decide,by decide⟩ ⟨by decide,by decide⟩ l allB (by decide) (by decide),cells_area]
 rw [←horG_any hb (a:=-9223372036854775808) (b:=9223372036854775807) (c:=-9223372036854775808) (d:=9223372036854775808) (by decide) (by decide) (by decide) (by decide)]
 unfold overI areaR horG allB
 dsimp only
 rw [show (9223372036854775807:Int)+0=9223372036854775807 by omega,show (9223372036854775807:Int)+1=9223372036854775808 by omega]
 rw [←sumR_sub,←sumR_mul]
 refine sumR_congr fun x _ _=>?_
 rw [←ends_turns (c:=covB l x) (by decide) (cov_far hb (by omega)) (cov_far hb (by omega))]
 have hh:∀a b c d:Int,a=c→b=d→2*(a - b)=2*(c - d):=fun a b c d h1 h2=>by rw [h1,h2]
 refine hh _ _ _ _ ?_ ?_
 ·exact sumR_congr fun y _ _=>by rw [covM_01]
 ·rw [sumR_split (show (-9223372036854775808:Int)≤9223372036854775807 by decide) (show (9223372036854775807:Int)≤9223372036854775808 by decide),sumR_of_zero (a:=9223372036854775807) fun y h1 h2=>by rw [cov_far hb (by omega)];rfl]
  omega
theorem covM_tu (l:List Bx) (x y:Int):covM' 1 0 l x y=covM' 0 1 (l.map tuB) y x:=by
 unfold covM'
 rw [List.any_map]
 refine any_congr fun b _=>?_
 unfold cellM Bx.counts tuB
 simp only [Function.comp]
 rw [Bool.eq_iff_iff]
 simp only [Bool.and_eq_true,decide_eq_true_eq]
 omega
theorem cells_tu (l:List Bx):cellsI 1 0 l allB=cellsI 0 1 (l.map tuB) allB:=by
 rw [cellsI_eq ⟨by decide,by decide⟩ ⟨by decide,by decide⟩ l allB (by decide) (by decide),cellsI_eq ⟨by decide,by decide⟩ ⟨by decide,by decide⟩ (l.map tuB) allB (by decide) (by decide)]
 unfold overI allB
 dsimp only
 rw [sumR_swap]
 exact sumR_congr fun y _ _=>sumR_congr fun x _ _=>by rw [covM_tu]
theorem rimN_D {l:List Bx} (hb:∀b∈l,b.in64):(rimN l:Int)=2*((cellsI 1 0 l allB - cellsI 0 0 l allB)+(cellsI 0 1 l allB - cellsI 0 0 l allB)):=by
 have h1:=sumH hb
 have h2:=sumH (tuB_in hb)
 rw [(lin_tu l).1,(lin_tu l).2,sumK_swap] at h2
 have h3:rimN l=sumK (fun i=>sumK (fun k=>sideH (l.map tuB) (sqz (linY l)) (sqz (linX l)) k i) (sqz (linY l)).length) (sqz (linX l)).length+sumK (fun i=>sumK (fun k=>sideH l (sqz (linX l)) (sqz (linY l)) i k) (sqz (linY l)).length) (sqz (linX l)).length:=by
  unfold rimN rimK rimC
  rw [←sumK_add]
  refine sumK_congr _ fun i _=>?_
  rw [←sumK_add]
  exact sumK_congr _ fun k _=>by rw [sideV_tu]
 have g1:=cells_hor hb
 have g2:=cells_hor (tuB_in hb)
 have g3:cellsI 0 0 (l.map tuB) allB=cellsI 0 0 l allB:=by
  rw [cells_area,cells_area]
  unfold areaR
  rw [sumR_swap]
  exact sumR_congr fun x _ _=>sumR_congr fun y _ _=>by rw [tuB_cov]
 rw [g3,←cells_tu] at g2
 omega
end Go.Proofs.YtkmnbodlciepaaaGreat
