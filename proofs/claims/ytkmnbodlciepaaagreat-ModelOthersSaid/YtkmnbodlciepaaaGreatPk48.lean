/- Areas of boxes that are moved, turned about, seen in a mirror. No program. How many nodes are entered for boxes that are moved. No program. The rim of boxes, plainly: how often rows and columns of cells change. No program. What the two sweeps of the rim add up to. No program. What a sweep of the rim tells, step by step. No program. -/
import Derived.Test.YtkmnbodlciepaaaGreatPk47
import Derived.Test.YtkmnbodlciepaaaGreatPk30
namespace Go.Proofs.YtkmnbodlciepaaaGreat
end Go.Proofs.YtkmnbodlciepaaaGreat
namespace Go.Proofs.YtkmnbodlciepaaaGreat
theorem areaE_sum (l:List Bx):sweepE (sqz (linY l)) (turnsL l)=((l.filter Bx.counts).map fun b=>2*entN (spanP (sqz (linY l)) b.y1 b.y2) ((sqz (linY l)).length - 1)).sum:=by
 obtain ⟨Y,hY⟩:∃Y,sqz (linY l)=Y:=⟨_,rfl⟩
 rw [hY]
 unfold sweepE turnsL
 obtain ⟨L,hL⟩:∃L,l.filter Bx.counts=L:=⟨_,rfl⟩
 rw [hL]
 clear hL hY
 induction L with
 |nil=>rfl
 |cons b L ih=>
  rw [List.flatMap_cons,List.map_append,List.sum_append_nat,ih]
  simp only [List.map_cons,List.map_nil,List.sum_cons,List.sum_nil]
  unfold spT
  dsimp only
  omega
def tuB (b:Bx):Bx:=⟨b.y1,b.y2,b.x1,b.x2,0⟩
theorem tuB_cov (l:List Bx) (x y:Int):covB (l.map tuB) y x=covB l x y:=by
 unfold covB
 rw [List.any_map]
 refine any_congr fun b _=>?_
 simp only [Function.comp]
 unfold tuB Bx.cell
 rw [Bool.eq_iff_iff]
 simp only [decide_eq_true_eq]
 omega
end Go.Proofs.YtkmnbodlciepaaaGreat
namespace Go.Proofs.YtkmnbodlciepaaaGreat
def turnsR (c:Int→Bool) (a b:Int):Int:=sumR (fun y=>ind (c y != c (y - 1))) a b
def chg:Bool→List Bool→Int
 |p,[]=>ind p
 |p,g::G=>ind (p != g)+chg g G
theorem chg_runs:∀(G:List Bool) (p:Bool),chg p G=2*(runsG p G:Int)+ind p
 | [],p=>by simp [chg,runsG]
 |g::G,p=>by
  rw [chg,runsG,chg_runs G g,Int.natCast_add]
  cases p<;>cases g<;>simp [ind]<;>omega
theorem turnsR_ext {c:Int→Bool} {p q a b:Int} (h1:a≤p) (h2:p≤q) (h3:q<b) (hz:∀y,y<p∨q≤y→c y=false):turnsR c a b=turnsR c p (q+1):=by
 refine sumR_within h1 (by omega) (by omega) fun x hx=>?_
 rw [hz x (by omega),hz (x - 1) (by omega)];rfl
theorem turnsR_none {c:Int→Bool} {a b:Int} (h:∀y,c y=false):turnsR c a b=0:=sumR_of_zero fun x _ _=>by rw [h,h];rfl
theorem turnsR_congr {c d:Int→Bool} (a b:Int) (h:∀y,c y=d y):turnsR c a b=turnsR d a b:=sumR_congr fun x _ _=>by rw [h,h]
theorem turnsR_nonneg (c:Int→Bool) (a b:Int):0≤turnsR c a b:=sumR_nonneg fun _ _ _=>(ind_bd _).1
theorem turns_chg (c:Int→Bool):∀(Y:List Int),Y.Pairwise (· < ·)→(∀(i:Nat) (x y z:Int),Y[i]? = some x→Y[i+1]? = some y→x≤z→z<y→c z=c x)→
 (∀q,Y.getLast? = some q→c q=false)→∀a q,Y.head? = some a→Y.getLast? = some q→turnsR c a (q+1)=chg (c (a - 1)) ((List.range (Y.length - 1)).map fun i=>c (mf Y i))∧a≤q:=by
 intro Y
 induction Y with
 |nil=>intro _ _ _ a q h;simp at h
 |cons x r ih=>
  intro hY hc hq a q ha hl
  simp at ha;subst ha
  rcases r with _ | ⟨y,r⟩
  ·simp at hl;subst hl
   refine ⟨?_,Int.le_refl _⟩
   unfold turnsR
   rw [sumR_const' (ind (c x != c (x - 1))) (by omega) fun z h1 h2=>by rw [show z=x by omega],hq x rfl]
   simp [chg]
   rw [show x+1 - x=1 by omega,Int.mul_one]
  ·have hxy:x<y:=List.rel_of_pairwise_cons hY (a':=y) (by simp)
   rw [List.getLast?_cons_cons] at hl hq
   obtain ⟨h1,h2⟩:=ih (List.Pairwise.of_cons hY) (fun i u v z hu hv h1 h2=>hc (i+1) u v z (by simpa using hu) (by simpa using hv) h1 h2) hq y q rfl hl
   refine ⟨?_,by omega⟩
   have hk:∀z,x≤z→z<y→c z=c x:=fun z h3 h4=>hc 0 x y z rfl rfl h3 h4
   have e1:turnsR c x (q+1)=turnsR c x (x+1)+(turnsR c (x+1) y+turnsR c y (q+1)):=by
    unfold turnsR
    rw [sumR_split (show x≤x+1 by omega) (show x+1≤q+1 by omega),sumR_split (show x+1≤y by omega) (show y≤q+1 by omega)]
   have e2:turnsR c x (x+1)=ind (c x != c (x - 1)):=by
    unfold turnsR
    rw [sumR_const' (ind (c x != c (x - 1))) (by omega) fun z h1 h2=>by rw [show z=x by omega],show x+1 - x=1 by omega,Int.mul_one]
   have e3:turnsR c (x+1) y=0:=sumR_of_zero fun z h3 h4=>by rw [hk z (by omega) h4,hk (z - 1) (by omega) (by omega)];simp [ind]
   have e4:c (y - 1)=c x:=hk _ (by omega) (by omega)
   have e5:(x::y::r).length - 1=((y::r).length - 1)+1:=by simp
   rw [e1,e2,e3,h1,e4,e5,List.range_succ_eq_map,List.map_cons,List.map_map,chg]
   have e6:mf (x::y::r) 0=x:=rfl
   have e7:((fun i=>c (mf (x::y::r) i)) ∘ Nat.succ)=fun i=>c (mf (y::r) i):=by
    funext i
    simp only [Function.comp]
    rw [show Nat.succ i=i+1 from rfl,mf_cons]
   rw [e6,e7,Int.zero_add]
   congr 1
   cases c x<;>cases c (x - 1)<;>rfl
def horG (l:List Bx) (a b c d:Int):Int:=sumR (fun x=>turnsR (covB l x) c d) a b
def horR (l:List Bx):Int:=horG l (-9223372036854775808) 9223372036854775808 (-9223372036854775808) 9223372036854775808
def rimA (l:List Bx):Int:=horR l+horR (l.map tuB)
theorem horG_congr {l m:List Bx} (a b c d:Int) (h:∀x y,covB l x y=covB m x y):horG l a b c d=horG m a b c d:=sumR_congr fun x _ _=>turnsR_congr _ _ (h x)
theorem horG_nonneg (l:List Bx) (a b c d:Int):0≤horG l a b c d:=sumR_nonneg fun _ _ _=>turnsR_nonneg _ _ _
theorem tuB_in {l:List Bx} (hb:∀b∈l,b.in64):∀b∈l.map tuB,b.in64:=by
 intro b h
 obtain ⟨a,h1,rfl⟩:=List.mem_map.1 h
 have:=hb a h1
 unfold Bx.in64 at *
 unfold tuB
 dsimp only
 omega
theorem horR_congr {l m:List Bx} (h:∀x y,covB l x y=covB m x y):horR l=horR m:=horG_congr _ _ _ _ h
theorem tuB_counts (b:Bx):(tuB b).counts=b.counts:=by
 unfold tuB Bx.counts
 rw [Bool.eq_iff_iff]
 simp only [decide_eq_true_eq]
 omega
end Go.Proofs.YtkmnbodlciepaaaGreat
namespace Go.Proofs.YtkmnbodlciepaaaGreat
theorem runsG_lenL:∀(G:List Bool) (p:Bool),runsG p G≤G.length
 | [],_=>Nat.le_refl _
 |g::G,p=>by
  have:=runsG_lenL G g
  rw [runsG,List.length_cons]
  split<;>omega
theorem col_turns {l:List Bx} (hb:∀b∈l,b.in64) (x:Int):turnsR (covB l x) (-9223372036854775808) 9223372036854775808=2*(runsG false ((List.range ((sqz (linY l)).length - 1)).map fun i=>covB l x (mf (sqz (linY l)) i)):Int):=by
 obtain ⟨Y,hYe⟩:∃Y,sqz (linY l)=Y:=⟨_,rfl⟩
 have hY:Y.Pairwise (· < ·):=by rw [←hYe];exact sqz_rise _
 have hm:∀v∈linY l,v∈Y:=fun v hv=>by rw [←hYe];exact mem_sqz hv
 have hin:∀v∈Y,-9223372036854775808≤v∧v≤9223372036854775807:=by
  intro v hv
  rw [←hYe] at hv
  have hx:=sqz_mem hv
  unfold linY at hx
  obtain ⟨b,h1,h2⟩:=List.mem_flatMap.1 hx
  have h3:=hb b (List.mem_filter.1 h1).1
  unfold Bx.in64 at h3
  simp at h2
  rcases h2 with rfl | rfl
  ·exact h3.2.2.1
  ·exact h3.2.2.2
 rw [hYe]
 by_cases h0:Y = []
 ·have hX:linX l = []:=by
   unfold linX
   rw [List.flatMap_eq_nil_iff]
   intro b hb
   have hb':=List.mem_filter.1 hb
   have:=hm b.y1 (mem_linY hb'.1 hb'.2).1
   rw [h0] at this
   simp at this
  rw [turnsR_none fun y=>cov_none hX x y,h0]
  rfl
 obtain ⟨p,hp⟩:∃p,Y.head? = some p:=by
  cases Y with
  |nil=>exact absurd rfl h0
  |cons a r=>exact ⟨a,rfl⟩
 obtain ⟨q,hq⟩:∃q,Y.getLast? = some q:=by
  cases h:Y.getLast? with
  |none=>rw [List.getLast?_eq_none_iff] at h;exact absurd h h0
  |some q=>exact ⟨q,rfl⟩
 have hout:∀z,z<p∨q≤z→covB l x z=false:=fun z hz=>cov_outY hY hm hp hq hz
 obtain ⟨h1,h2⟩:=turns_chg (covB l x) Y hY (fun i u v z hu hv h3 h4=>cov_y hY hm hu hv h3 h4) (fun r hr=>by rw [hq] at hr;cases hr;exact hout q (.inr (Int.le_refl _))) p q hp hq
 have b1:=hin p (List.mem_of_mem_head? hp)
 have b2:=hin q (List.mem_of_getLast? hq)
 rw [turnsR_ext b1.1 h2 (by omega) hout,h1,hout (p - 1) (.inl (by omega)),chg_runs]
 simp [ind]
def runsT (Y:List Int) (T:List Tn) (k:Nat):Nat:=(wholeP Y (sw Y (T.take (k+1)))).runs.toNat
def longX (T:List Tn) (k:Nat):Nat:=if k+1<T.length then (mf (T.map Tn.x) (k+1) - mf (T.map Tn.x) k).toNat else 0
def addRm (Y:List Int) (T:List Tn) (k:Nat):Nat:=longX T k*(2*runsT Y T k)
theorem runsT_le {Y:List Int} (hM:MarksOk Y) (T:List Tn) (k:Nat):runsT Y T k≤Y.length:=by
 unfold runsT
 rw [wholeP_eq (sw_hok hM _)]
 unfold wholeG gapsH partG
 dsimp only
 refine Nat.le_trans (runsG_lenL _ _) ?_
 rw [List.length_map,List.length_range]
 omega
theorem runsT_eq {Y:List Int} (hM:MarksOk Y) (T:List Tn) (k:Nat):(wholeP Y (sw Y (T.take (k+1)))).runs=(runsT Y T k:Int):=by
 unfold runsT
 rw [wholeP_eq (sw_hok hM _)]
 unfold wholeG gapsH partG
 dsimp only
 rw [Int.toNat_natCast]
theorem horR_le {l:List Bx} (hb:∀b∈l,b.in64) (hl:l.length<100000):horR l≤400000*18446744073709551616:=by
 have h1:horR l≤400000*(9223372036854775808 - -9223372036854775808):=by
  refine sumR_le 400000 (by omega) fun x _ _=>?_
  rw [col_turns hb]
  have h2:=runsG_lenL ((List.range ((sqz (linY l)).length - 1)).map fun i=>covB l x (mf (sqz (linY l)) i)) false
  rw [List.length_map,List.length_range] at h2
  have h3:=sqz_len (linY l)
  have h4:=turns_len l
  omega
 omega
theorem rimA_nonneg (l:List Bx):0≤rimA l:=by
 have h1:=horG_nonneg l (-9223372036854775808) 9223372036854775808 (-9223372036854775808) 9223372036854775808
 have h2:=horG_nonneg (l.map tuB) (-9223372036854775808) 9223372036854775808 (-9223372036854775808) 9223372036854775808
 unfold rimA horR
 omega
theorem rimA_W {l:List Bx} (hb:∀b∈l,b.in64) (hl:l.length<100000):W128 (rimA l).toNat:=by
 have h1:=horR_le hb hl
 have h2:=horR_le (tuB_in hb) (by rw [List.length_map];exact hl)
 have h3:=rimA_nonneg l
 have h4:rimA l≤800000*18446744073709551616:=by unfold rimA;omega
 unfold W128
 omega
theorem sweep_rim {l:List Bx} {T:List Tn} (hb:∀b∈l,b.in64) (hl:l.length<100000) (hp:T.Perm (turnsL l)) (hs:T.Pairwise (fun s t=>s.x≤t.x)) :
 (sumK (addRm (sqz (linY l)) T) T.length:Int)=horR l:=by
 have hM:=marks_ok hb hl
 have hmx:∀v,v∈T.map Tn.x↔v∈linX l:=fun v=>by rw [←mem_turnsX,(hp.map Tn.x).mem_iff]
 have hX:(T.map Tn.x).Pairwise (·≤·):=by rw [List.pairwise_map];exact hs
 have hin:∀v∈T.map Tn.x,(-9223372036854775808:Int)≤v∧v≤9223372036854775808:=by
  intro v hv
  have hx:=(hmx v).1 hv
  unfold linX at hx
  obtain ⟨b,h1,h2⟩:=List.mem_flatMap.1 hx
  have h3:=hb b (List.mem_filter.1 h1).1
  unfold Bx.in64 at h3
  simp at h2
  rcases h2 with rfl | rfl
  ·have:=h3.1;omega
  ·have:=h3.2.1;omega
 have e0:sumK (addRm (sqz (linY l)) T) T.length=sumK (addRm (sqz (linY l)) T) (T.length - 1):=by
  rcases Nat.eq_zero_or_pos T.length with h | h
  ·rw [h]
  ·obtain ⟨n,hn⟩:∃n,T.length=n+1:=⟨T.length - 1,by omega⟩
   rw [hn,sumK]
   have:addRm (sqz (linY l)) T n=0:=by unfold addRm longX;rw [if_neg (by omega),Nat.zero_mul]
   rw [this];rfl
 rw [e0]
 unfold horR horG
 rw [sumR_stepsL (f:=fun x=>turnsR (covB l x) (-9223372036854775808) 9223372036854775808) hX hin (fun i p q z h1 h2 h3 h4=>turnsR_congr _ _ fun y=>cov_xL hX (fun v hv=>(hmx v).2 hv) h1 h2 h3 h4)
  (fun p q z h1 h2 h3=>turnsR_none fun y=>cov_outL hX (fun v hv=>(hmx v).2 hv) h1 h2 h3) (fun h z=>turnsR_none fun y=>cov_none (by
   rw [List.eq_nil_iff_forall_not_mem]
   intro v hv
   have:=(hmx v).2 hv
   rw [h] at this
   simp at this) z y)]
 have e:T.length - 1=(T.map Tn.x).length - 1:=by rw [List.length_map]
 rw [e]
 refine steps_sumK _ _ _ fun i hi=>?_
 rw [List.length_map] at hi
 obtain ⟨t,ht⟩:∃t,T[i]? = some t:=⟨_,List.getElem?_eq_getElem (by omega)⟩
 obtain ⟨u,hu⟩:∃u,T[i+1]? = some u:=⟨_,List.getElem?_eq_getElem (by omega)⟩
 have et:mf (T.map Tn.x) i=t.x:=by unfold mf;rw [List.getElem?_map,ht];rfl
 have eu:mf (T.map Tn.x) (i+1)=u.x:=by unfold mf;rw [List.getElem?_map,hu];rfl
 have htu:=(turn_le hs ht).2 u (List.mem_of_getElem? (i:=1) (by rw [List.getElem?_drop];exact hu))
 unfold addRm longX
 rw [if_pos (by omega),et,eu,Int.natCast_mul,Int.toNat_of_nonneg (by omega)]
 rcases Int.lt_or_eq_of_le htu with hx | hx
 ·rw [col_turns hb]
  unfold runsT
  rw [wholeP_eq (sw_hok hM _)]
  unfold wholeG gapsH partG
  dsimp only
  have e2:(List.range ((sqz (linY l)).length - 1)).map (holdsG (sw (sqz (linY l)) (T.take (i+1))))=(List.range ((sqz (linY l)).length - 1)).map fun j=>covB l t.x (mf (sqz (linY l)) j):=by
   refine List.map_congr_left fun j hj=>?_
   rw [List.mem_range] at hj
   exact sw_holds hp hs (okT hp) hM.rise ht hu hx (by omega)
  rw [e2,Int.mul_comm]
  rfl
 ·rw [hx];simp
theorem sweep_rimN {l:List Bx} {T:List Tn} (hb:∀b∈l,b.in64) (hl:l.length<100000) (hp:T.Perm (turnsL l)) (hs:T.Pairwise (fun s t=>s.x≤t.x)) :
 sumK (addRm (sqz (linY l)) T) T.length=(horR l).toNat:=by
 have:=sweep_rim hb hl hp hs
 omega
theorem longX_lt {T:List Tn} (h:∀t∈T,-9223372036854775808≤t.x∧t.x≤9223372036854775807) (k:Nat):longX T k<18446744073709551616:=by
 unfold longX
 split
 ·rename_i hk
  obtain ⟨t,ht⟩:∃t,T[k]? = some t:=⟨_,List.getElem?_eq_getElem (by omega)⟩
  obtain ⟨u,hu⟩:∃u,T[k+1]? = some u:=⟨_,List.getElem?_eq_getElem (by omega)⟩
  have et:mf (T.map Tn.x) k=t.x:=by unfold mf;rw [List.getElem?_map,ht];rfl
  have eu:mf (T.map Tn.x) (k+1)=u.x:=by unfold mf;rw [List.getElem?_map,hu];rfl
  have h1:=h t (List.mem_of_getElem? ht)
  have h2:=h u (List.mem_of_getElem? hu)
  rw [et,eu]
  omega
 ·omega
def flB (b:Bx):Bx:=⟨b.x1,b.x2,b.y1,b.y2,0⟩
def flats (l:List Bx):List Bx:=(l.filter Bx.counts).map flB
theorem flats_count (l:List Bx):∀b∈flats l,b.counts=true:=by
 intro b hb
 obtain ⟨a,h1,rfl⟩:=List.mem_map.1 hb
 exact (List.mem_filter.1 h1).2
theorem flats_in {l:List Bx} (hb:∀b∈l,b.in64):∀b∈flats l,b.in64:=by
 intro b h
 obtain ⟨a,h1,rfl⟩:=List.mem_map.1 h
 exact hb a (List.mem_filter.1 h1).1
theorem flats_filter (l:List Bx):(flats l).filter Bx.counts=flats l:=List.filter_eq_self.2 (flats_count l)
theorem flats_len (l:List Bx):(flats l).length≤l.length:=by
 unfold flats
 rw [List.length_map]
 exact List.length_filter_le _ _
theorem flats_cov (l:List Bx) (x y:Int):covB (flats l) x y=covB l x y:=by
 unfold covB flats
 rw [List.any_map,Bool.eq_iff_iff,List.any_eq_true,List.any_eq_true]
 constructor
 ·rintro ⟨b,h1,h2⟩;exact ⟨b,(List.mem_filter.1 h1).1,h2⟩
 ·rintro ⟨b,h1,h2⟩;exact ⟨b,List.mem_filter.2 ⟨h1,cov_counts h2⟩,h2⟩
theorem flats_E (l:List Bx):sweepE (sqz (linY (flats l))) (turnsL (flats l))=sweepE (sqz (linY l)) (turnsL l):=by
 have h1:linY (flats l)=linY l:=by
  unfold linY
  rw [flats_filter]
  unfold flats
  rw [List.flatMap_map]
  rfl
 rw [areaE_sum,areaE_sum,h1,flats_filter]
 unfold flats
 rw [List.map_map]
 rfl
theorem tu_filter (l:List Bx):(l.map tuB).filter Bx.counts=(l.filter Bx.counts).map tuB:=by
 rw [List.filter_map]
 congr 1
 exact List.filter_congr fun b _=>tuB_counts b
theorem flats_tu (l:List Bx):(flats l).map tuB=flats (l.map tuB):=by
 unfold flats
 rw [tu_filter,List.map_map,List.map_map]
 rfl
def rimE (l:List Bx):Nat:=sweepE (sqz (linY l)) (turnsL l)+sweepE (sqz (linY (l.map tuB))) (turnsL (l.map tuB))
end Go.Proofs.YtkmnbodlciepaaaGreat
namespace Go.Proofs.YtkmnbodlciepaaaGreat
def stE (Y:List Int) (T:List Tn) (k:Nat):Nat:=match T[k]? with | some t=>entN (spT Y t) (Y.length - 1) | none=>0
def stepK (Y:List Int) (T:List Tn) (k:Nat):Nat×Nat×Nat:=(runsT Y T k,longX T k,stE Y T k)
def stepsL (Y:List Int) (T:List Tn):List (Nat×Nat×Nat):=(List.range T.length).map (stepK Y T)
def Full (l:List Bx) (xs:List (Nat×Nat×Nat)):Prop:=∃T:List Tn,T.Perm (turnsL l)∧T.Pairwise (fun s t=>s.x≤t.x)∧xs=stepsL (sqz (linY l)) T
def Legal (l:List Bx) (xs:List (Nat×Nat×Nat)):Prop:=∃T:List Tn,T.Perm (turnsL l)∧T.Pairwise (fun s t=>s.x≤t.x)∧xs=(stepsL (sqz (linY l)) T).take xs.length
def totA (xs:List (Nat×Nat×Nat)):Nat:=(xs.map fun s=>s.2.1*(2*s.1)).sum
def totE (xs:List (Nat×Nat×Nat)):Nat:=(xs.map fun s=>s.2.2).sum
theorem totA_snoc (xs:List (Nat×Nat×Nat)) (s:Nat×Nat×Nat):totA (xs++[s])=totA xs+s.2.1*(2*s.1):=by simp [totA]
theorem totE_snoc (xs:List (Nat×Nat×Nat)) (s:Nat×Nat×Nat):totE (xs++[s])=totE xs+s.2.2:=by simp [totE]
theorem steps_len (Y:List Int) (T:List Tn):(stepsL Y T).length=T.length:=by simp [stepsL]
theorem steps_take (Y:List Int) (T:List Tn) {k:Nat} (hk:k<T.length):(stepsL Y T).take (k+1)=(stepsL Y T).take k++[stepK Y T k]:=by
 rw [List.take_add_one]
 unfold stepsL
 simp [List.getElem?_map,List.getElem?_range hk]
theorem sum_range (f:Nat→Nat):∀n,((List.range n).map f).sum=sumK f n
 |0=>rfl
 |n+1=>by rw [List.range_succ,List.map_append,List.sum_append,sum_range f n];simp [sumK]
theorem totA_steps (Y:List Int) (T:List Tn):totA (stepsL Y T)=sumK (addRm Y T) T.length:=by
 unfold totA stepsL
 rw [List.map_map,←sum_range]
 rfl
theorem stE_sum (Y:List Int):∀(T:List Tn),((List.range T.length).map (stE Y T)).sum=sweepE Y T
 | []=>rfl
 |t::T=>by
  rw [List.length_cons,List.range_succ_eq_map,List.map_cons,List.sum_cons,List.map_map]
  have e:(stE Y (t::T) ∘ Nat.succ)=stE Y T:=by funext i;simp [stE]
  rw [e,stE_sum Y T]
  rfl
theorem totE_steps (Y:List Int) (T:List Tn):totE (stepsL Y T)=sweepE Y T:=by
 unfold totE stepsL
 rw [List.map_map,←stE_sum]
 rfl
theorem totA_full {l:List Bx} {xs:List (Nat×Nat×Nat)} (hb:∀b∈l,b.in64) (hl:l.length<100000) (h:Full l xs):totA xs=(horR l).toNat:=by
 obtain ⟨T,hp,hs,rfl⟩:=h
 rw [totA_steps,sweep_rimN hb hl hp hs]
theorem totE_full {l:List Bx} {xs:List (Nat×Nat×Nat)} (h:Full l xs):totE xs=sweepE (sqz (linY l)) (turnsL l):=by
 obtain ⟨T,hp,hs,rfl⟩:=h
 rw [totE_steps,sweepE_perm hp]
theorem sum_take_le (f:Nat×Nat×Nat→Nat):∀(xs:List (Nat×Nat×Nat)) (k:Nat),((xs.take k).map f).sum≤(xs.map f).sum
 | [],k=>by simp
 |x::xs,0=>by simp
 |x::xs,k+1=>by simp only [List.take_succ_cons,List.map_cons,List.sum_cons];have:=sum_take_le f xs k;omega
theorem Legal.tot {l:List Bx} {xs:List (Nat×Nat×Nat)} (hb:∀b∈l,b.in64) (hl:l.length<100000) (h:Legal l xs):totA xs≤(horR l).toNat∧totE xs≤sweepE (sqz (linY l)) (turnsL l):=by
 obtain ⟨T,hp,hs,he⟩:=h
 rw [he,←totA_full hb hl ⟨T,hp,hs,rfl⟩,←totE_full (l:=l) ⟨T,hp,hs,rfl⟩]
 exact ⟨sum_take_le _ _ _,sum_take_le _ _ _⟩
theorem Legal.mem {l:List Bx} {xs:List (Nat×Nat×Nat)} (hb:∀b∈l,b.in64) (hl:l.length<100000) (h:Legal l xs):∀s∈xs,s.1≤200000∧s.2.1<18446744073709551616∧s.2.2≤100000000:=by
 obtain ⟨T,hp,hs,he⟩:=h
 intro s hm
 rw [he] at hm
 have hm:=List.mem_of_mem_take hm
 unfold stepsL at hm
 obtain ⟨k,hk,rfl⟩:=List.mem_map.1 hm
 rw [List.mem_range] at hk
 have hM:=marks_ok hb hl
 have h1:=runsT_le hM T k
 have h3:=sqz_len (linY l)
 have h4:=turns_len l
 refine ⟨by unfold stepK;dsimp only;omega,?_,?_⟩
 ·refine longX_lt (fun t ht=>?_) k
  have hx:=(mem_turnsX t.x).1 (List.mem_map.2 ⟨t,hp.mem_iff.1 ht,rfl⟩)
  unfold linX at hx
  obtain ⟨b,h1,h2⟩:=List.mem_flatMap.1 hx
  have h3:=hb b (List.mem_filter.1 h1).1
  unfold Bx.in64 at h3
  simp at h2
  rcases h2 with h2 | h2<;>rw [h2]
  ·exact h3.1
  ·exact h3.2.1
 ·have h5:stE (sqz (linY l)) T k≤sweepE (sqz (linY l)) T:=by
   rw [←stE_sum,sum_range]
   have h:=sumK_mono (stE (sqz (linY l)) T) (show k+1≤T.length by omega)
   rw [sumK] at h
   omega
  have h6:=sweepE_le (sqz (linY l)) hM.len T
  have h7:=hp.length_eq
  show stE (sqz (linY l)) T k≤100000000
  omega
end Go.Proofs.YtkmnbodlciepaaaGreat
