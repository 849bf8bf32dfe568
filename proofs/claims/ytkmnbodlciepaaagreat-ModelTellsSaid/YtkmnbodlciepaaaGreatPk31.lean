/- The document's model: far. The document's model: asked. Printed by mkrefmf.py. -/
import Derived.Test.YtkmnbodlciepaaaGreatPk30
set_option maxHeartbeats 16000000
set_option maxRecDepth 100000
namespace Go.Proofs.YtkmnbodlciepaaaGreat
open Go.RowKit
theorem rfar (x a:Int) (up:Bool) (w:World):Calls Tryz.prog 115 #[.int .i64 x,.int .i64 a,.bool up] w fun e w'=>e=.returned (.bool ((x==a)||(decide (a<x)==up)))∧w=w':=by
 obtain ⟨t,ht⟩:∃t,(x==a)=t:=⟨_,rfl⟩
 obtain ⟨g,hg⟩:∃g,decide (a<x)=g:=⟨_,rfl⟩
 rw [ht,hg]
 cases t<;>cases g<;>cases up
 all_goals
  go_enter Tryz.func115,Tryz.ntmps115
  go_wp2_with fail
  go_ret
  exact ⟨rfl,rfl⟩
theorem rstab2 (lo hi id x:Int) (w:World):Calls Tryz.prog 60 #[.agg #[.int .i64 lo,.int .i64 hi,.int .u32 id],.int .i64 x] w fun e w'=>e=.returned (.bool (stabBM lo hi x))∧Upd [] w w':=by
 have e0:stabBM lo hi x=(!decide (x<lo)&&!decide (hi<x)):=by
  unfold stabBM
  rw [show decide (lo≤x) = !decide (x<lo) by by_cases h:x<lo<;>simp [h]<;>omega,show decide (x≤hi) = !decide (hi<x) by by_cases h:hi<x<;>simp [h]<;>omega]
 rw [e0]
 clear e0
 obtain ⟨a,ha⟩:∃a,decide (x<lo)=a:=⟨_,rfl⟩
 obtain ⟨b,hb⟩:∃b,decide (hi<x)=b:=⟨_,rfl⟩
 rw [ha,hb]
 cases a<;>cases b
 all_goals
  go_enter Tryz.func60,Tryz.ntmps60
  go_wp2_with fail
  go_ret
  exact ⟨rfl,by first | exact Upd.refl _ _ | exact (Upd.refl _ _).alloc _⟩
theorem lt_flip (a b:Int):decide (a≤b) = !decide (b<a):=by
 by_cases h:b<a<;>simp [h]<;>omega
theorem rin2 (b:Bx) (x y id:Int) (w:World):Calls Tryz.prog 62 #[.agg #[.int .i64 x,.int .i64 y,.int .u32 id],bxV b] w fun e w'=>e=.returned (.bool (inBM b x y))∧Upd [] w w':=by
 obtain ⟨x1,x2,y1,y2,bi⟩:=b
 have e0:inBM ⟨x1,x2,y1,y2,bi⟩ x y=(!(decide (x<x1)||(decide (x2<x)||(decide (y<y1)||decide (y2<y))))):=by
  unfold inBM stabBM
  dsimp only
  rw [lt_flip,lt_flip,lt_flip,lt_flip]
  cases decide (x<x1)<;>cases decide (x2<x)<;>cases decide (y<y1)<;>cases decide (y2<y)<;>rfl
 rw [e0]
 clear e0
 unfold bxV
 dsimp only
 obtain ⟨a,ha⟩:∃a,decide (x<x1)=a:=⟨_,rfl⟩
 obtain ⟨b,hb⟩:∃b,decide (x2<x)=b:=⟨_,rfl⟩
 obtain ⟨c,hc⟩:∃b,decide (y<y1)=b:=⟨_,rfl⟩
 obtain ⟨d,hd⟩:∃b,decide (y2<y)=b:=⟨_,rfl⟩
 rw [ha,hb,hc,hd]
 cases a<;>cases b<;>cases c<;>cases d
 all_goals
  go_enter Tryz.func62,Tryz.ntmps62
  go_wp2_with fail
  go_ret
  exact ⟨rfl,by first | exact Upd.refl _ _ | exact (Upd.refl _ _).alloc _ | exact ((Upd.refl _ _).alloc _).alloc _⟩
theorem rover2 (p q:Pt) (w:World):Calls Tryz.prog 117 #[.agg #[.int .i64 p.x,.int .i64 p.y,.int .u32 (p.id:Int)],.agg #[.int .i64 q.x,.int .i64 q.y,.int .u32 (q.id:Int)]] w fun e w'=>e=.returned (.bool (overB p q))∧Upd [] w w':=by
 obtain ⟨px,py,pi⟩:=p
 obtain ⟨qx,qy,qi⟩:=q
 have e0:overB ⟨px,py,pi⟩ ⟨qx,qy,qi⟩=(!(decide (px<qx)||decide (py<qy))&&(decide (qx<px)||decide (qy<py))):=by
  unfold overB
  dsimp only
  rw [Bool.eq_iff_iff]
  simp only [Bool.and_eq_true,Bool.or_eq_true,Bool.not_eq_true',Bool.or_eq_false_iff,decide_eq_true_eq,decide_eq_false_iff_not]
  omega
 rw [e0]
 clear e0
 dsimp only
 obtain ⟨a,ha⟩:∃a,decide (px<qx)=a:=⟨_,rfl⟩
 obtain ⟨b,hb⟩:∃b,decide (py<qy)=b:=⟨_,rfl⟩
 obtain ⟨c,hc⟩:∃b,decide (qx<px)=b:=⟨_,rfl⟩
 obtain ⟨d,hd⟩:∃b,decide (qy<py)=b:=⟨_,rfl⟩
 rw [ha,hb,hc,hd]
 cases a<;>cases b<;>cases c<;>cases d
 all_goals
  go_enter Tryz.func117,Tryz.ntmps117
  go_wp2_with fail
  go_ret
  exact ⟨rfl,by first | exact Upd.refl _ _ | exact (Upd.refl _ _).alloc _ | exact ((Upd.refl _ _).alloc _).alloc _⟩
theorem rahead (a b:Int) (x y:Nat) (w:World):Calls Tryz.prog 167 #[.int .i64 a,.int .u32 (x:Int),.int .i64 b,.int .u32 (y:Int)] w fun e w'=>e=.returned (.bool (decide (a<b)||(decide (a=b)&&decide (x<y))))∧w=w':=by
 obtain ⟨c,hc⟩:∃c,decide (a<b)=c:=⟨_,rfl⟩
 obtain ⟨d,hd⟩:∃c,decide (a=b)=c:=⟨_,rfl⟩
 obtain ⟨f,hf⟩:∃c,decide (x<y)=c:=⟨_,rfl⟩
 have hd':(a==b)=d:=by rw [←hd,Bool.eq_iff_iff];simp
 have hf':decide ((x:Int)<(y:Int))=f:=by rw [←hf,Bool.eq_iff_iff];simp
 rw [hc,hd,hf]
 cases c<;>cases d<;>cases f
 all_goals
  clear hd
  go_enter Tryz.func167,Tryz.ntmps167
  go_wp2_with fail
  go_ret
  exact ⟨rfl,rfl⟩
def aheadB (a:Int) (x:Nat) (b:Int) (y:Nat):Bool:=decide (a<b)||(decide (a=b)&&decide (x<y))
theorem rorder (a b:Int) (x y:Nat) (w:World):Calls Tryz.prog 143 #[.int .i64 a,.int .u32 (x:Int),.int .i64 b,.int .u32 (y:Int)] w fun e w'=>e=.returned (.int .i64 (bif aheadB a x b y then -1 else bif aheadB b y a x then 1 else 0))∧w=w':=by
 have h1:=fun w=>rahead a b x y w
 have h2:=fun w=>rahead b a y x w
 obtain ⟨c,hc⟩:∃c,aheadB a x b y=c:=⟨_,rfl⟩
 obtain ⟨d,hd⟩:∃c,aheadB b y a x=c:=⟨_,rfl⟩
 have hc':=hc
 have hd':=hd
 unfold aheadB at hc' hd'
 simp only [hc'] at h1
 simp only [hd'] at h2
 rw [hc,hd]
 have H1:=Lib.hid h1
 have H2:=Lib.hid h2
 clear h1 h2 hc hd hc' hd'
 go_enter Tryz.func143,Tryz.ntmps143
 go_wp2_with fail
 (with_reducible refine (H1.out _).mono ?_)
 rintro e w1 ⟨rfl,rfl⟩
 cases c with
 |true=>
  go_wp2_with fail
  go_ret
  exact ⟨rfl,rfl⟩
 |false=>
  go_wp2_with fail
  (with_reducible refine (H2.out _).mono ?_)
  rintro e w2 ⟨rfl,rfl⟩
  cases d with
  |true=>
   go_wp2_with fail
   go_ret
   exact ⟨rfl,rfl⟩
  |false=>
   go_wp2_with fail
   go_ret
   exact ⟨rfl,rfl⟩
theorem rby2 (p q:Pt) (w:World):Calls Tryz.prog 116 #[.agg #[.int .i64 p.x,.int .i64 p.y,.int .u32 (p.id:Int)],.agg #[.int .i64 q.x,.int .i64 q.y,.int .u32 (q.id:Int)]] w fun e w'=>e=.returned (.int .i64 (bif lowB p q then -1 else bif lowB q p then 1 else 0))∧Upd [] w w':=by
 have h1:=fun w=>rorder p.y q.y p.id q.id w
 obtain ⟨z,hz⟩:∃z:Int,(bif aheadB p.y p.id q.y q.id then -1 else bif aheadB q.y q.id p.y p.id then 1 else 0)=z:=⟨_,rfl⟩
 have e:(bif lowB p q then -1 else bif lowB q p then 1 else 0:Int)=z:=hz
 simp only [hz] at h1
 rw [e]
 have H1:=Lib.hid h1
 clear h1 hz e
 go_enter Tryz.func116,Tryz.ntmps116
 go_wp2_with fail
 (with_reducible refine (H1.out _).mono ?_)
 rintro e w1 ⟨rfl,rfl⟩
 go_wp2_with fail
 go_ret
 exact ⟨rfl,by first | exact Upd.refl _ _ | exact (Upd.refl _ _).alloc _ | exact ((Upd.refl _ _).alloc _).alloc _⟩
theorem rmeet2 (slo shi:Int) (id:Nat) (lo hi:Int) (w:World):Calls Tryz.prog 61 #[.agg #[.int .i64 slo,.int .i64 shi,.int .u32 (id:Int)],.int .i64 lo,.int .i64 hi] w fun e w'=>e=.returned (.bool (decide (max slo lo≤min shi hi)))∧Upd [] w w':=by
 have hA:=fun w=>rstab2 slo shi (id:Int) lo w
 have hB:=fun w=>rstab2 lo hi 0 lo w
 have hC:=fun w=>rstab2 slo shi (id:Int) slo w
 have hD:=fun w=>rstab2 lo hi 0 slo w
 have e0:decide (max slo lo≤min shi hi)=((stabBM slo shi lo&&stabBM lo hi lo)||(stabBM slo shi slo&&stabBM lo hi slo)):=by
  unfold stabBM
  rw [Bool.eq_iff_iff]
  simp only [Bool.and_eq_true,Bool.or_eq_true,decide_eq_true_eq]
  omega
 rw [e0]
 clear e0
 obtain ⟨A,eA⟩:∃c,stabBM slo shi lo=c:=⟨_,rfl⟩
 obtain ⟨B,eB⟩:∃c,stabBM lo hi lo=c:=⟨_,rfl⟩
 obtain ⟨C,eC⟩:∃c,stabBM slo shi slo=c:=⟨_,rfl⟩
 obtain ⟨D,eD⟩:∃c,stabBM lo hi slo=c:=⟨_,rfl⟩
 simp only [eA] at hA
 simp only [eB] at hB
 simp only [eC] at hC
 simp only [eD] at hD
 rw [eA,eB,eC,eD]
 have HA:=Lib.hid hA
 have HB':=Lib.hid hB
 have HC:=Lib.hid hC
 have HD:=Lib.hid hD
 have hu:Upd [] w ((w.alloc (.cells #[.int .i64 slo,.int .i64 shi,.int .u32 (id:Int)] 54)).alloc (.cells #[.int .i64 lo,.int .i64 hi,.int .u32 0] 54)):=((Upd.refl _ _).alloc _).alloc _
 have hs:HpC ((w.alloc (.cells #[.int .i64 slo,.int .i64 shi,.int .u32 (id:Int)] 54)).alloc (.cells #[.int .i64 lo,.int .i64 hi,.int .u32 0] 54)) w.heap.size #[.int .i64 slo,.int .i64 shi,.int .u32 (id:Int)] 54:=(show HpC (w.alloc (.cells #[.int .i64 slo,.int .i64 shi,.int .u32 (id:Int)] 54)) w.heap.size #[.int .i64 slo,.int .i64 shi,.int .u32 (id:Int)] 54 from heap_alloc_new w _).upd ((Upd.refl [] _).alloc _) (by simp)
 have hb:HpC ((w.alloc (.cells #[.int .i64 slo,.int .i64 shi,.int .u32 (id:Int)] 54)).alloc (.cells #[.int .i64 lo,.int .i64 hi,.int .u32 0] 54)) (w.heap.size+1) #[.int .i64 lo,.int .i64 hi,.int .u32 0] 54:=by
  have:=heap_alloc_new (w.alloc (.cells #[.int .i64 slo,.int .i64 shi,.int .u32 (id:Int)] 54)) (.cells #[.int .i64 lo,.int .i64 hi,.int .u32 0] 54)
  unfold HpC
  simpa using this
 have HU:=Lib.hid hu
 have HS:=Lib.hid hs
 have HB:=Lib.hid hb
 clear hA hB hC hD hu hs hb eA eB eC eD
 go_enter Tryz.func61,Tryz.ntmps61
 go_upto_region 2 with fail
 generalize ((w.alloc (.cells #[.int .i64 slo,.int .i64 shi,.int .u32 (id:Int)] 54)).alloc (.cells #[.int .i64 lo,.int .i64 hi,.int .u32 0] 54))=W at HU HS HB ⊢
 generalize w.heap.size+1=q1 at HB ⊢
 generalize w.heap.size=q0 at HS ⊢
 have c0:=HS.out.cell 0
 have c1:=HS.out.cell 1
 have c2:=HS.out.cell 2
 simp only [List.getElem?_toArray,List.getElem?_cons_zero,List.getElem?_cons_succ] at c0 c1 c2
 go_wp2_with fail
 (with_reducible refine (HA.out _).mono ?_)
 rintro e wa ⟨rfl,uwa⟩
 have HWwa:=Lib.hid ((Upd.refl [] W).trans uwa)
 have c0:=(HS.out.upd HWwa.out (by simp)).cell 0
 have c1:=(HS.out.upd HWwa.out (by simp)).cell 1
 have c2:=(HS.out.upd HWwa.out (by simp)).cell 2
 have d0:=(HB.out.upd HWwa.out (by simp)).cell 0
 have d1:=(HB.out.upd HWwa.out (by simp)).cell 1
 have d2:=(HB.out.upd HWwa.out (by simp)).cell 2
 simp only [List.getElem?_toArray,List.getElem?_cons_zero,List.getElem?_cons_succ] at c0 c1 c2 d0 d1 d2
 clear uwa
 cases A with
 |true=>
  go_wp2_with fail
  (with_reducible refine (HB'.out _).mono ?_)
  rintro e wb ⟨rfl,uwb⟩
  have HWwb:=Lib.hid (HWwa.out.trans uwb)
  have c0:=(HS.out.upd HWwb.out (by simp)).cell 0
  have c1:=(HS.out.upd HWwb.out (by simp)).cell 1
  have c2:=(HS.out.upd HWwb.out (by simp)).cell 2
  have d0:=(HB.out.upd HWwb.out (by simp)).cell 0
  have d1:=(HB.out.upd HWwb.out (by simp)).cell 1
  have d2:=(HB.out.upd HWwb.out (by simp)).cell 2
  simp only [List.getElem?_toArray,List.getElem?_cons_zero,List.getElem?_cons_succ] at c0 c1 c2 d0 d1 d2
  clear uwb
  cases B with
  |true=>
   go_wp2_with fail
   go_ret
   exact ⟨rfl,HU.out.trans HWwb.out⟩
  |false=>
   go_wp2_with fail
   (with_reducible refine (HC.out _).mono ?_)
   rintro e wc1 ⟨rfl,uwc1⟩
   have HWwc1:=Lib.hid (HWwb.out.trans uwc1)
   have c0:=(HS.out.upd HWwc1.out (by simp)).cell 0
   have c1:=(HS.out.upd HWwc1.out (by simp)).cell 1
   have c2:=(HS.out.upd HWwc1.out (by simp)).cell 2
   have d0:=(HB.out.upd HWwc1.out (by simp)).cell 0
   have d1:=(HB.out.upd HWwc1.out (by simp)).cell 1
   have d2:=(HB.out.upd HWwc1.out (by simp)).cell 2
   simp only [List.getElem?_toArray,List.getElem?_cons_zero,List.getElem?_cons_succ] at c0 c1 c2 d0 d1 d2
   clear uwc1
   cases C with
   |true=>
    go_wp2_with fail
    (with_reducible refine (HD.out _).mono ?_)
    rintro e wd1 ⟨rfl,uwd1⟩
    have HWwd1:=Lib.hid (HWwc1.out.trans uwd1)
    have c0:=(HS.out.upd HWwd1.out (by simp)).cell 0
    have c1:=(HS.out.upd HWwd1.out (by simp)).cell 1
    have c2:=(HS.out.upd HWwd1.out (by simp)).cell 2
    have d0:=(HB.out.upd HWwd1.out (by simp)).cell 0
    have d1:=(HB.out.upd HWwd1.out (by simp)).cell 1
    have d2:=(HB.out.upd HWwd1.out (by simp)).cell 2
    simp only [List.getElem?_toArray,List.getElem?_cons_zero,List.getElem?_cons_succ] at c0 c1 c2 d0 d1 d2
    clear uwd1
    cases D with
    |true=>
     go_wp2_with fail
     go_ret
     exact ⟨rfl,HU.out.trans HWwd1.out⟩
    |false=>
     go_wp2_with fail
     go_ret
     exact ⟨rfl,HU.out.trans HWwd1.out⟩
   |false=>
    go_wp2_with fail
    go_ret
    exact ⟨rfl,HU.out.trans HWwc1.out⟩
 |false=>
  go_wp2_with fail
  (with_reducible refine (HC.out _).mono ?_)
  rintro e wc2 ⟨rfl,uwc2⟩
  have HWwc2:=Lib.hid (HWwa.out.trans uwc2)
  have c0:=(HS.out.upd HWwc2.out (by simp)).cell 0
  have c1:=(HS.out.upd HWwc2.out (by simp)).cell 1
  have c2:=(HS.out.upd HWwc2.out (by simp)).cell 2
  have d0:=(HB.out.upd HWwc2.out (by simp)).cell 0
  have d1:=(HB.out.upd HWwc2.out (by simp)).cell 1
  have d2:=(HB.out.upd HWwc2.out (by simp)).cell 2
  simp only [List.getElem?_toArray,List.getElem?_cons_zero,List.getElem?_cons_succ] at c0 c1 c2 d0 d1 d2
  clear uwc2
  cases C with
  |true=>
   go_wp2_with fail
   (with_reducible refine (HD.out _).mono ?_)
   rintro e wd2 ⟨rfl,uwd2⟩
   have HWwd2:=Lib.hid (HWwc2.out.trans uwd2)
   have c0:=(HS.out.upd HWwd2.out (by simp)).cell 0
   have c1:=(HS.out.upd HWwd2.out (by simp)).cell 1
   have c2:=(HS.out.upd HWwd2.out (by simp)).cell 2
   have d0:=(HB.out.upd HWwd2.out (by simp)).cell 0
   have d1:=(HB.out.upd HWwd2.out (by simp)).cell 1
   have d2:=(HB.out.upd HWwd2.out (by simp)).cell 2
   simp only [List.getElem?_toArray,List.getElem?_cons_zero,List.getElem?_cons_succ] at c0 c1 c2 d0 d1 d2
   clear uwd2
   cases D with
   |true=>
    go_wp2_with fail
    go_ret
    exact ⟨rfl,HU.out.trans HWwd2.out⟩
   |false=>
    go_wp2_with fail
    go_ret
    exact ⟨rfl,HU.out.trans HWwd2.out⟩
  |false=>
   go_wp2_with fail
   go_ret
   exact ⟨rfl,HU.out.trans HWwc2.out⟩
theorem two_new (w:World) (a b:Array Value) (t u:TypeId):∃W,W=(w.alloc (.cells a t)).alloc (.cells b u)∧Upd [] w W∧HpC W w.heap.size a t∧HpC W (w.heap.size+1) b u:=by
 refine ⟨_,rfl,((Upd.refl _ _).alloc _).alloc _,(show HpC (w.alloc (.cells a t)) w.heap.size a t from heap_alloc_new w _).upd ((Upd.refl [] _).alloc _) (by simp),?_⟩
 have:=heap_alloc_new (w.alloc (.cells a t)) (.cells b u)
 unfold HpC
 simpa using this
theorem HpC.cells3 {w:World} {q:Nat} {a b c:Value} {t:TypeId} (h:HpC w q #[a,b,c] t):w.cell? ⟨q,0,none⟩=some a∧w.cell? ⟨q,1,none⟩=some b∧w.cell? ⟨q,2,none⟩=some c:=
 ⟨h.cell 0,h.cell 1,h.cell 2⟩
theorem HpC.cells6 {w:World} {q:Nat} {a b c d e f:Value} {t:TypeId} (h:HpC w q #[a,b,c,d,e,f] t):w.cell? ⟨q,0,none⟩=some a∧w.cell? ⟨q,1,none⟩=some b∧w.cell? ⟨q,2,none⟩=some c∧w.cell? ⟨q,3,none⟩=some d∧w.cell? ⟨q,4,none⟩=some e∧w.cell? ⟨q,5,none⟩=some f:=
 ⟨h.cell 0,h.cell 1,h.cell 2,h.cell 3,h.cell 4,h.cell 5⟩
theorem rasked7 (r:Nat) (px py:Int) (pi:Nat) (oa ob occ od:Int) (oi:Nat) (w:World) {k:Int} (hk:k=7∨k=8) :
 Calls Tryz.prog 59 #[.pointer (some ⟨r,0,none⟩),.agg #[.int .i64 px,.int .i64 py,.int .u32 (pi:Int)],.agg #[.int .u8 k,.int .i64 oa,.int .i64 ob,.int .i64 occ,.int .i64 od,.int .u32 (oi:Int)]] w fun e w'=>e=.returned (.bool (((!decide (px<oa)&&!decide (ob<px))&&!decide (py<occ))&&!decide (od<py)))∧Upd [] w w':=by
 obtain ⟨a1,ha1⟩:∃b,decide (px<oa)=b:=⟨_,rfl⟩
 obtain ⟨a2,ha2⟩:∃b,decide (ob<px)=b:=⟨_,rfl⟩
 obtain ⟨b1,hb1⟩:∃b,decide (py<occ)=b:=⟨_,rfl⟩
 obtain ⟨b2,hb2⟩:∃b,decide (od<py)=b:=⟨_,rfl⟩
 rw [ha1,ha2,hb1,hb2]
 rcases hk with rfl | rfl
 ·obtain ⟨W,hW,hu,hs,hb⟩:=two_new w #[.int .i64 px,.int .i64 py,.int .u32 (pi:Int)] #[.int .u8 7,.int .i64 oa,.int .i64 ob,.int .i64 occ,.int .i64 od,.int .u32 (oi:Int)] 62 43
  have HW:=Lib.hid hW
  have HU:=Lib.hid hu
  have HS:=Lib.hid hs
  have HB:=Lib.hid hb
  clear hW hu hs hb
  go_enter Tryz.func59,Tryz.ntmps59
  go_upto_region 1 with fail
  rw [←HW.out]
  clear HW
  generalize w.heap.size+1=q1 at HB ⊢
  generalize w.heap.size=q0 at HS ⊢
  obtain ⟨c0,c1,c2⟩:=HS.out.cells3
  obtain ⟨o0,o1,o2,o3,o4,o5⟩:=HB.out.cells6
  cases a1<;>cases a2<;>cases b1<;>cases b2<;>
   (go_wp2_with fail
    go_ret
    exact ⟨rfl,HU.out⟩)
 ·obtain ⟨W,hW,hu,hs,hb⟩:=two_new w #[.int .i64 px,.int .i64 py,.int .u32 (pi:Int)] #[.int .u8 8,.int .i64 oa,.int .i64 ob,.int .i64 occ,.int .i64 od,.int .u32 (oi:Int)] 62 43
  have HW:=Lib.hid hW
  have HU:=Lib.hid hu
  have HS:=Lib.hid hs
  have HB:=Lib.hid hb
  clear hW hu hs hb
  go_enter Tryz.func59,Tryz.ntmps59
  go_upto_region 1 with fail
  rw [←HW.out]
  clear HW
  generalize w.heap.size+1=q1 at HB ⊢
  generalize w.heap.size=q0 at HS ⊢
  obtain ⟨c0,c1,c2⟩:=HS.out.cells3
  obtain ⟨o0,o1,o2,o3,o4,o5⟩:=HB.out.cells6
  cases a1<;>cases a2<;>cases b1<;>cases b2<;>
   (go_wp2_with fail
    go_ret
    exact ⟨rfl,HU.out⟩)
theorem rasked9 (r:Nat) (px py:Int) (pi:Nat) (oa ob occ od:Int) (oi:Nat) (w:World) {k:Int} (hk:k=9∨k=10) :
 Calls Tryz.prog 59 #[.pointer (some ⟨r,0,none⟩),.agg #[.int .i64 px,.int .i64 py,.int .u32 (pi:Int)],.agg #[.int .u8 k,.int .i64 oa,.int .i64 ob,.int .i64 occ,.int .i64 od,.int .u32 (oi:Int)]] w fun e w'=>e=.returned (.bool ((!decide (px<oa)&&!decide (ob<px))&&!decide (occ<py)))∧Upd [] w w':=by
 obtain ⟨a1,ha1⟩:∃b,decide (px<oa)=b:=⟨_,rfl⟩
 obtain ⟨a2,ha2⟩:∃b,decide (ob<px)=b:=⟨_,rfl⟩
 obtain ⟨b1,hb1⟩:∃b,decide (occ<py)=b:=⟨_,rfl⟩
 rw [ha1,ha2,hb1]
 rcases hk with rfl | rfl
 ·obtain ⟨W,hW,hu,hs,hb⟩:=two_new w #[.int .i64 px,.int .i64 py,.int .u32 (pi:Int)] #[.int .u8 9,.int .i64 oa,.int .i64 ob,.int .i64 occ,.int .i64 od,.int .u32 (oi:Int)] 62 43
  have HW:=Lib.hid hW
  have HU:=Lib.hid hu
  have HS:=Lib.hid hs
  have HB:=Lib.hid hb
  clear hW hu hs hb
  go_enter Tryz.func59,Tryz.ntmps59
  go_upto_region 1 with fail
  rw [←HW.out]
  clear HW
  generalize w.heap.size+1=q1 at HB ⊢
  generalize w.heap.size=q0 at HS ⊢
  obtain ⟨c0,c1,c2⟩:=HS.out.cells3
  obtain ⟨o0,o1,o2,o3,o4,o5⟩:=HB.out.cells6
  cases a1<;>cases a2<;>cases b1<;>
   (go_wp2_with fail
    go_ret
    exact ⟨rfl,HU.out⟩)
 ·obtain ⟨W,hW,hu,hs,hb⟩:=two_new w #[.int .i64 px,.int .i64 py,.int .u32 (pi:Int)] #[.int .u8 10,.int .i64 oa,.int .i64 ob,.int .i64 occ,.int .i64 od,.int .u32 (oi:Int)] 62 43
  have HW:=Lib.hid hW
  have HU:=Lib.hid hu
  have HS:=Lib.hid hs
  have HB:=Lib.hid hb
  clear hW hu hs hb
  go_enter Tryz.func59,Tryz.ntmps59
  go_upto_region 1 with fail
  rw [←HW.out]
  clear HW
  generalize w.heap.size+1=q1 at HB ⊢
  generalize w.heap.size=q0 at HS ⊢
  obtain ⟨c0,c1,c2⟩:=HS.out.cells3
  obtain ⟨o0,o1,o2,o3,o4,o5⟩:=HB.out.cells6
  cases a1<;>cases a2<;>cases b1<;>
   (go_wp2_with fail
    go_ret
    exact ⟨rfl,HU.out⟩)
theorem rfarU (x a:Int) (w:World):Calls Tryz.prog 115 #[.int .i64 x,.int .i64 a,.bool true] w fun e w'=>e=.returned (.bool (decide (a≤x)))∧w=w':=by
 have e0:decide (a≤x)=((x==a)||(decide (a<x)==true)):=by
  rw [Bool.eq_iff_iff]
  simp only [Bool.or_eq_true,beq_iff_eq,decide_eq_true_eq]
  omega
 rw [e0]
 exact rfar x a true w
theorem rfarD (x a:Int) (w:World):Calls Tryz.prog 115 #[.int .i64 x,.int .i64 a,.bool false] w fun e w'=>e=.returned (.bool (decide (x≤a)))∧w=w':=by
 have e0:decide (x≤a)=((x==a)||(decide (a<x)==false)):=by
  rw [Bool.eq_iff_iff]
  simp only [Bool.or_eq_true,beq_iff_eq,decide_eq_true_eq,decide_eq_false_iff_not]
  omega
 rw [e0]
 exact rfar x a false w
theorem rasked11 (r:Nat) (px py:Int) (pi:Nat) (oa ob occ od:Int) (oi:Nat) (w:World) {k:Int} (hk:k=11∨k=12) :
 Calls Tryz.prog 59 #[.pointer (some ⟨r,0,none⟩),.agg #[.int .i64 px,.int .i64 py,.int .u32 (pi:Int)],.agg #[.int .u8 k,.int .i64 oa,.int .i64 ob,.int .i64 occ,.int .i64 od,.int .u32 (oi:Int)]] w fun e w'=>e=.returned (.bool (cornB ⟨px,py,pi⟩ oa ob occ))∧Upd [] w w':=by
 by_cases hc:occ<0∨3<occ
 ·have e0:cornB ⟨px,py,pi⟩ oa ob occ=false:=by unfold cornB;rw [if_neg (by omega),if_neg (by omega),if_neg (by omega),if_neg (by omega)]
  rw [e0]
  have d1:decide ((0:Int)≤occ)=false∨(decide ((0:Int)≤occ)=true∧decide (occ≤3)=false):=by
   rcases hc with h | h
   ·exact .inl (decide_eq_false (by omega))
   ·exact .inr ⟨decide_eq_true (by omega),decide_eq_false (by omega)⟩
  clear e0 hc
  rcases hk with rfl | rfl
  ·obtain ⟨W,hW,hu,hs,hb⟩:=two_new w #[.int .i64 px,.int .i64 py,.int .u32 (pi:Int)] #[.int .u8 11,.int .i64 oa,.int .i64 ob,.int .i64 occ,.int .i64 od,.int .u32 (oi:Int)] 62 43
   have HW:=Lib.hid hW
   have HU:=Lib.hid hu
   have HS:=Lib.hid hs
   have HB:=Lib.hid hb
   clear hW hu hs hb
   go_enter Tryz.func59,Tryz.ntmps59
   go_upto_region 1 with fail
   rw [←HW.out]
   clear HW
   generalize w.heap.size+1=q1 at HB ⊢
   generalize w.heap.size=q0 at HS ⊢
   obtain ⟨c0,c1,c2⟩:=HS.out.cells3
   obtain ⟨o0,o1,o2,o3,o4,o5⟩:=HB.out.cells6
   go_cut [7] (fun s7 we=>∃t,s7=.bool t∧W=we)
   case first=>
    obtain ⟨g1,hg1⟩:∃b,decide (px<oa)=b:=⟨_,rfl⟩
    obtain ⟨g2,hg2⟩:∃b,decide (ob<px)=b:=⟨_,rfl⟩
    cases g1<;>cases g2<;>
    (go_wp2_with fail
     go_meet
     case rel=>exact ⟨_,rfl,rfl⟩)
   obtain ⟨t7,rfl,rfl⟩:=hcut
   rcases d1 with d1 | ⟨d1,d2⟩<;>
    (go_wp2_with fail
     go_ret
     exact ⟨rfl,HU.out⟩)
  ·obtain ⟨W,hW,hu,hs,hb⟩:=two_new w #[.int .i64 px,.int .i64 py,.int .u32 (pi:Int)] #[.int .u8 12,.int .i64 oa,.int .i64 ob,.int .i64 occ,.int .i64 od,.int .u32 (oi:Int)] 62 43
   have HW:=Lib.hid hW
   have HU:=Lib.hid hu
   have HS:=Lib.hid hs
   have HB:=Lib.hid hb
   clear hW hu hs hb
   go_enter Tryz.func59,Tryz.ntmps59
   go_upto_region 1 with fail
   rw [←HW.out]
   clear HW
   generalize w.heap.size+1=q1 at HB ⊢
   generalize w.heap.size=q0 at HS ⊢
   obtain ⟨c0,c1,c2⟩:=HS.out.cells3
   obtain ⟨o0,o1,o2,o3,o4,o5⟩:=HB.out.cells6
   go_cut [7] (fun s7 we=>∃t,s7=.bool t∧W=we)
   case first=>
    obtain ⟨g1,hg1⟩:∃b,decide (px<oa)=b:=⟨_,rfl⟩
    obtain ⟨g2,hg2⟩:∃b,decide (ob<px)=b:=⟨_,rfl⟩
    cases g1<;>cases g2<;>
    (go_wp2_with fail
     go_meet
     case rel=>exact ⟨_,rfl,rfl⟩)
   obtain ⟨t7,rfl,rfl⟩:=hcut
   rcases d1 with d1 | ⟨d1,d2⟩<;>
    (go_wp2_with fail
     go_ret
     exact ⟨rfl,HU.out⟩)
 have h4:occ=0∨occ=1∨occ=2∨occ=3:=by omega
 clear hc
 rcases h4 with rfl | rfl | rfl | rfl
 ·have e0:cornB ⟨px,py,pi⟩ oa ob 0=(decide (px≤oa)&&decide (py≤ob)):=by unfold cornB;rw [if_pos rfl]
  rw [e0]
  clear e0
  have h1:=fun w=>rfarD px oa w
  have h2:=fun w=>rfarD py ob w
  obtain ⟨a1,ha1⟩:∃b,decide (px≤oa)=b:=⟨_,rfl⟩
  obtain ⟨a2,ha2⟩:∃b,decide (py≤ob)=b:=⟨_,rfl⟩
  simp only [ha1] at h1
  simp only [ha2] at h2
  rw [ha1,ha2]
  have H1:=Lib.hid h1
  have H2:=Lib.hid h2
  clear h1 h2 ha1 ha2
  rcases hk with rfl | rfl
  ·obtain ⟨W,hW,hu,hs,hb⟩:=two_new w #[.int .i64 px,.int .i64 py,.int .u32 (pi:Int)] #[.int .u8 11,.int .i64 oa,.int .i64 ob,.int .i64 0,.int .i64 od,.int .u32 (oi:Int)] 62 43
   have HW:=Lib.hid hW
   have HU:=Lib.hid hu
   have HS:=Lib.hid hs
   have HB:=Lib.hid hb
   clear hW hu hs hb
   go_enter Tryz.func59,Tryz.ntmps59
   go_upto_region 1 with fail
   rw [←HW.out]
   clear HW
   generalize w.heap.size+1=q1 at HB ⊢
   generalize w.heap.size=q0 at HS ⊢
   obtain ⟨c0,c1,c2⟩:=HS.out.cells3
   obtain ⟨o0,o1,o2,o3,o4,o5⟩:=HB.out.cells6
   go_cut [7] (fun s7 we=>∃t,s7=.bool t∧W=we)
   case first=>
    obtain ⟨g1,hg1⟩:∃b,decide (px<oa)=b:=⟨_,rfl⟩
    obtain ⟨g2,hg2⟩:∃b,decide (ob<px)=b:=⟨_,rfl⟩
    cases g1<;>cases g2<;>
    (go_wp2_with fail
     go_meet
     case rel=>exact ⟨_,rfl,rfl⟩)
   obtain ⟨t7,rfl,rfl⟩:=hcut
   go_wp2_with fail
   (with_reducible refine (H1.out _).mono ?_)
   rintro e w1 ⟨rfl,rfl⟩
   cases a1 with
   |false=>
    go_wp2_with fail
    go_ret
    exact ⟨rfl,HU.out⟩
   |true=>
    go_wp2_with fail
    (with_reducible refine (H2.out _).mono ?_)
    rintro e w2 ⟨rfl,rfl⟩
    cases a2<;>(go_wp2_with fail;go_ret;exact ⟨rfl,HU.out⟩)
  ·obtain ⟨W,hW,hu,hs,hb⟩:=two_new w #[.int .i64 px,.int .i64 py,.int .u32 (pi:Int)] #[.int .u8 12,.int .i64 oa,.int .i64 ob,.int .i64 0,.int .i64 od,.int .u32 (oi:Int)] 62 43
   have HW:=Lib.hid hW
   have HU:=Lib.hid hu
   have HS:=Lib.hid hs
   have HB:=Lib.hid hb
   clear hW hu hs hb
   go_enter Tryz.func59,Tryz.ntmps59
   go_upto_region 1 with fail
   rw [←HW.out]
   clear HW
   generalize w.heap.size+1=q1 at HB ⊢
   generalize w.heap.size=q0 at HS ⊢
   obtain ⟨c0,c1,c2⟩:=HS.out.cells3
   obtain ⟨o0,o1,o2,o3,o4,o5⟩:=HB.out.cells6
   go_cut [7] (fun s7 we=>∃t,s7=.bool t∧W=we)
   case first=>
    obtain ⟨g1,hg1⟩:∃b,decide (px<oa)=b:=⟨_,rfl⟩
    obtain ⟨g2,hg2⟩:∃b,decide (ob<px)=b:=⟨_,rfl⟩
    cases g1<;>cases g2<;>
    (go_wp2_with fail
     go_meet
     case rel=>exact ⟨_,rfl,rfl⟩)
   obtain ⟨t7,rfl,rfl⟩:=hcut
   go_wp2_with fail
   (with_reducible refine (H1.out _).mono ?_)
   rintro e w1 ⟨rfl,rfl⟩
   cases a1 with
   |false=>
    go_wp2_with fail
    go_ret
    exact ⟨rfl,HU.out⟩
   |true=>
    go_wp2_with fail
    (with_reducible refine (H2.out _).mono ?_)
    rintro e w2 ⟨rfl,rfl⟩
    cases a2<;>(go_wp2_with fail;go_ret;exact ⟨rfl,HU.out⟩)
 ·have e0:cornB ⟨px,py,pi⟩ oa ob 1=(decide (oa≤px)&&decide (py≤ob)):=by unfold cornB;rw [if_neg (by decide),if_pos rfl]
  rw [e0]
  clear e0
  have h1:=fun w=>rfarU px oa w
  have h2:=fun w=>rfarD py ob w
  obtain ⟨a1,ha1⟩:∃b,decide (oa≤px)=b:=⟨_,rfl⟩
  obtain ⟨a2,ha2⟩:∃b,decide (py≤ob)=b:=⟨_,rfl⟩
  simp only [ha1] at h1
  simp only [ha2] at h2
  rw [ha1,ha2]
  have H1:=Lib.hid h1
  have H2:=Lib.hid h2
  clear h1 h2 ha1 ha2
  rcases hk with rfl | rfl
  ·obtain ⟨W,hW,hu,hs,hb⟩:=two_new w #[.int .i64 px,.int .i64 py,.int .u32 (pi:Int)] #[.int .u8 11,.int .i64 oa,.int .i64 ob,.int .i64 1,.int .i64 od,.int .u32 (oi:Int)] 62 43
   have HW:=Lib.hid hW
   have HU:=Lib.hid hu
   have HS:=Lib.hid hs
   have HB:=Lib.hid hb
   clear hW hu hs hb
   go_enter Tryz.func59,Tryz.ntmps59
   go_upto_region 1 with fail
   rw [←HW.out]
   clear HW
   generalize w.heap.size+1=q1 at HB ⊢
   generalize w.heap.size=q0 at HS ⊢
   obtain ⟨c0,c1,c2⟩:=HS.out.cells3
   obtain ⟨o0,o1,o2,o3,o4,o5⟩:=HB.out.cells6
   go_cut [7] (fun s7 we=>∃t,s7=.bool t∧W=we)
   case first=>
    obtain ⟨g1,hg1⟩:∃b,decide (px<oa)=b:=⟨_,rfl⟩
    obtain ⟨g2,hg2⟩:∃b,decide (ob<px)=b:=⟨_,rfl⟩
    cases g1<;>cases g2<;>
    (go_wp2_with fail
     go_meet
     case rel=>exact ⟨_,rfl,rfl⟩)
   obtain ⟨t7,rfl,rfl⟩:=hcut
   go_wp2_with fail
   (with_reducible refine (H1.out _).mono ?_)
   rintro e w1 ⟨rfl,rfl⟩
   cases a1 with
   |false=>
    go_wp2_with fail
    go_ret
    exact ⟨rfl,HU.out⟩
   |true=>
    go_wp2_with fail
    (with_reducible refine (H2.out _).mono ?_)
    rintro e w2 ⟨rfl,rfl⟩
    cases a2<;>(go_wp2_with fail;go_ret;exact ⟨rfl,HU.out⟩)
  ·obtain ⟨W,hW,hu,hs,hb⟩:=two_new w #[.int .i64 px,.int .i64 py,.int .u32 (pi:Int)] #[.int .u8 12,.int .i64 oa,.int .i64 ob,.int .i64 1,.int .i64 od,.int .u32 (oi:Int)] 62 43
   have HW:=Lib.hid hW
   have HU:=Lib.hid hu
   have HS:=Lib.hid hs
   have HB:=Lib.hid hb
   clear hW hu hs hb
   go_enter Tryz.func59,Tryz.ntmps59
   go_upto_region 1 with fail
   rw [←HW.out]
   clear HW
   generalize w.heap.size+1=q1 at HB ⊢
   generalize w.heap.size=q0 at HS ⊢
   obtain ⟨c0,c1,c2⟩:=HS.out.cells3
   obtain ⟨o0,o1,o2,o3,o4,o5⟩:=HB.out.cells6
   go_cut [7] (fun s7 we=>∃t,s7=.bool t∧W=we)
   case first=>
    obtain ⟨g1,hg1⟩:∃b,decide (px<oa)=b:=⟨_,rfl⟩
    obtain ⟨g2,hg2⟩:∃b,decide (ob<px)=b:=⟨_,rfl⟩
    cases g1<;>cases g2<;>
    (go_wp2_with fail
     go_meet
     case rel=>exact ⟨_,rfl,rfl⟩)
   obtain ⟨t7,rfl,rfl⟩:=hcut
   go_wp2_with fail
   (with_reducible refine (H1.out _).mono ?_)
   rintro e w1 ⟨rfl,rfl⟩
   cases a1 with
   |false=>
    go_wp2_with fail
    go_ret
    exact ⟨rfl,HU.out⟩
   |true=>
    go_wp2_with fail
    (with_reducible refine (H2.out _).mono ?_)
    rintro e w2 ⟨rfl,rfl⟩
    cases a2<;>(go_wp2_with fail;go_ret;exact ⟨rfl,HU.out⟩)
 ·have e0:cornB ⟨px,py,pi⟩ oa ob 2=(decide (px≤oa)&&decide (ob≤py)):=by unfold cornB;rw [if_neg (by decide),if_neg (by decide),if_pos rfl]
  rw [e0]
  clear e0
  have h1:=fun w=>rfarD px oa w
  have h2:=fun w=>rfarU py ob w
  obtain ⟨a1,ha1⟩:∃b,decide (px≤oa)=b:=⟨_,rfl⟩
  obtain ⟨a2,ha2⟩:∃b,decide (ob≤py)=b:=⟨_,rfl⟩
  simp only [ha1] at h1
  simp only [ha2] at h2
  rw [ha1,ha2]
  have H1:=Lib.hid h1
  have H2:=Lib.hid h2
  clear h1 h2 ha1 ha2
  rcases hk with rfl | rfl
  ·obtain ⟨W,hW,hu,hs,hb⟩:=two_new w #[.int .i64 px,.int .i64 py,.int .u32 (pi:Int)] #[.int .u8 11,.int .i64 oa,.int .i64 ob,.int .i64 2,.int .i64 od,.int .u32 (oi:Int)] 62 43
   have HW:=Lib.hid hW
   have HU:=Lib.hid hu
   have HS:=Lib.hid hs
   have HB:=Lib.hid hb
   clear hW hu hs hb
   go_enter Tryz.func59,Tryz.ntmps59
   go_upto_region 1 with fail
   rw [←HW.out]
   clear HW
   generalize w.heap.size+1=q1 at HB ⊢
   generalize w.heap.size=q0 at HS ⊢
   obtain ⟨c0,c1,c2⟩:=HS.out.cells3
   obtain ⟨o0,o1,o2,o3,o4,o5⟩:=HB.out.cells6
   go_cut [7] (fun s7 we=>∃t,s7=.bool t∧W=we)
   case first=>
    obtain ⟨g1,hg1⟩:∃b,decide (px<oa)=b:=⟨_,rfl⟩
    obtain ⟨g2,hg2⟩:∃b,decide (ob<px)=b:=⟨_,rfl⟩
    cases g1<;>cases g2<;>
    (go_wp2_with fail
     go_meet
     case rel=>exact ⟨_,rfl,rfl⟩)
   obtain ⟨t7,rfl,rfl⟩:=hcut
   go_wp2_with fail
   (with_reducible refine (H1.out _).mono ?_)
   rintro e w1 ⟨rfl,rfl⟩
   cases a1 with
   |false=>
    go_wp2_with fail
    go_ret
    exact ⟨rfl,HU.out⟩
   |true=>
    go_wp2_with fail
    (with_reducible refine (H2.out _).mono ?_)
    rintro e w2 ⟨rfl,rfl⟩
    cases a2<;>(go_wp2_with fail;go_ret;exact ⟨rfl,HU.out⟩)
  ·obtain ⟨W,hW,hu,hs,hb⟩:=two_new w #[.int .i64 px,.int .i64 py,.int .u32 (pi:Int)] #[.int .u8 12,.int .i64 oa,.int .i64 ob,.int .i64 2,.int .i64 od,.int .u32 (oi:Int)] 62 43
   have HW:=Lib.hid hW
   have HU:=Lib.hid hu
   have HS:=Lib.hid hs
   have HB:=Lib.hid hb
   clear hW hu hs hb
   go_enter Tryz.func59,Tryz.ntmps59
   go_upto_region 1 with fail
   rw [←HW.out]
   clear HW
   generalize w.heap.size+1=q1 at HB ⊢
   generalize w.heap.size=q0 at HS ⊢
   obtain ⟨c0,c1,c2⟩:=HS.out.cells3
   obtain ⟨o0,o1,o2,o3,o4,o5⟩:=HB.out.cells6
   go_cut [7] (fun s7 we=>∃t,s7=.bool t∧W=we)
   case first=>
    obtain ⟨g1,hg1⟩:∃b,decide (px<oa)=b:=⟨_,rfl⟩
    obtain ⟨g2,hg2⟩:∃b,decide (ob<px)=b:=⟨_,rfl⟩
    cases g1<;>cases g2<;>
    (go_wp2_with fail
     go_meet
     case rel=>exact ⟨_,rfl,rfl⟩)
   obtain ⟨t7,rfl,rfl⟩:=hcut
   go_wp2_with fail
   (with_reducible refine (H1.out _).mono ?_)
   rintro e w1 ⟨rfl,rfl⟩
   cases a1 with
   |false=>
    go_wp2_with fail
    go_ret
    exact ⟨rfl,HU.out⟩
   |true=>
    go_wp2_with fail
    (with_reducible refine (H2.out _).mono ?_)
    rintro e w2 ⟨rfl,rfl⟩
    cases a2<;>(go_wp2_with fail;go_ret;exact ⟨rfl,HU.out⟩)
 ·have e0:cornB ⟨px,py,pi⟩ oa ob 3=(decide (oa≤px)&&decide (ob≤py)):=by unfold cornB;rw [if_neg (by decide),if_neg (by decide),if_neg (by decide),if_pos rfl]
  rw [e0]
  clear e0
  have h1:=fun w=>rfarU px oa w
  have h2:=fun w=>rfarU py ob w
  obtain ⟨a1,ha1⟩:∃b,decide (oa≤px)=b:=⟨_,rfl⟩
  obtain ⟨a2,ha2⟩:∃b,decide (ob≤py)=b:=⟨_,rfl⟩
  simp only [ha1] at h1
  simp only [ha2] at h2
  rw [ha1,ha2]
  have H1:=Lib.hid h1
  have H2:=Lib.hid h2
  clear h1 h2 ha1 ha2
  rcases hk with rfl | rfl
  ·obtain ⟨W,hW,hu,hs,hb⟩:=two_new w #[.int .i64 px,.int .i64 py,.int .u32 (pi:Int)] #[.int .u8 11,.int .i64 oa,.int .i64 ob,.int .i64 3,.int .i64 od,.int .u32 (oi:Int)] 62 43
   have HW:=Lib.hid hW
   have HU:=Lib.hid hu
   have HS:=Lib.hid hs
   have HB:=Lib.hid hb
   clear hW hu hs hb
   go_enter Tryz.func59,Tryz.ntmps59
   go_upto_region 1 with fail
   rw [←HW.out]
   clear HW
   generalize w.heap.size+1=q1 at HB ⊢
   generalize w.heap.size=q0 at HS ⊢
   obtain ⟨c0,c1,c2⟩:=HS.out.cells3
   obtain ⟨o0,o1,o2,o3,o4,o5⟩:=HB.out.cells6
   go_cut [7] (fun s7 we=>∃t,s7=.bool t∧W=we)
   case first=>
    obtain ⟨g1,hg1⟩:∃b,decide (px<oa)=b:=⟨_,rfl⟩
    obtain ⟨g2,hg2⟩:∃b,decide (ob<px)=b:=⟨_,rfl⟩
    cases g1<;>cases g2<;>
    (go_wp2_with fail
     go_meet
     case rel=>exact ⟨_,rfl,rfl⟩)
   obtain ⟨t7,rfl,rfl⟩:=hcut
   go_wp2_with fail
   (with_reducible refine (H1.out _).mono ?_)
   rintro e w1 ⟨rfl,rfl⟩
   cases a1 with
   |false=>
    go_wp2_with fail
    go_ret
    exact ⟨rfl,HU.out⟩
   |true=>
    go_wp2_with fail
    (with_reducible refine (H2.out _).mono ?_)
    rintro e w2 ⟨rfl,rfl⟩
    cases a2<;>(go_wp2_with fail;go_ret;exact ⟨rfl,HU.out⟩)
  ·obtain ⟨W,hW,hu,hs,hb⟩:=two_new w #[.int .i64 px,.int .i64 py,.int .u32 (pi:Int)] #[.int .u8 12,.int .i64 oa,.int .i64 ob,.int .i64 3,.int .i64 od,.int .u32 (oi:Int)] 62 43
   have HW:=Lib.hid hW
   have HU:=Lib.hid hu
   have HS:=Lib.hid hs
   have HB:=Lib.hid hb
   clear hW hu hs hb
   go_enter Tryz.func59,Tryz.ntmps59
   go_upto_region 1 with fail
   rw [←HW.out]
   clear HW
   generalize w.heap.size+1=q1 at HB ⊢
   generalize w.heap.size=q0 at HS ⊢
   obtain ⟨c0,c1,c2⟩:=HS.out.cells3
   obtain ⟨o0,o1,o2,o3,o4,o5⟩:=HB.out.cells6
   go_cut [7] (fun s7 we=>∃t,s7=.bool t∧W=we)
   case first=>
    obtain ⟨g1,hg1⟩:∃b,decide (px<oa)=b:=⟨_,rfl⟩
    obtain ⟨g2,hg2⟩:∃b,decide (ob<px)=b:=⟨_,rfl⟩
    cases g1<;>cases g2<;>
    (go_wp2_with fail
     go_meet
     case rel=>exact ⟨_,rfl,rfl⟩)
   obtain ⟨t7,rfl,rfl⟩:=hcut
   go_wp2_with fail
   (with_reducible refine (H1.out _).mono ?_)
   rintro e w1 ⟨rfl,rfl⟩
   cases a1 with
   |false=>
    go_wp2_with fail
    go_ret
    exact ⟨rfl,HU.out⟩
   |true=>
    go_wp2_with fail
    (with_reducible refine (H2.out _).mono ?_)
    rintro e w2 ⟨rfl,rfl⟩
    cases a2<;>(go_wp2_with fail;go_ret;exact ⟨rfl,HU.out⟩)
end Go.Proofs.YtkmnbodlciepaaaGreat
