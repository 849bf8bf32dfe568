/- model.come, model.lose: something comes, goes. Printed by mkcome.py. model.lose: something goes. Printed by mklose.py. -/
import Derived.Deep.Cut
import Derived.Deep.CutBlock
import Derived.Deep.DeepCutAuto
import Derived.WalkKit
import Derived.LoopTactic
import Derived.IntWalk
import Derived.Test.YtkmnbodlciepaaaGreatPk14
set_option maxHeartbeats 2000000
set_option maxRecDepth 100000
namespace Go.Proofs.YtkmnbodlciepaaaGreat
open Go.RowKit
def repV (e c:Nat) (y:Bool) (v:Value) (hi lo:Nat):Value:=.agg #[.int .i64 (e:Int),v,.int .i64 (c:Int),.bool y,.int .u64 (hi:Int),.int .u64 (lo:Int)]
def RepAt (w:World) (v:Value) (r:RepP):Prop:=∃(A:Option Addr) (C hi lo:Nat),v=repV r.err r.cnt r.yes (.slice A r.ids.length C) hi lo∧See KU w (.slice A r.ids.length C) r.ids∧hi<18446744073709551616∧lo<18446744073709551616∧r.wide=hi*18446744073709551616+lo
theorem See.nil {α:Type} (K:Kind α) (w:World):See K w (.slice none 0 0) []:=See.of_row (K:=K) (base:=0) (World.ownsRow_nil _ _ _ _)
theorem repAt_err (w:World) (e:Nat):RepAt w (repV e 0 false (.slice none 0 0) 0 0) (err e):=⟨none,0,0,0,rfl,See.nil _ _,by decide,by decide,rfl⟩
theorem repAt_cnt (w:World) (n:Nat):RepAt w (repV 0 n false (.slice none 0 0) 0 0) (cntR n):=⟨none,0,0,0,rfl,See.nil _ _,by decide,by decide,rfl⟩
theorem repAt_yes (w:World) (b:Bool):RepAt w (repV 0 0 b (.slice none 0 0) 0 0) (yesR b):=⟨none,0,0,0,rfl,See.nil _ _,by decide,by decide,rfl⟩
theorem repAt_ids (w:World) (A:Option Addr) (C:Nat) (l:List Nat) (h:See KU w (.slice A l.length C) l):RepAt w (repV 0 0 false (.slice A l.length C) 0 0) (idsR l):=⟨A,C,0,0,rfl,h,by decide,by decide,rfl⟩
theorem RepAt.upd0 {w w':World} {v:Value} {r:RepP} (h:RepAt w v r) (hu:Upd [] w w'):RepAt w' v r:=by
 obtain ⟨A,C,hi,lo,h1,h2,h3⟩:=h
 exact ⟨A,C,hi,lo,h1,h2.upd0 hu,h3⟩
abbrev repZ:Array Value:=#[.int .i64 0,.slice none 0 0,.int .i64 0,.bool false,.int .u64 0,.int .u64 0]
def RpAt (w:World) (q:Nat) (l:Array Value):Prop:=w.heap[q]? = some (.cells l 39 (0,0))
theorem RpAt.cell {w:World} {q:Nat} {l:Array Value} (h:RpAt w q l) (k:Nat):w.cell? ⟨q,k,none⟩=l[k]?:=by
 unfold RpAt at h;simp only [World.cell?,h];rfl
theorem RpAt.frozen {w:World} {q:Nat} {l:Array Value} (h:RpAt w q l) (k:Nat):w.frozen? ⟨q,k,none⟩=false:=by
 unfold RpAt at h;simp [World.frozen?,h]
theorem RpAt.upd {F:List Nat} {w w':World} {q:Nat} {l:Array Value} (h:RpAt w q l) (hu:Upd F w w') (hq:q∉F):RpAt w' q l:=by
 unfold RpAt at h ⊢;rw [hu.block q (lt_of_block h) hq,h]
theorem RpAt.put {w:World} {q:Nat} {a b c d e f:Value} (h:RpAt w q #[a,b,c,d,e,f]) (a' b' c' d' e' f':Value):RpAt ((((((w.setCell ⟨q,0,none⟩ a').setCell ⟨q,1,none⟩ b').setCell ⟨q,2,none⟩ c').setCell ⟨q,3,none⟩ d').setCell ⟨q,4,none⟩ e').setCell ⟨q,5,none⟩ f') q #[a',b',c',d',e',f']:=by
 have g:∀{w:World} {cur:Array Value} (k:Nat) (v:Value),w.heap[q]? = some (.cells cur 39 (0,0))→(w.setCell ⟨q,k,none⟩ v).heap[q]? = some (.cells (cur.setIfInBounds k v) 39 (0,0)):=fun k v h=>heap_setCell_same _ q k _ _ _ h
 exact g 5 _ (g 4 _ (g 3 _ (g 2 _ (g 1 _ (g 0 _ h)))))
theorem upd_put {F:List Nat} {w w':World} {q:Nat} (h:Upd F w w') (hq:q∈F∨w.heap.size≤q) (a' b' c' d' e' f':Value):Upd F w ((((((w'.setCell ⟨q,0,none⟩ a').setCell ⟨q,1,none⟩ b').setCell ⟨q,2,none⟩ c').setCell ⟨q,3,none⟩ d').setCell ⟨q,4,none⟩ e').setCell ⟨q,5,none⟩ f'):=
 (((((h.setCell hq _).setCell hq _).setCell hq _).setCell hq _).setCell hq _).setCell hq _
theorem comePC (b room:Nat) (M:List Pt) (px py:Int) (pi:Nat) (w:World) (hm:MapU MKP w b (findK Pt.id M) M.length) (ha:Asc Pt.id M) (hl:M.length<1000000) (hpi:pi<4294967296) :
 Calls Tryz.prog 63 #[.map (some b),.int .i64 (room:Int),.int .u32 (pi:Int),.agg #[.int .i64 px,.int .i64 py,.int .u32 (pi:Int)]] w fun e w'=>
  (∃v,e=.returned v∧RepAt w' v (comeM Pt.id room M ⟨px,py,pi⟩).2)∧MapU MKP w' b (findK Pt.id (comeM Pt.id room M ⟨px,py,pi⟩).1) (comeM Pt.id room M ⟨px,py,pi⟩).1.length∧Upd [b] w w':=by
 have hu:Upd [] w ((w.alloc (.cells #[.int .i64 px,.int .i64 py,.int .u32 (pi:Int)] 62)).alloc (.cells repZ 39)):=((Upd.refl _ _).alloc _).alloc _
 have hc7:∀k,((w.alloc (.cells #[.int .i64 px,.int .i64 py,.int .u32 (pi:Int)] 62)).alloc (.cells repZ 39)).cell? ⟨w.heap.size,k,none⟩=(#[.int .i64 px,.int .i64 py,.int .u32 (pi:Int)]:Array Value)[k]?:=fun k=>by
  rw [World.cell?_alloc_past _ _ _ (by simp),World.cell?_alloc_at _ _ _ _ rfl]
 have hc8:((w.alloc (.cells #[.int .i64 px,.int .i64 py,.int .u32 (pi:Int)] 62)).alloc (.cells repZ 39)).heap[w.heap.size+1]? = some (.cells repZ 39 (0,0)):=by
  have:=heap_alloc_new (w.alloc (.cells #[.int .i64 px,.int .i64 py,.int .u32 (pi:Int)] 62)) (.cells repZ 39)
  simpa using this
 obtain ⟨r,hr⟩:∃r,comeM Pt.id room M ⟨px,py,pi⟩=r:=⟨_,rfl⟩
 rw [hr]
 have hbl:=hm.lt
 have HM:=Lib.hid (And.intro hm (And.intro ha (And.intro hl (And.intro hpi hbl))))
 have HR:=Lib.hid hr
 have HU:=Lib.hid hu
 have HC:=Lib.hid (And.intro hc7 hc8)
 clear hm ha hl hpi hr hu hc7 hc8 hbl
 go_enter Tryz.func63,Tryz.ntmps63
 go_upto_region 1 with fail
 generalize ((w.alloc (.cells #[.int .i64 px,.int .i64 py,.int .u32 (pi:Int)] 62)).alloc (.cells repZ 39))=W at HU HC ⊢
 obtain ⟨fz,hfz⟩:∃z,findK Pt.id M pi=z:=⟨_,rfl⟩
 have hlook:=(HM.out.1.upd HU.out (by simp)).look (x:=pi) HM.out.2.2.2.1
 rw [hfz] at hlook
 have hcome:=HR.out
 unfold comeM at hcome
 dsimp only at hcome
 rw [hfz] at hcome
 cases fz with
 |some y=>
  obtain ⟨yx,yy,yi⟩:=y
  have hl1:(Instr.lookup 67 (.map (some b)) (.int .u32 (pi:Int)) true).run Tryz.prog W=.ok (.tuple #[.agg #[.int .i64 yx,.int .i64 yy,.int .u32 (yi:Int)],.bool true]) W:=hlook
  simp only [Option.isSome_some,↓reduceIte] at hcome
  have HCM:=Lib.hid hcome
  clear hlook hfz hcome
  go_upto_region 3 with fail
  have hu2:Upd [] w (W.alloc (.cells #[.int .i64 yx,.int .i64 yy,.int .u32 (yi:Int)] 62)):=HU.out.alloc _
  have hrp:RpAt (W.alloc (.cells #[.int .i64 yx,.int .i64 yy,.int .u32 (yi:Int)] 62)) (w.heap.size+1) repZ:=RpAt.upd HC.out.2 ((Upd.refl [] W).alloc _) (by simp)
  generalize (W.alloc (.cells #[.int .i64 yx,.int .i64 yy,.int .u32 (yi:Int)] 62))=W2 at hu2 hrp ⊢
  have HW2:=Lib.hid hu2
  clear hu2 hl1
  obtain ⟨f0,f1,f2,f3,f4,f5⟩:_∧_∧_∧_∧_∧_:=⟨hrp.frozen 0,hrp.frozen 1,hrp.frozen 2,hrp.frozen 3,hrp.frozen 4,hrp.frozen 5⟩
  have c0:W2.cell? ⟨w.heap.size+1,0,none⟩=some (.int .i64 0):=hrp.cell 0
  have c1:W2.cell? ⟨w.heap.size+1,1,none⟩=some (.slice none 0 0):=hrp.cell 1
  have c2:W2.cell? ⟨w.heap.size+1,2,none⟩=some (.int .i64 0):=hrp.cell 2
  have c3:W2.cell? ⟨w.heap.size+1,3,none⟩=some (.bool false):=hrp.cell 3
  have c4:W2.cell? ⟨w.heap.size+1,4,none⟩=some (.int .u64 0):=hrp.cell 4
  have c5:W2.cell? ⟨w.heap.size+1,5,none⟩=some (.int .u64 0):=hrp.cell 5
  have HP:=Lib.hid (And.intro (hrp.put (.int .i64 262) (.slice none 0 0) (.int .i64 0) (.bool false) (.int .u64 0) (.int .u64 0)) (upd_put (q:=w.heap.size+1) HW2.out (.inr (Nat.le_succ _)) (.int .i64 262) (.slice none 0 0) (.int .i64 0) (.bool false) (.int .u64 0) (.int .u64 0)))
  clear hrp
  go_wp2_with fail
  have y0:=HP.out.1.cell 0
  have y1:=HP.out.1.cell 1
  have y2:=HP.out.1.cell 2
  have y3:=HP.out.1.cell 3
  have y4:=HP.out.1.cell 4
  have y5:=HP.out.1.cell 5
  simp only [List.getElem?_toArray,List.getElem?_cons_zero,List.getElem?_cons_succ] at y0 y1 y2 y3 y4 y5
  refine bodyPost_ret (v:=repV 262 0 false (.slice none 0 0) 0 0) ?_ rfl ⟨⟨_,rfl,by rw [←HCM.out];exact repAt_err _ _⟩,?_,HP.out.2.mono (by simp)⟩
  ·simp [repV,results,Tryz.results63,go_sem,y0,y1,y2,y3,y4,y5]
  ·rw [←HCM.out]
   exact HM.out.1.upd HP.out.2 (by simp)
 |none=>
  have hl1:(Instr.lookup 67 (.map (some b)) (.int .u32 (pi:Int)) true).run Tryz.prog W=.ok (.tuple #[.agg #[.int .i64 0,.int .i64 0,.int .u32 0],.bool false]) W:=hlook
  simp only [Option.isSome_none,Bool.false_eq_true,↓reduceIte] at hcome
  have HFZ:=Lib.hid hfz
  clear hlook hfz
  have hu2:Upd [] w (W.alloc (.cells #[.int .i64 0,.int .i64 0,.int .u32 0] 62)):=HU.out.alloc _
  have hrp:RpAt (W.alloc (.cells #[.int .i64 0,.int .i64 0,.int .u32 0] 62)) (w.heap.size+1) repZ:=RpAt.upd HC.out.2 ((Upd.refl [] W).alloc _) (by simp)
  have hcx:=fun k=>(((Upd.refl [] W).alloc (.cells #[.int .i64 0,.int .i64 0,.int .u32 0] 62)).cell (p:=⟨w.heap.size,k,none⟩) (show w.heap.size<W.heap.size by have:=lt_of_block HC.out.2;omega) (by simp)).trans (HC.out.1 k)
  by_cases hroom:room≤M.length
  ·have dr:decide (room≤M.length)=true:=decide_eq_true hroom
   rw [if_pos hroom] at hcome
   have HCM:=Lib.hid hcome
   have hlen:=(HM.out.1.upd hu2 (by simp)).len 3
   have hlen':(Builtin.len_ #[67] 3 #[.map (some b)]).run Tryz.prog (W.alloc (.cells #[.int .i64 0,.int .i64 0,.int .u32 0] 62))=.ok (.int .i64 M.length) (W.alloc (.cells #[.int .i64 0,.int .i64 0,.int .u32 0] 62)):=hlen
   have HX:=Lib.hid (And.intro hu2 hrp)
   clear hcome hroom hlen hu2 hrp hcx
   go_upto_region 5 with fail
   obtain ⟨hu2,hrp⟩:=HX.out
   clear hlen' HX
   generalize (W.alloc (.cells #[.int .i64 0,.int .i64 0,.int .u32 0] 62))=W2 at hu2 hrp ⊢
   have HW2:=Lib.hid hu2
   clear hu2 hl1
   obtain ⟨f0,f1,f2,f3,f4,f5⟩:_∧_∧_∧_∧_∧_:=⟨hrp.frozen 0,hrp.frozen 1,hrp.frozen 2,hrp.frozen 3,hrp.frozen 4,hrp.frozen 5⟩
   have c0:W2.cell? ⟨w.heap.size+1,0,none⟩=some (.int .i64 0):=hrp.cell 0
   have c1:W2.cell? ⟨w.heap.size+1,1,none⟩=some (.slice none 0 0):=hrp.cell 1
   have c2:W2.cell? ⟨w.heap.size+1,2,none⟩=some (.int .i64 0):=hrp.cell 2
   have c3:W2.cell? ⟨w.heap.size+1,3,none⟩=some (.bool false):=hrp.cell 3
   have c4:W2.cell? ⟨w.heap.size+1,4,none⟩=some (.int .u64 0):=hrp.cell 4
   have c5:W2.cell? ⟨w.heap.size+1,5,none⟩=some (.int .u64 0):=hrp.cell 5
   have HP:=Lib.hid (And.intro (hrp.put (.int .i64 5) (.slice none 0 0) (.int .i64 0) (.bool false) (.int .u64 0) (.int .u64 0)) (upd_put (q:=w.heap.size+1) HW2.out (.inr (Nat.le_succ _)) (.int .i64 5) (.slice none 0 0) (.int .i64 0) (.bool false) (.int .u64 0) (.int .u64 0)))
   clear hrp
   go_wp2_with fail
   have y0:=HP.out.1.cell 0
   have y1:=HP.out.1.cell 1
   have y2:=HP.out.1.cell 2
   have y3:=HP.out.1.cell 3
   have y4:=HP.out.1.cell 4
   have y5:=HP.out.1.cell 5
   simp only [List.getElem?_toArray,List.getElem?_cons_zero,List.getElem?_cons_succ] at y0 y1 y2 y3 y4 y5
   refine bodyPost_ret (v:=repV 5 0 false (.slice none 0 0) 0 0) ?_ rfl ⟨⟨_,rfl,by rw [←HCM.out];exact repAt_err _ _⟩,?_,HP.out.2.mono (by simp)⟩
   ·simp [repV,results,Tryz.results63,go_sem,y0,y1,y2,y3,y4,y5]
   ·rw [←HCM.out]
    exact HM.out.1.upd HP.out.2 (by simp)
  ·have dr:decide (room≤M.length)=false:=decide_eq_false hroom
   rw [if_neg hroom] at hcome
   have HCM:=Lib.hid hcome
   have hlen:=(HM.out.1.upd hu2 (by simp)).len 3
   have hlen':(Builtin.len_ #[67] 3 #[.map (some b)]).run Tryz.prog (W.alloc (.cells #[.int .i64 0,.int .i64 0,.int .u32 0] 62))=.ok (.int .i64 M.length) (W.alloc (.cells #[.int .i64 0,.int .i64 0,.int .u32 0] 62)):=hlen
   have HX:=Lib.hid (And.intro hu2 (And.intro hrp hcx))
   clear hcome hroom hlen hu2 hrp hcx
   go_upto_region 6 with fail
   obtain ⟨hu2,hrp,hcx⟩:=HX.out
   clear hlen' HX hl1
   generalize (W.alloc (.cells #[.int .i64 0,.int .i64 0,.int .u32 0] 62))=W2 at hu2 hrp hcx ⊢
   obtain ⟨n1,hn1⟩:∃n,M.length+1=n:=⟨_,rfl⟩
   obtain ⟨w3,hrun,hm3,hu3,hsz3⟩:=(HM.out.1.upd hu2 (by simp)).put (x:=pi) HM.out.2.2.2.1 ⟨px,py,pi⟩ (by have:=HM.out.2.2.1;unfold maxLen;omega)
   have hrun':(Instr.mapUpdate 67 (.map (some b)) (.int .u32 (pi:Int)) (.agg #[.int .i64 px,.int .i64 py,.int .u32 (pi:Int)])).run Tryz.prog W2=.ok () w3:=hrun
   rw [HFZ.out,hn1] at hm3
   have hf3:(fun y=>if y=pi then some (⟨px,py,pi⟩:Pt) else findK Pt.id M y)=findK Pt.id (insA Pt.id ⟨px,py,pi⟩ M):=by
    funext y
    exact (findK_ins HM.out.2.1 (x:=⟨px,py,pi⟩) HFZ.out y).symm
   rw [hf3] at hm3
   have hlen3:(Builtin.len_ #[67] 3 #[.map (some b)]).run Tryz.prog w3=.ok (.int .i64 n1) w3:=hm3.len 3
   have hrp:=hrp.upd hu3 (by have:=HM.out.2.2.2.2;simp;omega)
   have hu13:Upd [b] w w3:=(hu2.mono (by simp)).trans hu3
   have x0:=hcx 0
   have x1:=hcx 1
   have x2:=hcx 2
   simp only [List.getElem?_toArray,List.getElem?_cons_zero,List.getElem?_cons_succ] at x0 x1 x2
   have HW3:=Lib.hid (And.intro hu13 (And.intro hm3 hn1))
   clear hu2 hcx hrun hm3 hf3 hu3 hu13 hn1 hsz3
   obtain ⟨f0,f1,f2,f3,f4,f5⟩:_∧_∧_∧_∧_∧_:=⟨hrp.frozen 0,hrp.frozen 1,hrp.frozen 2,hrp.frozen 3,hrp.frozen 4,hrp.frozen 5⟩
   have c0:w3.cell? ⟨w.heap.size+1,0,none⟩=some (.int .i64 0):=hrp.cell 0
   have c1:w3.cell? ⟨w.heap.size+1,1,none⟩=some (.slice none 0 0):=hrp.cell 1
   have c2:w3.cell? ⟨w.heap.size+1,2,none⟩=some (.int .i64 0):=hrp.cell 2
   have c3:w3.cell? ⟨w.heap.size+1,3,none⟩=some (.bool false):=hrp.cell 3
   have c4:w3.cell? ⟨w.heap.size+1,4,none⟩=some (.int .u64 0):=hrp.cell 4
   have c5:w3.cell? ⟨w.heap.size+1,5,none⟩=some (.int .u64 0):=hrp.cell 5
   have HP:=Lib.hid (And.intro (hrp.put (.int .i64 0) (.slice none 0 0) (.int .i64 n1) (.bool false) (.int .u64 0) (.int .u64 0)) (upd_put (q:=w.heap.size+1) HW3.out.1 (.inr (Nat.le_succ _)) (.int .i64 0) (.slice none 0 0) (.int .i64 n1) (.bool false) (.int .u64 0) (.int .u64 0)))
   clear hrp
   go_wp2_with fail
   have y0:=HP.out.1.cell 0
   have y1:=HP.out.1.cell 1
   have y2:=HP.out.1.cell 2
   have y3:=HP.out.1.cell 3
   have y4:=HP.out.1.cell 4
   have y5:=HP.out.1.cell 5
   simp only [List.getElem?_toArray,List.getElem?_cons_zero,List.getElem?_cons_succ] at y0 y1 y2 y3 y4 y5
   refine bodyPost_ret (v:=repV 0 n1 false (.slice none 0 0) 0 0) ?_ rfl ⟨⟨_,rfl,by rw [←HCM.out,HW3.out.2.2];exact repAt_cnt _ _⟩,?_,HP.out.2⟩
   ·simp [repV,results,Tryz.results63,go_sem,y0,y1,y2,y3,y4,y5]
   ·rw [←HCM.out]
    dsimp only
    rw [ins_len HM.out.2.1 HFZ.out,HW3.out.2.2]
    refine HW3.out.2.1.upd (upd_put (q:=w.heap.size+1) (Upd.refl [w.heap.size+1] _) (.inl (by simp)) _ _ _ _ _ _) ?_
    have:=HM.out.2.2.2.2
    simp;omega
theorem comeSC (b room:Nat) (M:List Sp) (plo phi:Int) (pi:Nat) (w:World) (hm:MapU MKS w b (findK Sp.id M) M.length) (ha:Asc Sp.id M) (hl:M.length<1000000) (hpi:pi<4294967296) :
 Calls Tryz.prog 65 #[.map (some b),.int .i64 (room:Int),.int .u32 (pi:Int),.agg #[.int .i64 plo,.int .i64 phi,.int .u32 (pi:Int)]] w fun e w'=>
  (∃v,e=.returned v∧RepAt w' v (comeM Sp.id room M ⟨plo,phi,pi⟩).2)∧MapU MKS w' b (findK Sp.id (comeM Sp.id room M ⟨plo,phi,pi⟩).1) (comeM Sp.id room M ⟨plo,phi,pi⟩).1.length∧Upd [b] w w':=by
 have hu:Upd [] w ((w.alloc (.cells #[.int .i64 plo,.int .i64 phi,.int .u32 (pi:Int)] 54)).alloc (.cells repZ 39)):=((Upd.refl _ _).alloc _).alloc _
 have hc7:∀k,((w.alloc (.cells #[.int .i64 plo,.int .i64 phi,.int .u32 (pi:Int)] 54)).alloc (.cells repZ 39)).cell? ⟨w.heap.size,k,none⟩=(#[.int .i64 plo,.int .i64 phi,.int .u32 (pi:Int)]:Array Value)[k]?:=fun k=>by
  rw [World.cell?_alloc_past _ _ _ (by simp),World.cell?_alloc_at _ _ _ _ rfl]
 have hc8:((w.alloc (.cells #[.int .i64 plo,.int .i64 phi,.int .u32 (pi:Int)] 54)).alloc (.cells repZ 39)).heap[w.heap.size+1]? = some (.cells repZ 39 (0,0)):=by
  have:=heap_alloc_new (w.alloc (.cells #[.int .i64 plo,.int .i64 phi,.int .u32 (pi:Int)] 54)) (.cells repZ 39)
  simpa using this
 obtain ⟨r,hr⟩:∃r,comeM Sp.id room M ⟨plo,phi,pi⟩=r:=⟨_,rfl⟩
 rw [hr]
 have hbl:=hm.lt
 have HM:=Lib.hid (And.intro hm (And.intro ha (And.intro hl (And.intro hpi hbl))))
 have HR:=Lib.hid hr
 have HU:=Lib.hid hu
 have HC:=Lib.hid (And.intro hc7 hc8)
 clear hm ha hl hpi hr hu hc7 hc8 hbl
 go_enter Tryz.func65,Tryz.ntmps65
 go_upto_region 1 with fail
 generalize ((w.alloc (.cells #[.int .i64 plo,.int .i64 phi,.int .u32 (pi:Int)] 54)).alloc (.cells repZ 39))=W at HU HC ⊢
 obtain ⟨fz,hfz⟩:∃z,findK Sp.id M pi=z:=⟨_,rfl⟩
 have hlook:=(HM.out.1.upd HU.out (by simp)).look (x:=pi) HM.out.2.2.2.1
 rw [hfz] at hlook
 have hcome:=HR.out
 unfold comeM at hcome
 dsimp only at hcome
 rw [hfz] at hcome
 cases fz with
 |some y=>
  obtain ⟨ylo,yhi,yi⟩:=y
  have hl1:(Instr.lookup 68 (.map (some b)) (.int .u32 (pi:Int)) true).run Tryz.prog W=.ok (.tuple #[.agg #[.int .i64 ylo,.int .i64 yhi,.int .u32 (yi:Int)],.bool true]) W:=hlook
  simp only [Option.isSome_some,↓reduceIte] at hcome
  have HCM:=Lib.hid hcome
  clear hlook hfz hcome
  go_upto_region 3 with fail
  have hu2:Upd [] w (W.alloc (.cells #[.int .i64 ylo,.int .i64 yhi,.int .u32 (yi:Int)] 54)):=HU.out.alloc _
  have hrp:RpAt (W.alloc (.cells #[.int .i64 ylo,.int .i64 yhi,.int .u32 (yi:Int)] 54)) (w.heap.size+1) repZ:=RpAt.upd HC.out.2 ((Upd.refl [] W).alloc _) (by simp)
  generalize (W.alloc (.cells #[.int .i64 ylo,.int .i64 yhi,.int .u32 (yi:Int)] 54))=W2 at hu2 hrp ⊢
  have HW2:=Lib.hid hu2
  clear hu2 hl1
  obtain ⟨f0,f1,f2,f3,f4,f5⟩:_∧_∧_∧_∧_∧_:=⟨hrp.frozen 0,hrp.frozen 1,hrp.frozen 2,hrp.frozen 3,hrp.frozen 4,hrp.frozen 5⟩
  have c0:W2.cell? ⟨w.heap.size+1,0,none⟩=some (.int .i64 0):=hrp.cell 0
  have c1:W2.cell? ⟨w.heap.size+1,1,none⟩=some (.slice none 0 0):=hrp.cell 1
  have c2:W2.cell? ⟨w.heap.size+1,2,none⟩=some (.int .i64 0):=hrp.cell 2
  have c3:W2.cell? ⟨w.heap.size+1,3,none⟩=some (.bool false):=hrp.cell 3
  have c4:W2.cell? ⟨w.heap.size+1,4,none⟩=some (.int .u64 0):=hrp.cell 4
  have c5:W2.cell? ⟨w.heap.size+1,5,none⟩=some (.int .u64 0):=hrp.cell 5
  have HP:=Lib.hid (And.intro (hrp.put (.int .i64 262) (.slice none 0 0) (.int .i64 0) (.bool false) (.int .u64 0) (.int .u64 0)) (upd_put (q:=w.heap.size+1) HW2.out (.inr (Nat.le_succ _)) (.int .i64 262) (.slice none 0 0) (.int .i64 0) (.bool false) (.int .u64 0) (.int .u64 0)))
  clear hrp
  go_wp2_with fail
  have y0:=HP.out.1.cell 0
  have y1:=HP.out.1.cell 1
  have y2:=HP.out.1.cell 2
  have y3:=HP.out.1.cell 3
  have y4:=HP.out.1.cell 4
  have y5:=HP.out.1.cell 5
  simp only [List.getElem?_toArray,List.getElem?_cons_zero,List.getElem?_cons_succ] at y0 y1 y2 y3 y4 y5
  refine bodyPost_ret (v:=repV 262 0 false (.slice none 0 0) 0 0) ?_ rfl ⟨⟨_,rfl,by rw [←HCM.out];exact repAt_err _ _⟩,?_,HP.out.2.mono (by simp)⟩
  ·simp [repV,results,Tryz.results65,go_sem,y0,y1,y2,y3,y4,y5]
  ·rw [←HCM.out]
   exact HM.out.1.upd HP.out.2 (by simp)
 |none=>
  have hl1:(Instr.lookup 68 (.map (some b)) (.int .u32 (pi:Int)) true).run Tryz.prog W=.ok (.tuple #[.agg #[.int .i64 0,.int .i64 0,.int .u32 0],.bool false]) W:=hlook
  simp only [Option.isSome_none,Bool.false_eq_true,↓reduceIte] at hcome
  have HFZ:=Lib.hid hfz
  clear hlook hfz
  have hu2:Upd [] w (W.alloc (.cells #[.int .i64 0,.int .i64 0,.int .u32 0] 54)):=HU.out.alloc _
  have hrp:RpAt (W.alloc (.cells #[.int .i64 0,.int .i64 0,.int .u32 0] 54)) (w.heap.size+1) repZ:=RpAt.upd HC.out.2 ((Upd.refl [] W).alloc _) (by simp)
  have hcx:=fun k=>(((Upd.refl [] W).alloc (.cells #[.int .i64 0,.int .i64 0,.int .u32 0] 54)).cell (p:=⟨w.heap.size,k,none⟩) (show w.heap.size<W.heap.size by have:=lt_of_block HC.out.2;omega) (by simp)).trans (HC.out.1 k)
  by_cases hroom:room≤M.length
  ·have dr:decide (room≤M.length)=true:=decide_eq_true hroom
   rw [if_pos hroom] at hcome
   have HCM:=Lib.hid hcome
   have hlen:=(HM.out.1.upd hu2 (by simp)).len 3
   have hlen':(Builtin.len_ #[68] 3 #[.map (some b)]).run Tryz.prog (W.alloc (.cells #[.int .i64 0,.int .i64 0,.int .u32 0] 54))=.ok (.int .i64 M.length) (W.alloc (.cells #[.int .i64 0,.int .i64 0,.int .u32 0] 54)):=hlen
   have HX:=Lib.hid (And.intro hu2 hrp)
   clear hcome hroom hlen hu2 hrp hcx
   go_upto_region 5 with fail
   obtain ⟨hu2,hrp⟩:=HX.out
   clear hlen' HX
   generalize (W.alloc (.cells #[.int .i64 0,.int .i64 0,.int .u32 0] 54))=W2 at hu2 hrp ⊢
   have HW2:=Lib.hid hu2
   clear hu2 hl1
   obtain ⟨f0,f1,f2,f3,f4,f5⟩:_∧_∧_∧_∧_∧_:=⟨hrp.frozen 0,hrp.frozen 1,hrp.frozen 2,hrp.frozen 3,hrp.frozen 4,hrp.frozen 5⟩
   have c0:W2.cell? ⟨w.heap.size+1,0,none⟩=some (.int .i64 0):=hrp.cell 0
   have c1:W2.cell? ⟨w.heap.size+1,1,none⟩=some (.slice none 0 0):=hrp.cell 1
   have c2:W2.cell? ⟨w.heap.size+1,2,none⟩=some (.int .i64 0):=hrp.cell 2
   have c3:W2.cell? ⟨w.heap.size+1,3,none⟩=some (.bool false):=hrp.cell 3
   have c4:W2.cell? ⟨w.heap.size+1,4,none⟩=some (.int .u64 0):=hrp.cell 4
   have c5:W2.cell? ⟨w.heap.size+1,5,none⟩=some (.int .u64 0):=hrp.cell 5
   have HP:=Lib.hid (And.intro (hrp.put (.int .i64 5) (.slice none 0 0) (.int .i64 0) (.bool false) (.int .u64 0) (.int .u64 0)) (upd_put (q:=w.heap.size+1) HW2.out (.inr (Nat.le_succ _)) (.int .i64 5) (.slice none 0 0) (.int .i64 0) (.bool false) (.int .u64 0) (.int .u64 0)))
   clear hrp
   go_wp2_with fail
   have y0:=HP.out.1.cell 0
   have y1:=HP.out.1.cell 1
   have y2:=HP.out.1.cell 2
   have y3:=HP.out.1.cell 3
   have y4:=HP.out.1.cell 4
   have y5:=HP.out.1.cell 5
   simp only [List.getElem?_toArray,List.getElem?_cons_zero,List.getElem?_cons_succ] at y0 y1 y2 y3 y4 y5
   refine bodyPost_ret (v:=repV 5 0 false (.slice none 0 0) 0 0) ?_ rfl ⟨⟨_,rfl,by rw [←HCM.out];exact repAt_err _ _⟩,?_,HP.out.2.mono (by simp)⟩
   ·simp [repV,results,Tryz.results65,go_sem,y0,y1,y2,y3,y4,y5]
   ·rw [←HCM.out]
    exact HM.out.1.upd HP.out.2 (by simp)
  ·have dr:decide (room≤M.length)=false:=decide_eq_false hroom
   rw [if_neg hroom] at hcome
   have HCM:=Lib.hid hcome
   have hlen:=(HM.out.1.upd hu2 (by simp)).len 3
   have hlen':(Builtin.len_ #[68] 3 #[.map (some b)]).run Tryz.prog (W.alloc (.cells #[.int .i64 0,.int .i64 0,.int .u32 0] 54))=.ok (.int .i64 M.length) (W.alloc (.cells #[.int .i64 0,.int .i64 0,.int .u32 0] 54)):=hlen
   have HX:=Lib.hid (And.intro hu2 (And.intro hrp hcx))
   clear hcome hroom hlen hu2 hrp hcx
   go_upto_region 6 with fail
   obtain ⟨hu2,hrp,hcx⟩:=HX.out
   clear hlen' HX hl1
   generalize (W.alloc (.cells #[.int .i64 0,.int .i64 0,.int .u32 0] 54))=W2 at hu2 hrp hcx ⊢
   obtain ⟨n1,hn1⟩:∃n,M.length+1=n:=⟨_,rfl⟩
   obtain ⟨w3,hrun,hm3,hu3,hsz3⟩:=(HM.out.1.upd hu2 (by simp)).put (x:=pi) HM.out.2.2.2.1 ⟨plo,phi,pi⟩ (by have:=HM.out.2.2.1;unfold maxLen;omega)
   have hrun':(Instr.mapUpdate 68 (.map (some b)) (.int .u32 (pi:Int)) (.agg #[.int .i64 plo,.int .i64 phi,.int .u32 (pi:Int)])).run Tryz.prog W2=.ok () w3:=hrun
   rw [HFZ.out,hn1] at hm3
   have hf3:(fun y=>if y=pi then some (⟨plo,phi,pi⟩:Sp) else findK Sp.id M y)=findK Sp.id (insA Sp.id ⟨plo,phi,pi⟩ M):=by
    funext y
    exact (findK_ins HM.out.2.1 (x:=⟨plo,phi,pi⟩) HFZ.out y).symm
   rw [hf3] at hm3
   have hlen3:(Builtin.len_ #[68] 3 #[.map (some b)]).run Tryz.prog w3=.ok (.int .i64 n1) w3:=hm3.len 3
   have hrp:=hrp.upd hu3 (by have:=HM.out.2.2.2.2;simp;omega)
   have hu13:Upd [b] w w3:=(hu2.mono (by simp)).trans hu3
   have x0:=hcx 0
   have x1:=hcx 1
   have x2:=hcx 2
   simp only [List.getElem?_toArray,List.getElem?_cons_zero,List.getElem?_cons_succ] at x0 x1 x2
   have HW3:=Lib.hid (And.intro hu13 (And.intro hm3 hn1))
   clear hu2 hcx hrun hm3 hf3 hu3 hu13 hn1 hsz3
   obtain ⟨f0,f1,f2,f3,f4,f5⟩:_∧_∧_∧_∧_∧_:=⟨hrp.frozen 0,hrp.frozen 1,hrp.frozen 2,hrp.frozen 3,hrp.frozen 4,hrp.frozen 5⟩
   have c0:w3.cell? ⟨w.heap.size+1,0,none⟩=some (.int .i64 0):=hrp.cell 0
   have c1:w3.cell? ⟨w.heap.size+1,1,none⟩=some (.slice none 0 0):=hrp.cell 1
   have c2:w3.cell? ⟨w.heap.size+1,2,none⟩=some (.int .i64 0):=hrp.cell 2
   have c3:w3.cell? ⟨w.heap.size+1,3,none⟩=some (.bool false):=hrp.cell 3
   have c4:w3.cell? ⟨w.heap.size+1,4,none⟩=some (.int .u64 0):=hrp.cell 4
   have c5:w3.cell? ⟨w.heap.size+1,5,none⟩=some (.int .u64 0):=hrp.cell 5
   have HP:=Lib.hid (And.intro (hrp.put (.int .i64 0) (.slice none 0 0) (.int .i64 n1) (.bool false) (.int .u64 0) (.int .u64 0)) (upd_put (q:=w.heap.size+1) HW3.out.1 (.inr (Nat.le_succ _)) (.int .i64 0) (.slice none 0 0) (.int .i64 n1) (.bool false) (.int .u64 0) (.int .u64 0)))
   clear hrp
   go_wp2_with fail
   have y0:=HP.out.1.cell 0
   have y1:=HP.out.1.cell 1
   have y2:=HP.out.1.cell 2
   have y3:=HP.out.1.cell 3
   have y4:=HP.out.1.cell 4
   have y5:=HP.out.1.cell 5
   simp only [List.getElem?_toArray,List.getElem?_cons_zero,List.getElem?_cons_succ] at y0 y1 y2 y3 y4 y5
   refine bodyPost_ret (v:=repV 0 n1 false (.slice none 0 0) 0 0) ?_ rfl ⟨⟨_,rfl,by rw [←HCM.out,HW3.out.2.2];exact repAt_cnt _ _⟩,?_,HP.out.2⟩
   ·simp [repV,results,Tryz.results65,go_sem,y0,y1,y2,y3,y4,y5]
   ·rw [←HCM.out]
    dsimp only
    rw [ins_len HM.out.2.1 HFZ.out,HW3.out.2.2]
    refine HW3.out.2.1.upd (upd_put (q:=w.heap.size+1) (Upd.refl [w.heap.size+1] _) (.inl (by simp)) _ _ _ _ _ _) ?_
    have:=HM.out.2.2.2.2
    simp;omega
theorem comeBC (b room:Nat) (M:List Bx) (px1 px2 py1 py2:Int) (pi:Nat) (w:World) (hm:MapU MKB w b (findK Bx.id M) M.length) (ha:Asc Bx.id M) (hl:M.length<1000000) (hpi:pi<4294967296) :
 Calls Tryz.prog 67 #[.map (some b),.int .i64 (room:Int),.int .u32 (pi:Int),.agg #[.int .i64 px1,.int .i64 px2,.int .i64 py1,.int .i64 py2,.int .u32 (pi:Int)]] w fun e w'=>
  (∃v,e=.returned v∧RepAt w' v (comeM Bx.id room M ⟨px1,px2,py1,py2,pi⟩).2)∧MapU MKB w' b (findK Bx.id (comeM Bx.id room M ⟨px1,px2,py1,py2,pi⟩).1) (comeM Bx.id room M ⟨px1,px2,py1,py2,pi⟩).1.length∧Upd [b] w w':=by
 have hu:Upd [] w ((w.alloc (.cells #[.int .i64 px1,.int .i64 px2,.int .i64 py1,.int .i64 py2,.int .u32 (pi:Int)] 59)).alloc (.cells repZ 39)):=((Upd.refl _ _).alloc _).alloc _
 have hc7:∀k,((w.alloc (.cells #[.int .i64 px1,.int .i64 px2,.int .i64 py1,.int .i64 py2,.int .u32 (pi:Int)] 59)).alloc (.cells repZ 39)).cell? ⟨w.heap.size,k,none⟩=(#[.int .i64 px1,.int .i64 px2,.int .i64 py1,.int .i64 py2,.int .u32 (pi:Int)]:Array Value)[k]?:=fun k=>by
  rw [World.cell?_alloc_past _ _ _ (by simp),World.cell?_alloc_at _ _ _ _ rfl]
 have hc8:((w.alloc (.cells #[.int .i64 px1,.int .i64 px2,.int .i64 py1,.int .i64 py2,.int .u32 (pi:Int)] 59)).alloc (.cells repZ 39)).heap[w.heap.size+1]? = some (.cells repZ 39 (0,0)):=by
  have:=heap_alloc_new (w.alloc (.cells #[.int .i64 px1,.int .i64 px2,.int .i64 py1,.int .i64 py2,.int .u32 (pi:Int)] 59)) (.cells repZ 39)
  simpa using this
 obtain ⟨r,hr⟩:∃r,comeM Bx.id room M ⟨px1,px2,py1,py2,pi⟩=r:=⟨_,rfl⟩
 rw [hr]
 have hbl:=hm.lt
 have HM:=Lib.hid (And.intro hm (And.intro ha (And.intro hl (And.intro hpi hbl))))
 have HR:=Lib.hid hr
 have HU:=Lib.hid hu
 have HC:=Lib.hid (And.intro hc7 hc8)
 clear hm ha hl hpi hr hu hc7 hc8 hbl
 go_enter Tryz.func67,Tryz.ntmps67
 go_upto_region 1 with fail
 generalize ((w.alloc (.cells #[.int .i64 px1,.int .i64 px2,.int .i64 py1,.int .i64 py2,.int .u32 (pi:Int)] 59)).alloc (.cells repZ 39))=W at HU HC ⊢
 obtain ⟨fz,hfz⟩:∃z,findK Bx.id M pi=z:=⟨_,rfl⟩
 have hlook:=(HM.out.1.upd HU.out (by simp)).look (x:=pi) HM.out.2.2.2.1
 rw [hfz] at hlook
 have hcome:=HR.out
 unfold comeM at hcome
 dsimp only at hcome
 rw [hfz] at hcome
 cases fz with
 |some y=>
  obtain ⟨yx1,yx2,yy1,yy2,yi⟩:=y
  have hl1:(Instr.lookup 69 (.map (some b)) (.int .u32 (pi:Int)) true).run Tryz.prog W=.ok (.tuple #[.agg #[.int .i64 yx1,.int .i64 yx2,.int .i64 yy1,.int .i64 yy2,.int .u32 (yi:Int)],.bool true]) W:=hlook
  simp only [Option.isSome_some,↓reduceIte] at hcome
  have HCM:=Lib.hid hcome
  clear hlook hfz hcome
  go_upto_region 3 with fail
  have hu2:Upd [] w (W.alloc (.cells #[.int .i64 yx1,.int .i64 yx2,.int .i64 yy1,.int .i64 yy2,.int .u32 (yi:Int)] 59)):=HU.out.alloc _
  have hrp:RpAt (W.alloc (.cells #[.int .i64 yx1,.int .i64 yx2,.int .i64 yy1,.int .i64 yy2,.int .u32 (yi:Int)] 59)) (w.heap.size+1) repZ:=RpAt.upd HC.out.2 ((Upd.refl [] W).alloc _) (by simp)
  generalize (W.alloc (.cells #[.int .i64 yx1,.int .i64 yx2,.int .i64 yy1,.int .i64 yy2,.int .u32 (yi:Int)] 59))=W2 at hu2 hrp ⊢
  have HW2:=Lib.hid hu2
  clear hu2 hl1
  obtain ⟨f0,f1,f2,f3,f4,f5⟩:_∧_∧_∧_∧_∧_:=⟨hrp.frozen 0,hrp.frozen 1,hrp.frozen 2,hrp.frozen 3,hrp.frozen 4,hrp.frozen 5⟩
  have c0:W2.cell? ⟨w.heap.size+1,0,none⟩=some (.int .i64 0):=hrp.cell 0
  have c1:W2.cell? ⟨w.heap.size+1,1,none⟩=some (.slice none 0 0):=hrp.cell 1
  have c2:W2.cell? ⟨w.heap.size+1,2,none⟩=some (.int .i64 0):=hrp.cell 2
  have c3:W2.cell? ⟨w.heap.size+1,3,none⟩=some (.bool false):=hrp.cell 3
  have c4:W2.cell? ⟨w.heap.size+1,4,none⟩=some (.int .u64 0):=hrp.cell 4
  have c5:W2.cell? ⟨w.heap.size+1,5,none⟩=some (.int .u64 0):=hrp.cell 5
  have HP:=Lib.hid (And.intro (hrp.put (.int .i64 262) (.slice none 0 0) (.int .i64 0) (.bool false) (.int .u64 0) (.int .u64 0)) (upd_put (q:=w.heap.size+1) HW2.out (.inr (Nat.le_succ _)) (.int .i64 262) (.slice none 0 0) (.int .i64 0) (.bool false) (.int .u64 0) (.int .u64 0)))
  clear hrp
  go_wp2_with fail
  have y0:=HP.out.1.cell 0
  have y1:=HP.out.1.cell 1
  have y2:=HP.out.1.cell 2
  have y3:=HP.out.1.cell 3
  have y4:=HP.out.1.cell 4
  have y5:=HP.out.1.cell 5
  simp only [List.getElem?_toArray,List.getElem?_cons_zero,List.getElem?_cons_succ] at y0 y1 y2 y3 y4 y5
  refine bodyPost_ret (v:=repV 262 0 false (.slice none 0 0) 0 0) ?_ rfl ⟨⟨_,rfl,by rw [←HCM.out];exact repAt_err _ _⟩,?_,HP.out.2.mono (by simp)⟩
  ·simp [repV,results,Tryz.results67,go_sem,y0,y1,y2,y3,y4,y5]
  ·rw [←HCM.out]
   exact HM.out.1.upd HP.out.2 (by simp)
 |none=>
  have hl1:(Instr.lookup 69 (.map (some b)) (.int .u32 (pi:Int)) true).run Tryz.prog W=.ok (.tuple #[.agg #[.int .i64 0,.int .i64 0,.int .i64 0,.int .i64 0,.int .u32 0],.bool false]) W:=hlook
  simp only [Option.isSome_none,Bool.false_eq_true,↓reduceIte] at hcome
  have HFZ:=Lib.hid hfz
  clear hlook hfz
  have hu2:Upd [] w (W.alloc (.cells #[.int .i64 0,.int .i64 0,.int .i64 0,.int .i64 0,.int .u32 0] 59)):=HU.out.alloc _
  have hrp:RpAt (W.alloc (.cells #[.int .i64 0,.int .i64 0,.int .i64 0,.int .i64 0,.int .u32 0] 59)) (w.heap.size+1) repZ:=RpAt.upd HC.out.2 ((Upd.refl [] W).alloc _) (by simp)
  have hcx:=fun k=>(((Upd.refl [] W).alloc (.cells #[.int .i64 0,.int .i64 0,.int .i64 0,.int .i64 0,.int .u32 0] 59)).cell (p:=⟨w.heap.size,k,none⟩) (show w.heap.size<W.heap.size by have:=lt_of_block HC.out.2;omega) (by simp)).trans (HC.out.1 k)
  by_cases hroom:room≤M.length
  ·have dr:decide (room≤M.length)=true:=decide_eq_true hroom
   rw [if_pos hroom] at hcome
   have HCM:=Lib.hid hcome
   have hlen:=(HM.out.1.upd hu2 (by simp)).len 3
   have hlen':(Builtin.len_ #[69] 3 #[.map (some b)]).run Tryz.prog (W.alloc (.cells #[.int .i64 0,.int .i64 0,.int .i64 0,.int .i64 0,.int .u32 0] 59))=.ok (.int .i64 M.length) (W.alloc (.cells #[.int .i64 0,.int .i64 0,.int .i64 0,.int .i64 0,.int .u32 0] 59)):=hlen
   have HX:=Lib.hid (And.intro hu2 hrp)
   clear hcome hroom hlen hu2 hrp hcx
   go_upto_region 5 with fail
   obtain ⟨hu2,hrp⟩:=HX.out
   clear hlen' HX
   generalize (W.alloc (.cells #[.int .i64 0,.int .i64 0,.int .i64 0,.int .i64 0,.int .u32 0] 59))=W2 at hu2 hrp ⊢
   have HW2:=Lib.hid hu2
   clear hu2 hl1
   obtain ⟨f0,f1,f2,f3,f4,f5⟩:_∧_∧_∧_∧_∧_:=⟨hrp.frozen 0,hrp.frozen 1,hrp.frozen 2,hrp.frozen 3,hrp.frozen 4,hrp.frozen 5⟩
   have c0:W2.cell? ⟨w.heap.size+1,0,none⟩=some (.int .i64 0):=hrp.cell 0
   have c1:W2.cell? ⟨w.heap.size+1,1,none⟩=some (.slice none 0 0):=hrp.cell 1
   have c2:W2.cell? ⟨w.heap.size+1,2,none⟩=some (.int .i64 0):=hrp.cell 2
   have c3:W2.cell? ⟨w.heap.size+1,3,none⟩=some (.bool false):=hrp.cell 3
   have c4:W2.cell? ⟨w.heap.size+1,4,none⟩=some (.int .u64 0):=hrp.cell 4
   have c5:W2.cell? ⟨w.heap.size+1,5,none⟩=some (.int .u64 0):=hrp.cell 5
   have HP:=Lib.hid (And.intro (hrp.put (.int .i64 5) (.slice none 0 0) (.int .i64 0) (.bool false) (.int .u64 0) (.int .u64 0)) (upd_put (q:=w.heap.size+1) HW2.out (.inr (Nat.le_succ _)) (.int .i64 5) (.slice none 0 0) (.int .i64 0) (.bool false) (.int .u64 0) (.int .u64 0)))
   clear hrp
   go_wp2_with fail
   have y0:=HP.out.1.cell 0
   have y1:=HP.out.1.cell 1
   have y2:=HP.out.1.cell 2
   have y3:=HP.out.1.cell 3
   have y4:=HP.out.1.cell 4
   have y5:=HP.out.1.cell 5
   simp only [List.getElem?_toArray,List.getElem?_cons_zero,List.getElem?_cons_succ] at y0 y1 y2 y3 y4 y5
   refine bodyPost_ret (v:=repV 5 0 false (.slice none 0 0) 0 0) ?_ rfl ⟨⟨_,rfl,by rw [←HCM.out];exact repAt_err _ _⟩,?_,HP.out.2.mono (by simp)⟩
   ·simp [repV,results,Tryz.results67,go_sem,y0,y1,y2,y3,y4,y5]
   ·rw [←HCM.out]
    exact HM.out.1.upd HP.out.2 (by simp)
  ·have dr:decide (room≤M.length)=false:=decide_eq_false hroom
   rw [if_neg hroom] at hcome
   have HCM:=Lib.hid hcome
   have hlen:=(HM.out.1.upd hu2 (by simp)).len 3
   have hlen':(Builtin.len_ #[69] 3 #[.map (some b)]).run Tryz.prog (W.alloc (.cells #[.int .i64 0,.int .i64 0,.int .i64 0,.int .i64 0,.int .u32 0] 59))=.ok (.int .i64 M.length) (W.alloc (.cells #[.int .i64 0,.int .i64 0,.int .i64 0,.int .i64 0,.int .u32 0] 59)):=hlen
   have HX:=Lib.hid (And.intro hu2 (And.intro hrp hcx))
   clear hcome hroom hlen hu2 hrp hcx
   go_upto_region 6 with fail
   obtain ⟨hu2,hrp,hcx⟩:=HX.out
   clear hlen' HX hl1
   generalize (W.alloc (.cells #[.int .i64 0,.int .i64 0,.int .i64 0,.int .i64 0,.int .u32 0] 59))=W2 at hu2 hrp hcx ⊢
   obtain ⟨n1,hn1⟩:∃n,M.length+1=n:=⟨_,rfl⟩
   obtain ⟨w3,hrun,hm3,hu3,hsz3⟩:=(HM.out.1.upd hu2 (by simp)).put (x:=pi) HM.out.2.2.2.1 ⟨px1,px2,py1,py2,pi⟩ (by have:=HM.out.2.2.1;unfold maxLen;omega)
   have hrun':(Instr.mapUpdate 69 (.map (some b)) (.int .u32 (pi:Int)) (.agg #[.int .i64 px1,.int .i64 px2,.int .i64 py1,.int .i64 py2,.int .u32 (pi:Int)])).run Tryz.prog W2=.ok () w3:=hrun
   rw [HFZ.out,hn1] at hm3
   have hf3:(fun y=>if y=pi then some (⟨px1,px2,py1,py2,pi⟩:Bx) else findK Bx.id M y)=findK Bx.id (insA Bx.id ⟨px1,px2,py1,py2,pi⟩ M):=by
    funext y
    exact (findK_ins HM.out.2.1 (x:=⟨px1,px2,py1,py2,pi⟩) HFZ.out y).symm
   rw [hf3] at hm3
   have hlen3:(Builtin.len_ #[69] 3 #[.map (some b)]).run Tryz.prog w3=.ok (.int .i64 n1) w3:=hm3.len 3
   have hrp:=hrp.upd hu3 (by have:=HM.out.2.2.2.2;simp;omega)
   have hu13:Upd [b] w w3:=(hu2.mono (by simp)).trans hu3
   have x0:=hcx 0
   have x1:=hcx 1
   have x2:=hcx 2
   have x3:=hcx 3
   have x4:=hcx 4
   simp only [List.getElem?_toArray,List.getElem?_cons_zero,List.getElem?_cons_succ] at x0 x1 x2 x3 x4
   have HW3:=Lib.hid (And.intro hu13 (And.intro hm3 hn1))
   clear hu2 hcx hrun hm3 hf3 hu3 hu13 hn1 hsz3
   obtain ⟨f0,f1,f2,f3,f4,f5⟩:_∧_∧_∧_∧_∧_:=⟨hrp.frozen 0,hrp.frozen 1,hrp.frozen 2,hrp.frozen 3,hrp.frozen 4,hrp.frozen 5⟩
   have c0:w3.cell? ⟨w.heap.size+1,0,none⟩=some (.int .i64 0):=hrp.cell 0
   have c1:w3.cell? ⟨w.heap.size+1,1,none⟩=some (.slice none 0 0):=hrp.cell 1
   have c2:w3.cell? ⟨w.heap.size+1,2,none⟩=some (.int .i64 0):=hrp.cell 2
   have c3:w3.cell? ⟨w.heap.size+1,3,none⟩=some (.bool false):=hrp.cell 3
   have c4:w3.cell? ⟨w.heap.size+1,4,none⟩=some (.int .u64 0):=hrp.cell 4
   have c5:w3.cell? ⟨w.heap.size+1,5,none⟩=some (.int .u64 0):=hrp.cell 5
   have HP:=Lib.hid (And.intro (hrp.put (.int .i64 0) (.slice none 0 0) (.int .i64 n1) (.bool false) (.int .u64 0) (.int .u64 0)) (upd_put (q:=w.heap.size+1) HW3.out.1 (.inr (Nat.le_succ _)) (.int .i64 0) (.slice none 0 0) (.int .i64 n1) (.bool false) (.int .u64 0) (.int .u64 0)))
   clear hrp
   go_wp2_with fail
   have y0:=HP.out.1.cell 0
   have y1:=HP.out.1.cell 1
   have y2:=HP.out.1.cell 2
   have y3:=HP.out.1.cell 3
   have y4:=HP.out.1.cell 4
   have y5:=HP.out.1.cell 5
   simp only [List.getElem?_toArray,List.getElem?_cons_zero,List.getElem?_cons_succ] at y0 y1 y2 y3 y4 y5
   refine bodyPost_ret (v:=repV 0 n1 false (.slice none 0 0) 0 0) ?_ rfl ⟨⟨_,rfl,by rw [←HCM.out,HW3.out.2.2];exact repAt_cnt _ _⟩,?_,HP.out.2⟩
   ·simp [repV,results,Tryz.results67,go_sem,y0,y1,y2,y3,y4,y5]
   ·rw [←HCM.out]
    dsimp only
    rw [ins_len HM.out.2.1 HFZ.out,HW3.out.2.2]
    refine HW3.out.2.1.upd (upd_put (q:=w.heap.size+1) (Upd.refl [w.heap.size+1] _) (.inl (by simp)) _ _ _ _ _ _) ?_
    have:=HM.out.2.2.2.2
    simp;omega
theorem losePC (b:Nat) (M:List Pt) (pi:Nat) (w:World) (hm:MapU MKP w b (findK Pt.id M) M.length) (ha:Asc Pt.id M) (hpi:pi<4294967296) :
 Calls Tryz.prog 68 #[.map (some b),.int .u32 (pi:Int)] w fun e w'=>
  (∃v,e=.returned v∧RepAt w' v (loseM Pt.id M pi).2)∧MapU MKP w' b (findK Pt.id (loseM Pt.id M pi).1) (loseM Pt.id M pi).1.length∧Upd [b] w w':=by
 have hu:Upd [] w (w.alloc (.cells repZ 39)):=(Upd.refl _ _).alloc _
 have hc8:RpAt (w.alloc (.cells repZ 39)) w.heap.size repZ:=heap_alloc_new w _
 obtain ⟨r,hr⟩:∃r,loseM Pt.id M pi=r:=⟨_,rfl⟩
 rw [hr]
 have hbl:=hm.lt
 have HM:=Lib.hid (And.intro hm (And.intro ha (And.intro hpi hbl)))
 have HR:=Lib.hid hr
 have HU:=Lib.hid hu
 have HC:=Lib.hid hc8
 clear hm ha hpi hr hu hc8 hbl
 go_enter Tryz.func68,Tryz.ntmps68
 go_upto_region 1 with fail
 generalize (w.alloc (.cells repZ 39))=W at HU HC ⊢
 obtain ⟨fz,hfz⟩:∃z,findK Pt.id M pi=z:=⟨_,rfl⟩
 have hlook:=(HM.out.1.upd HU.out (by simp)).look (x:=pi) HM.out.2.2.1
 rw [hfz] at hlook
 have hcome:=HR.out
 unfold loseM at hcome
 rw [hfz] at hcome
 cases fz with
 |none=>
  have hl1:(Instr.lookup 67 (.map (some b)) (.int .u32 (pi:Int)) true).run Tryz.prog W=.ok (.tuple #[.agg #[.int .i64 0,.int .i64 0,.int .u32 0],.bool false]) W:=hlook
  simp only [Option.isSome_none,Bool.false_eq_true,↓reduceIte] at hcome
  have HCM:=Lib.hid hcome
  clear hlook hfz hcome
  go_upto_region 3 with fail
  have hu2:Upd [] w (W.alloc (.cells #[.int .i64 0,.int .i64 0,.int .u32 0] 62)):=HU.out.alloc _
  have hrp:RpAt (W.alloc (.cells #[.int .i64 0,.int .i64 0,.int .u32 0] 62)) w.heap.size repZ:=RpAt.upd HC.out ((Upd.refl [] W).alloc _) (by simp)
  generalize (W.alloc (.cells #[.int .i64 0,.int .i64 0,.int .u32 0] 62))=W2 at hu2 hrp ⊢
  have HW2:=Lib.hid hu2
  clear hu2 hl1
  obtain ⟨f0,f1,f2,f3,f4,f5⟩:_∧_∧_∧_∧_∧_:=⟨hrp.frozen 0,hrp.frozen 1,hrp.frozen 2,hrp.frozen 3,hrp.frozen 4,hrp.frozen 5⟩
  have c0:W2.cell? ⟨w.heap.size,0,none⟩=some (.int .i64 0):=hrp.cell 0
  have c1:W2.cell? ⟨w.heap.size,1,none⟩=some (.slice none 0 0):=hrp.cell 1
  have c2:W2.cell? ⟨w.heap.size,2,none⟩=some (.int .i64 0):=hrp.cell 2
  have c3:W2.cell? ⟨w.heap.size,3,none⟩=some (.bool false):=hrp.cell 3
  have c4:W2.cell? ⟨w.heap.size,4,none⟩=some (.int .u64 0):=hrp.cell 4
  have c5:W2.cell? ⟨w.heap.size,5,none⟩=some (.int .u64 0):=hrp.cell 5
  have HP:=Lib.hid (And.intro (hrp.put (.int .i64 263) (.slice none 0 0) (.int .i64 0) (.bool false) (.int .u64 0) (.int .u64 0)) (upd_put (q:=w.heap.size) HW2.out (.inr (Nat.le_refl _)) (.int .i64 263) (.slice none 0 0) (.int .i64 0) (.bool false) (.int .u64 0) (.int .u64 0)))
  clear hrp
  go_wp2_with fail
  have y0:=HP.out.1.cell 0
  have y1:=HP.out.1.cell 1
  have y2:=HP.out.1.cell 2
  have y3:=HP.out.1.cell 3
  have y4:=HP.out.1.cell 4
  have y5:=HP.out.1.cell 5
  simp only [List.getElem?_toArray,List.getElem?_cons_zero,List.getElem?_cons_succ] at y0 y1 y2 y3 y4 y5
  refine bodyPost_ret (v:=repV 263 0 false (.slice none 0 0) 0 0) ?_ rfl ⟨⟨_,rfl,by rw [←HCM.out];exact repAt_err _ _⟩,?_,HP.out.2.mono (by simp)⟩
  ·simp [repV,results,Tryz.results68,go_sem,y0,y1,y2,y3,y4,y5]
  ·rw [←HCM.out]
   exact HM.out.1.upd HP.out.2 (by simp)
 |some y=>
  obtain ⟨yx,yy,yi⟩:=y
  have hl1:(Instr.lookup 67 (.map (some b)) (.int .u32 (pi:Int)) true).run Tryz.prog W=.ok (.tuple #[.agg #[.int .i64 yx,.int .i64 yy,.int .u32 (yi:Int)],.bool true]) W:=hlook
  simp only [Option.isSome_some,↓reduceIte] at hcome
  have HCM:=Lib.hid hcome
  have HFZ:=Lib.hid hfz
  clear hlook hfz hcome
  have hu2:Upd [] w (W.alloc (.cells #[.int .i64 yx,.int .i64 yy,.int .u32 (yi:Int)] 62)):=HU.out.alloc _
  have hrp:RpAt (W.alloc (.cells #[.int .i64 yx,.int .i64 yy,.int .u32 (yi:Int)] 62)) w.heap.size repZ:=RpAt.upd HC.out ((Upd.refl [] W).alloc _) (by simp)
  have HX:=Lib.hid (And.intro hu2 hrp)
  clear hu2 hrp
  go_upto_region 4 with fail
  obtain ⟨hu2,hrp⟩:=HX.out
  clear HX hl1
  generalize (W.alloc (.cells #[.int .i64 yx,.int .i64 yy,.int .u32 (yi:Int)] 62))=W2 at hu2 hrp ⊢
  obtain ⟨n1,hn1⟩:∃n,M.length - 1=n:=⟨_,rfl⟩
  have hM1:1≤M.length:=by have:=del_len HM.out.2.1 HFZ.out;omega
  obtain ⟨w3,hrun,hm3,hu3,hsz3⟩:=(HM.out.1.upd hu2 (by simp)).drop (x:=pi) HM.out.2.2.1 3
  have hrun':∀ty,(Builtin.delete_ #[67,41] ty #[.map (some b),.int .u32 (pi:Int)]).run Tryz.prog W2=.ok (.tuple #[]) w3:=fun ty=>hrun
  rw [HFZ.out,hn1] at hm3
  have hf3:(fun y=>if y=pi then none else findK Pt.id M y)=findK Pt.id (delA Pt.id pi M):=by
   funext y
   exact (findK_del HM.out.2.1 pi y).symm
  rw [hf3] at hm3
  have hlen3:(Builtin.len_ #[67] 3 #[.map (some b)]).run Tryz.prog w3=.ok (.int .i64 n1) w3:=hm3.len 3
  have hrp:=hrp.upd hu3 (by have:=HM.out.2.2.2;simp;omega)
  have hu13:Upd [b] w w3:=(hu2.mono (by simp)).trans hu3
  have HW3:=Lib.hid (And.intro hu13 (And.intro hm3 (And.intro hM1 hn1)))
  clear hu2 hrun hm3 hf3 hu3 hu13 hn1 hsz3 hM1
  obtain ⟨f0,f1,f2,f3,f4,f5⟩:_∧_∧_∧_∧_∧_:=⟨hrp.frozen 0,hrp.frozen 1,hrp.frozen 2,hrp.frozen 3,hrp.frozen 4,hrp.frozen 5⟩
  have c0:w3.cell? ⟨w.heap.size,0,none⟩=some (.int .i64 0):=hrp.cell 0
  have c1:w3.cell? ⟨w.heap.size,1,none⟩=some (.slice none 0 0):=hrp.cell 1
  have c2:w3.cell? ⟨w.heap.size,2,none⟩=some (.int .i64 0):=hrp.cell 2
  have c3:w3.cell? ⟨w.heap.size,3,none⟩=some (.bool false):=hrp.cell 3
  have c4:w3.cell? ⟨w.heap.size,4,none⟩=some (.int .u64 0):=hrp.cell 4
  have c5:w3.cell? ⟨w.heap.size,5,none⟩=some (.int .u64 0):=hrp.cell 5
  have HP:=Lib.hid (And.intro (hrp.put (.int .i64 0) (.slice none 0 0) (.int .i64 n1) (.bool false) (.int .u64 0) (.int .u64 0)) (upd_put (q:=w.heap.size) HW3.out.1 (.inr (Nat.le_refl _)) (.int .i64 0) (.slice none 0 0) (.int .i64 n1) (.bool false) (.int .u64 0) (.int .u64 0)))
  clear hrp
  go_wp2_with fail
  have y0:=HP.out.1.cell 0
  have y1:=HP.out.1.cell 1
  have y2:=HP.out.1.cell 2
  have y3:=HP.out.1.cell 3
  have y4:=HP.out.1.cell 4
  have y5:=HP.out.1.cell 5
  simp only [List.getElem?_toArray,List.getElem?_cons_zero,List.getElem?_cons_succ] at y0 y1 y2 y3 y4 y5
  refine bodyPost_ret (v:=repV 0 n1 false (.slice none 0 0) 0 0) ?_ rfl ⟨⟨_,rfl,by rw [←HCM.out];dsimp only;rw [HW3.out.2.2.2];exact repAt_cnt _ _⟩,?_,HP.out.2⟩
  ·simp [repV,results,Tryz.results68,go_sem,y0,y1,y2,y3,y4,y5]
  ·rw [←HCM.out]
   dsimp only
   have hdl:=del_len HM.out.2.1 HFZ.out
   rw [show (delA Pt.id pi M).length=n1 by have:=HW3.out.2.2.2;omega]
   refine HW3.out.2.1.upd (upd_put (q:=w.heap.size) (Upd.refl [w.heap.size] _) (.inl (by simp)) _ _ _ _ _ _) ?_
   have:=HM.out.2.2.2
   simp;omega
theorem loseSC (b:Nat) (M:List Sp) (pi:Nat) (w:World) (hm:MapU MKS w b (findK Sp.id M) M.length) (ha:Asc Sp.id M) (hpi:pi<4294967296) :
 Calls Tryz.prog 69 #[.map (some b),.int .u32 (pi:Int)] w fun e w'=>
  (∃v,e=.returned v∧RepAt w' v (loseM Sp.id M pi).2)∧MapU MKS w' b (findK Sp.id (loseM Sp.id M pi).1) (loseM Sp.id M pi).1.length∧Upd [b] w w':=by
 have hu:Upd [] w (w.alloc (.cells repZ 39)):=(Upd.refl _ _).alloc _
 have hc8:RpAt (w.alloc (.cells repZ 39)) w.heap.size repZ:=heap_alloc_new w _
 obtain ⟨r,hr⟩:∃r,loseM Sp.id M pi=r:=⟨_,rfl⟩
 rw [hr]
 have hbl:=hm.lt
 have HM:=Lib.hid (And.intro hm (And.intro ha (And.intro hpi hbl)))
 have HR:=Lib.hid hr
 have HU:=Lib.hid hu
 have HC:=Lib.hid hc8
 clear hm ha hpi hr hu hc8 hbl
 go_enter Tryz.func69,Tryz.ntmps69
 go_upto_region 1 with fail
 generalize (w.alloc (.cells repZ 39))=W at HU HC ⊢
 obtain ⟨fz,hfz⟩:∃z,findK Sp.id M pi=z:=⟨_,rfl⟩
 have hlook:=(HM.out.1.upd HU.out (by simp)).look (x:=pi) HM.out.2.2.1
 rw [hfz] at hlook
 have hcome:=HR.out
 unfold loseM at hcome
 rw [hfz] at hcome
 cases fz with
 |none=>
  have hl1:(Instr.lookup 68 (.map (some b)) (.int .u32 (pi:Int)) true).run Tryz.prog W=.ok (.tuple #[.agg #[.int .i64 0,.int .i64 0,.int .u32 0],.bool false]) W:=hlook
  simp only [Option.isSome_none,Bool.false_eq_true,↓reduceIte] at hcome
  have HCM:=Lib.hid hcome
  clear hlook hfz hcome
  go_upto_region 3 with fail
  have hu2:Upd [] w (W.alloc (.cells #[.int .i64 0,.int .i64 0,.int .u32 0] 54)):=HU.out.alloc _
  have hrp:RpAt (W.alloc (.cells #[.int .i64 0,.int .i64 0,.int .u32 0] 54)) w.heap.size repZ:=RpAt.upd HC.out ((Upd.refl [] W).alloc _) (by simp)
  generalize (W.alloc (.cells #[.int .i64 0,.int .i64 0,.int .u32 0] 54))=W2 at hu2 hrp ⊢
  have HW2:=Lib.hid hu2
  clear hu2 hl1
  obtain ⟨f0,f1,f2,f3,f4,f5⟩:_∧_∧_∧_∧_∧_:=⟨hrp.frozen 0,hrp.frozen 1,hrp.frozen 2,hrp.frozen 3,hrp.frozen 4,hrp.frozen 5⟩
  have c0:W2.cell? ⟨w.heap.size,0,none⟩=some (.int .i64 0):=hrp.cell 0
  have c1:W2.cell? ⟨w.heap.size,1,none⟩=some (.slice none 0 0):=hrp.cell 1
  have c2:W2.cell? ⟨w.heap.size,2,none⟩=some (.int .i64 0):=hrp.cell 2
  have c3:W2.cell? ⟨w.heap.size,3,none⟩=some (.bool false):=hrp.cell 3
  have c4:W2.cell? ⟨w.heap.size,4,none⟩=some (.int .u64 0):=hrp.cell 4
  have c5:W2.cell? ⟨w.heap.size,5,none⟩=some (.int .u64 0):=hrp.cell 5
  have HP:=Lib.hid (And.intro (hrp.put (.int .i64 263) (.slice none 0 0) (.int .i64 0) (.bool false) (.int .u64 0) (.int .u64 0)) (upd_put (q:=w.heap.size) HW2.out (.inr (Nat.le_refl _)) (.int .i64 263) (.slice none 0 0) (.int .i64 0) (.bool false) (.int .u64 0) (.int .u64 0)))
  clear hrp
  go_wp2_with fail
  have y0:=HP.out.1.cell 0
  have y1:=HP.out.1.cell 1
  have y2:=HP.out.1.cell 2
  have y3:=HP.out.1.cell 3
  have y4:=HP.out.1.cell 4
  have y5:=HP.out.1.cell 5
  simp only [List.getElem?_toArray,List.getElem?_cons_zero,List.getElem?_cons_succ] at y0 y1 y2 y3 y4 y5
  refine bodyPost_ret (v:=repV 263 0 false (.slice none 0 0) 0 0) ?_ rfl ⟨⟨_,rfl,by rw [←HCM.out];exact repAt_err _ _⟩,?_,HP.out.2.mono (by simp)⟩
  ·simp [repV,results,Tryz.results69,go_sem,y0,y1,y2,y3,y4,y5]
  ·rw [←HCM.out]
   exact HM.out.1.upd HP.out.2 (by simp)
 |some y=>
  obtain ⟨ylo,yhi,yi⟩:=y
  have hl1:(Instr.lookup 68 (.map (some b)) (.int .u32 (pi:Int)) true).run Tryz.prog W=.ok (.tuple #[.agg #[.int .i64 ylo,.int .i64 yhi,.int .u32 (yi:Int)],.bool true]) W:=hlook
  simp only [Option.isSome_some,↓reduceIte] at hcome
  have HCM:=Lib.hid hcome
  have HFZ:=Lib.hid hfz
  clear hlook hfz hcome
  have hu2:Upd [] w (W.alloc (.cells #[.int .i64 ylo,.int .i64 yhi,.int .u32 (yi:Int)] 54)):=HU.out.alloc _
  have hrp:RpAt (W.alloc (.cells #[.int .i64 ylo,.int .i64 yhi,.int .u32 (yi:Int)] 54)) w.heap.size repZ:=RpAt.upd HC.out ((Upd.refl [] W).alloc _) (by simp)
  have HX:=Lib.hid (And.intro hu2 hrp)
  clear hu2 hrp
  go_upto_region 4 with fail
  obtain ⟨hu2,hrp⟩:=HX.out
  clear HX hl1
  generalize (W.alloc (.cells #[.int .i64 ylo,.int .i64 yhi,.int .u32 (yi:Int)] 54))=W2 at hu2 hrp ⊢
  obtain ⟨n1,hn1⟩:∃n,M.length - 1=n:=⟨_,rfl⟩
  have hM1:1≤M.length:=by have:=del_len HM.out.2.1 HFZ.out;omega
  obtain ⟨w3,hrun,hm3,hu3,hsz3⟩:=(HM.out.1.upd hu2 (by simp)).drop (x:=pi) HM.out.2.2.1 3
  have hrun':∀ty,(Builtin.delete_ #[68,41] ty #[.map (some b),.int .u32 (pi:Int)]).run Tryz.prog W2=.ok (.tuple #[]) w3:=fun ty=>hrun
  rw [HFZ.out,hn1] at hm3
  have hf3:(fun y=>if y=pi then none else findK Sp.id M y)=findK Sp.id (delA Sp.id pi M):=by
   funext y
   exact (findK_del HM.out.2.1 pi y).symm
  rw [hf3] at hm3
  have hlen3:(Builtin.len_ #[68] 3 #[.map (some b)]).run Tryz.prog w3=.ok (.int .i64 n1) w3:=hm3.len 3
  have hrp:=hrp.upd hu3 (by have:=HM.out.2.2.2;simp;omega)
  have hu13:Upd [b] w w3:=(hu2.mono (by simp)).trans hu3
  have HW3:=Lib.hid (And.intro hu13 (And.intro hm3 (And.intro hM1 hn1)))
  clear hu2 hrun hm3 hf3 hu3 hu13 hn1 hsz3 hM1
  obtain ⟨f0,f1,f2,f3,f4,f5⟩:_∧_∧_∧_∧_∧_:=⟨hrp.frozen 0,hrp.frozen 1,hrp.frozen 2,hrp.frozen 3,hrp.frozen 4,hrp.frozen 5⟩
  have c0:w3.cell? ⟨w.heap.size,0,none⟩=some (.int .i64 0):=hrp.cell 0
  have c1:w3.cell? ⟨w.heap.size,1,none⟩=some (.slice none 0 0):=hrp.cell 1
  have c2:w3.cell? ⟨w.heap.size,2,none⟩=some (.int .i64 0):=hrp.cell 2
  have c3:w3.cell? ⟨w.heap.size,3,none⟩=some (.bool false):=hrp.cell 3
  have c4:w3.cell? ⟨w.heap.size,4,none⟩=some (.int .u64 0):=hrp.cell 4
  have c5:w3.cell? ⟨w.heap.size,5,none⟩=some (.int .u64 0):=hrp.cell 5
  have HP:=Lib.hid (And.intro (hrp.put (.int .i64 0) (.slice none 0 0) (.int .i64 n1) (.bool false) (.int .u64 0) (.int .u64 0)) (upd_put (q:=w.heap.size) HW3.out.1 (.inr (Nat.le_refl _)) (.int .i64 0) (.slice none 0 0) (.int .i64 n1) (.bool false) (.int .u64 0) (.int .u64 0)))
  clear hrp
  go_wp2_with fail
  have y0:=HP.out.1.cell 0
  have y1:=HP.out.1.cell 1
  have y2:=HP.out.1.cell 2
  have y3:=HP.out.1.cell 3
  have y4:=HP.out.1.cell 4
  have y5:=HP.out.1.cell 5
  simp only [List.getElem?_toArray,List.getElem?_cons_zero,List.getElem?_cons_succ] at y0 y1 y2 y3 y4 y5
  refine bodyPost_ret (v:=repV 0 n1 false (.slice none 0 0) 0 0) ?_ rfl ⟨⟨_,rfl,by rw [←HCM.out];dsimp only;rw [HW3.out.2.2.2];exact repAt_cnt _ _⟩,?_,HP.out.2⟩
  ·simp [repV,results,Tryz.results69,go_sem,y0,y1,y2,y3,y4,y5]
  ·rw [←HCM.out]
   dsimp only
   have hdl:=del_len HM.out.2.1 HFZ.out
   rw [show (delA Sp.id pi M).length=n1 by have:=HW3.out.2.2.2;omega]
   refine HW3.out.2.1.upd (upd_put (q:=w.heap.size) (Upd.refl [w.heap.size] _) (.inl (by simp)) _ _ _ _ _ _) ?_
   have:=HM.out.2.2.2
   simp;omega
theorem loseBC (b:Nat) (M:List Bx) (pi:Nat) (w:World) (hm:MapU MKB w b (findK Bx.id M) M.length) (ha:Asc Bx.id M) (hpi:pi<4294967296) :
 Calls Tryz.prog 70 #[.map (some b),.int .u32 (pi:Int)] w fun e w'=>
  (∃v,e=.returned v∧RepAt w' v (loseM Bx.id M pi).2)∧MapU MKB w' b (findK Bx.id (loseM Bx.id M pi).1) (loseM Bx.id M pi).1.length∧Upd [b] w w':=by
 have hu:Upd [] w (w.alloc (.cells repZ 39)):=(Upd.refl _ _).alloc _
 have hc8:RpAt (w.alloc (.cells repZ 39)) w.heap.size repZ:=heap_alloc_new w _
 obtain ⟨r,hr⟩:∃r,loseM Bx.id M pi=r:=⟨_,rfl⟩
 rw [hr]
 have hbl:=hm.lt
 have HM:=Lib.hid (And.intro hm (And.intro ha (And.intro hpi hbl)))
 have HR:=Lib.hid hr
 have HU:=Lib.hid hu
 have HC:=Lib.hid hc8
 clear hm ha hpi hr hu hc8 hbl
 go_enter Tryz.func70,Tryz.ntmps70
 go_upto_region 1 with fail
 generalize (w.alloc (.cells repZ 39))=W at HU HC ⊢
 obtain ⟨fz,hfz⟩:∃z,findK Bx.id M pi=z:=⟨_,rfl⟩
 have hlook:=(HM.out.1.upd HU.out (by simp)).look (x:=pi) HM.out.2.2.1
 rw [hfz] at hlook
 have hcome:=HR.out
 unfold loseM at hcome
 rw [hfz] at hcome
 cases fz with
 |none=>
  have hl1:(Instr.lookup 69 (.map (some b)) (.int .u32 (pi:Int)) true).run Tryz.prog W=.ok (.tuple #[.agg #[.int .i64 0,.int .i64 0,.int .i64 0,.int .i64 0,.int .u32 0],.bool false]) W:=hlook
  simp only [Option.isSome_none,Bool.false_eq_true,↓reduceIte] at hcome
  have HCM:=Lib.hid hcome
  clear hlook hfz hcome
  go_upto_region 3 with fail
  have hu2:Upd [] w (W.alloc (.cells #[.int .i64 0,.int .i64 0,.int .i64 0,.int .i64 0,.int .u32 0] 59)):=HU.out.alloc _
  have hrp:RpAt (W.alloc (.cells #[.int .i64 0,.int .i64 0,.int .i64 0,.int .i64 0,.int .u32 0] 59)) w.heap.size repZ:=RpAt.upd HC.out ((Upd.refl [] W).alloc _) (by simp)
  generalize (W.alloc (.cells #[.int .i64 0,.int .i64 0,.int .i64 0,.int .i64 0,.int .u32 0] 59))=W2 at hu2 hrp ⊢
  have HW2:=Lib.hid hu2
  clear hu2 hl1
  obtain ⟨f0,f1,f2,f3,f4,f5⟩:_∧_∧_∧_∧_∧_:=⟨hrp.frozen 0,hrp.frozen 1,hrp.frozen 2,hrp.frozen 3,hrp.frozen 4,hrp.frozen 5⟩
  have c0:W2.cell? ⟨w.heap.size,0,none⟩=some (.int .i64 0):=hrp.cell 0
  have c1:W2.cell? ⟨w.heap.size,1,none⟩=some (.slice none 0 0):=hrp.cell 1
  have c2:W2.cell? ⟨w.heap.size,2,none⟩=some (.int .i64 0):=hrp.cell 2
  have c3:W2.cell? ⟨w.heap.size,3,none⟩=some (.bool false):=hrp.cell 3
  have c4:W2.cell? ⟨w.heap.size,4,none⟩=some (.int .u64 0):=hrp.cell 4
  have c5:W2.cell? ⟨w.heap.size,5,none⟩=some (.int .u64 0):=hrp.cell 5
  have HP:=Lib.hid (And.intro (hrp.put (.int .i64 263) (.slice none 0 0) (.int .i64 0) (.bool false) (.int .u64 0) (.int .u64 0)) (upd_put (q:=w.heap.size) HW2.out (.inr (Nat.le_refl _)) (.int .i64 263) (.slice none 0 0) (.int .i64 0) (.bool false) (.int .u64 0) (.int .u64 0)))
  clear hrp
  go_wp2_with fail
  have y0:=HP.out.1.cell 0
  have y1:=HP.out.1.cell 1
  have y2:=HP.out.1.cell 2
  have y3:=HP.out.1.cell 3
  have y4:=HP.out.1.cell 4
  have y5:=HP.out.1.cell 5
  simp only [List.getElem?_toArray,List.getElem?_cons_zero,List.getElem?_cons_succ] at y0 y1 y2 y3 y4 y5
  refine bodyPost_ret (v:=repV 263 0 false (.slice none 0 0) 0 0) ?_ rfl ⟨⟨_,rfl,by rw [←HCM.out];exact repAt_err _ _⟩,?_,HP.out.2.mono (by simp)⟩
  ·simp [repV,results,Tryz.results70,go_sem,y0,y1,y2,y3,y4,y5]
  ·rw [←HCM.out]
   exact HM.out.1.upd HP.out.2 (by simp)
 |some y=>
  obtain ⟨yx1,yx2,yy1,yy2,yi⟩:=y
  have hl1:(Instr.lookup 69 (.map (some b)) (.int .u32 (pi:Int)) true).run Tryz.prog W=.ok (.tuple #[.agg #[.int .i64 yx1,.int .i64 yx2,.int .i64 yy1,.int .i64 yy2,.int .u32 (yi:Int)],.bool true]) W:=hlook
  simp only [Option.isSome_some,↓reduceIte] at hcome
  have HCM:=Lib.hid hcome
  have HFZ:=Lib.hid hfz
  clear hlook hfz hcome
  have hu2:Upd [] w (W.alloc (.cells #[.int .i64 yx1,.int .i64 yx2,.int .i64 yy1,.int .i64 yy2,.int .u32 (yi:Int)] 59)):=HU.out.alloc _
  have hrp:RpAt (W.alloc (.cells #[.int .i64 yx1,.int .i64 yx2,.int .i64 yy1,.int .i64 yy2,.int .u32 (yi:Int)] 59)) w.heap.size repZ:=RpAt.upd HC.out ((Upd.refl [] W).alloc _) (by simp)
  have HX:=Lib.hid (And.intro hu2 hrp)
  clear hu2 hrp
  go_upto_region 4 with fail
  obtain ⟨hu2,hrp⟩:=HX.out
  clear HX hl1
  generalize (W.alloc (.cells #[.int .i64 yx1,.int .i64 yx2,.int .i64 yy1,.int .i64 yy2,.int .u32 (yi:Int)] 59))=W2 at hu2 hrp ⊢
  obtain ⟨n1,hn1⟩:∃n,M.length - 1=n:=⟨_,rfl⟩
  have hM1:1≤M.length:=by have:=del_len HM.out.2.1 HFZ.out;omega
  obtain ⟨w3,hrun,hm3,hu3,hsz3⟩:=(HM.out.1.upd hu2 (by simp)).drop (x:=pi) HM.out.2.2.1 3
  have hrun':∀ty,(Builtin.delete_ #[69,41] ty #[.map (some b),.int .u32 (pi:Int)]).run Tryz.prog W2=.ok (.tuple #[]) w3:=fun ty=>hrun
  rw [HFZ.out,hn1] at hm3
  have hf3:(fun y=>if y=pi then none else findK Bx.id M y)=findK Bx.id (delA Bx.id pi M):=by
   funext y
   exact (findK_del HM.out.2.1 pi y).symm
  rw [hf3] at hm3
  have hlen3:(Builtin.len_ #[69] 3 #[.map (some b)]).run Tryz.prog w3=.ok (.int .i64 n1) w3:=hm3.len 3
  have hrp:=hrp.upd hu3 (by have:=HM.out.2.2.2;simp;omega)
  have hu13:Upd [b] w w3:=(hu2.mono (by simp)).trans hu3
  have HW3:=Lib.hid (And.intro hu13 (And.intro hm3 (And.intro hM1 hn1)))
  clear hu2 hrun hm3 hf3 hu3 hu13 hn1 hsz3 hM1
  obtain ⟨f0,f1,f2,f3,f4,f5⟩:_∧_∧_∧_∧_∧_:=⟨hrp.frozen 0,hrp.frozen 1,hrp.frozen 2,hrp.frozen 3,hrp.frozen 4,hrp.frozen 5⟩
  have c0:w3.cell? ⟨w.heap.size,0,none⟩=some (.int .i64 0):=hrp.cell 0
  have c1:w3.cell? ⟨w.heap.size,1,none⟩=some (.slice none 0 0):=hrp.cell 1
  have c2:w3.cell? ⟨w.heap.size,2,none⟩=some (.int .i64 0):=hrp.cell 2
  have c3:w3.cell? ⟨w.heap.size,3,none⟩=some (.bool false):=hrp.cell 3
  have c4:w3.cell? ⟨w.heap.size,4,none⟩=some (.int .u64 0):=hrp.cell 4
  have c5:w3.cell? ⟨w.heap.size,5,none⟩=some (.int .u64 0):=hrp.cell 5
  have HP:=Lib.hid (And.intro (hrp.put (.int .i64 0) (.slice none 0 0) (.int .i64 n1) (.bool false) (.int .u64 0) (.int .u64 0)) (upd_put (q:=w.heap.size) HW3.out.1 (.inr (Nat.le_refl _)) (.int .i64 0) (.slice none 0 0) (.int .i64 n1) (.bool false) (.int .u64 0) (.int .u64 0)))
  clear hrp
  go_wp2_with fail
  have y0:=HP.out.1.cell 0
  have y1:=HP.out.1.cell 1
  have y2:=HP.out.1.cell 2
  have y3:=HP.out.1.cell 3
  have y4:=HP.out.1.cell 4
  have y5:=HP.out.1.cell 5
  simp only [List.getElem?_toArray,List.getElem?_cons_zero,List.getElem?_cons_succ] at y0 y1 y2 y3 y4 y5
  refine bodyPost_ret (v:=repV 0 n1 false (.slice none 0 0) 0 0) ?_ rfl ⟨⟨_,rfl,by rw [←HCM.out];dsimp only;rw [HW3.out.2.2.2];exact repAt_cnt _ _⟩,?_,HP.out.2⟩
  ·simp [repV,results,Tryz.results70,go_sem,y0,y1,y2,y3,y4,y5]
  ·rw [←HCM.out]
   dsimp only
   have hdl:=del_len HM.out.2.1 HFZ.out
   rw [show (delA Bx.id pi M).length=n1 by have:=HW3.out.2.2.2;omega]
   refine HW3.out.2.1.upd (upd_put (q:=w.heap.size) (Upd.refl [w.heap.size] _) (.inl (by simp)) _ _ _ _ _ _) ?_
   have:=HM.out.2.2.2
   simp;omega
end Go.Proofs.YtkmnbodlciepaaaGreat
