/- item: Stab, In, Over, ByY, Meet, RightSpan, RightBox; model.corner: what each hands back. item.by, ByY; model.corner. The closures of model.point and model.other. Printed by mkclo.py. The closures of model.point that ask the model again; those of model.other. Printed by mkclp.py. -/
import Derived.BigQuiet
import Derived.WalkKit
import Derived.LoopTactic
import Derived.Deep.Cut
import Derived.Deep.QuietTactic
import Derived.Deep.LoopGhost
import Derived.IntWalk
import Derived.Test.YtkmnbodlciepaaaGreatPk14
import Derived.Test.YtkmnbodlciepaaaGreatPk18
set_option maxHeartbeats 2000000
set_option maxRecDepth 100000
namespace Go.Proofs.YtkmnbodlciepaaaGreat
open Go.RowKit
theorem sideCM (lo hi:Int) (w:World):Calls Tryz.prog 39 #[.int .i64 lo,.int .i64 hi] w fun e w'=>e=.returned (.agg #[.int .i64 lo,.int .i64 hi,.int .u32 0])∧Upd [] w w':=by
 go_enter Tryz.func39,Tryz.ntmps39
 go_wp2_with fail
 exact bodyPost_ret (v:=.agg #[.int .i64 lo,.int .i64 hi,.int .u32 0]) (by simp [results,Tryz.results39,go_sem]) rfl ⟨rfl,(Upd.refl _ _).alloc _⟩
theorem stabCM (lo hi x id:Int) (w:World):Calls Tryz.prog 18 #[.agg #[.int .i64 lo,.int .i64 hi,.int .u32 id],.int .i64 x] w fun e w'=>e=.returned (.bool (stabBM lo hi x))∧Upd [] w w':=by
 unfold stabBM
 by_cases h1:lo≤x
 ·have d1:decide (lo≤x)=true:=decide_eq_true h1
  rw [d1,Bool.true_and]
  go_enter Tryz.func18,Tryz.ntmps18
  go_wp2_with fail
  go_ret
  exact ⟨rfl,(Upd.refl _ _).alloc _⟩
 ·have d1:decide (lo≤x)=false:=decide_eq_false h1
  rw [d1,Bool.false_and]
  go_enter Tryz.func18,Tryz.ntmps18
  go_wp2_with fail
  go_ret
  exact ⟨rfl,(Upd.refl _ _).alloc _⟩
theorem inCM (b:Bx) (x y id:Int) (w:World):Calls Tryz.prog 20 #[.agg #[.int .i64 x,.int .i64 y,.int .u32 id],bxV b] w fun e w'=>e=.returned (.bool (inBM b x y))∧Upd [] w w':=by
 obtain ⟨x1,x2,y1,y2,bi⟩:=b
 unfold inBM bxV
 dsimp only
 obtain ⟨s1,hs1⟩:∃s,stabBM x1 x2 x=s:=⟨_,rfl⟩
 obtain ⟨s2,hs2⟩:∃s,stabBM y1 y2 y=s:=⟨_,rfl⟩
 have g1:∀w,Calls Tryz.prog 18 #[.agg #[.int .i64 x1,.int .i64 x2,.int .u32 0],.int .i64 x] w fun e w'=>e=.returned (.bool s1)∧Upd [] w w':=fun w=>by rw [←hs1];exact stabCM x1 x2 x 0 w
 have g2:∀w,Calls Tryz.prog 18 #[.agg #[.int .i64 y1,.int .i64 y2,.int .u32 0],.int .i64 y] w fun e w'=>e=.returned (.bool s2)∧Upd [] w w':=fun w=>by rw [←hs2];exact stabCM y1 y2 y 0 w
 rw [hs1,hs2]
 have G1:=Lib.hid g1
 have G2:=Lib.hid g2
 clear g1 g2 hs1 hs2
 have hu:Upd [] w ((w.alloc (.cells #[.int .i64 x,.int .i64 y,.int .u32 id] 62)).alloc (.cells #[.int .i64 x1,.int .i64 x2,.int .i64 y1,.int .i64 y2,.int .u32 (bi:Int)] 59)):=((Upd.refl _ _).alloc _).alloc _
 have hp:∀k,((w.alloc (.cells #[.int .i64 x,.int .i64 y,.int .u32 id] 62)).alloc (.cells #[.int .i64 x1,.int .i64 x2,.int .i64 y1,.int .i64 y2,.int .u32 (bi:Int)] 59)).cell? ⟨w.heap.size,k,none⟩=#[Value.int .i64 x,.int .i64 y,.int .u32 id][k]?:=fun k=>by
  rw [World.cell?_alloc_past _ _ _ (by simp),World.cell?_alloc_at _ _ _ _ rfl]
 have hb:∀k,((w.alloc (.cells #[.int .i64 x,.int .i64 y,.int .u32 id] 62)).alloc (.cells #[.int .i64 x1,.int .i64 x2,.int .i64 y1,.int .i64 y2,.int .u32 (bi:Int)] 59)).cell? ⟨w.heap.size+1,k,none⟩=#[Value.int .i64 x1,.int .i64 x2,.int .i64 y1,.int .i64 y2,.int .u32 (bi:Int)][k]?:=fun k=>World.cell?_alloc_at _ _ _ _ (by simp)
 have hz:w.heap.size+1<((w.alloc (.cells #[.int .i64 x,.int .i64 y,.int .u32 id] 62)).alloc (.cells #[.int .i64 x1,.int .i64 x2,.int .i64 y1,.int .i64 y2,.int .u32 (bi:Int)] 59)).heap.size:=by simp
 have p0:=hp 0
 have p1:=hp 1
 have b0:=hb 0
 have b1:=hb 1
 have b2:=hb 2
 have b3:=hb 3
 simp only [List.getElem?_toArray,List.getElem?_cons_zero,List.getElem?_cons_succ] at p0 p1 b0 b1 b2 b3
 have HU:=Lib.hid hu
 clear hp hb hu
 go_enter Tryz.func20,Tryz.ntmps20
 go_upto_region 1 with fail
 generalize ((w.alloc (.cells #[.int .i64 x,.int .i64 y,.int .u32 id] 62)).alloc (.cells #[.int .i64 x1,.int .i64 x2,.int .i64 y1,.int .i64 y2,.int .u32 (bi:Int)] 59))=W at p0 p1 b0 b1 b2 b3 hz HU ⊢
 have q0:∀z:QW W,z.w.cell? ⟨w.heap.size,0,none⟩=some (.int .i64 x):=fun z=>(z.up.cell (p:=⟨w.heap.size,0,none⟩) (by dsimp only;omega) (by simp)).trans p0
 have q1:∀z:QW W,z.w.cell? ⟨w.heap.size,1,none⟩=some (.int .i64 y):=fun z=>(z.up.cell (p:=⟨w.heap.size,1,none⟩) (by dsimp only;omega) (by simp)).trans p1
 have r0:∀z:QW W,z.w.cell? ⟨w.heap.size+1,0,none⟩=some (.int .i64 x1):=fun z=>(z.up.cell (p:=⟨w.heap.size+1,0,none⟩) (by dsimp only;omega) (by simp)).trans b0
 have r1:∀z:QW W,z.w.cell? ⟨w.heap.size+1,1,none⟩=some (.int .i64 x2):=fun z=>(z.up.cell (p:=⟨w.heap.size+1,1,none⟩) (by dsimp only;omega) (by simp)).trans b1
 have r2:∀z:QW W,z.w.cell? ⟨w.heap.size+1,2,none⟩=some (.int .i64 y1):=fun z=>(z.up.cell (p:=⟨w.heap.size+1,2,none⟩) (by dsimp only;omega) (by simp)).trans b2
 have r3:∀z:QW W,z.w.cell? ⟨w.heap.size+1,3,none⟩=some (.int .i64 y2):=fun z=>(z.up.cell (p:=⟨w.heap.size+1,3,none⟩) (by dsimp only;omega) (by simp)).trans b3
 clear p0 p1 b0 b1 b2 b3 hz
 cases s1
 all_goals
  refine wp_region_quietU (by kernel_rfl) (by kernel_rfl) ?_
  repeat (go_big_quiet_step (first | (with_reducible exact Calls.quietU (sideCM _ _ _)) | (with_reducible exact Calls.quietU (G1.out _)) | (with_reducible exact Calls.quietU (G2.out _))))
  refine wpQuiet_nil ?_
  intro _ hw'
  obtain ⟨⟨wq,hwq⟩,hw''⟩:=hw'
  dsimp only at hw''
  subst hw''
  go_wp2_with fail
  go_ret
  exact ⟨rfl,HU.out.trans hwq⟩
theorem itemFirst (q:Nat) (a b:Int) (w:World) (c0:w.cell? ⟨q,0,none⟩=some (.int .i64 a)) (c1:w.cell? ⟨q,1,none⟩=some (.int .i64 b)) :
 Calls Tryz.prog 147 #[.slice (some ⟨q,0,none⟩) 2 2] w fun e w'=>e=.returned (.int .i64 (orZ a b))∧Upd [] w w':=by
 obtain ⟨r,hr⟩:∃r,orZ a b=r:=⟨_,rfl⟩
 have ha:a≠0→r=a:=fun h=>by rw [←hr];unfold orZ;rw [if_neg h]
 have hb:a=0→r=b:=fun h=>by rw [←hr];unfold orZ;rw [if_pos h]
 rw [hr]
 have HA:=Lib.hid ha
 have HB:=Lib.hid hb
 clear ha hb hr
 go_enter Tryz.func147,Tryz.ntmps147
 go_wp2_with fail
 go_loopg [7] 2 (fun m s7 wr=>∃k,m+k=2∧s7=.int .i64 (k:Int)∧(0<k→a=0)∧(1<k→b=0)∧wr=w)
 case atStart=>exact ⟨0,rfl,rfl,by simp,by simp,rfl⟩
 case round=>
  obtain ⟨k,hk,rfl,h0,h1,rfl⟩:=hrel
  rcases (by omega:k=0∨k=1∨k=2) with rfl | rfl | rfl
  ·have HK:=Lib.hid hk
   clear h0 h1 hk
   by_cases hz:a=0
   ·have z1:(a==0)=true:=by simpa using hz
    have HZ:=Lib.hid hz
    clear hz
    go_wp2_with fail
    go_roundg 1
    case measure=>have:=HK.out;omega
    case rel=>exact ⟨1,by omega,by first | rfl | go_num,fun _=>HZ.out,fun h=>by omega,rfl⟩
   ·have z1:(a==0)=false:=by simpa using hz
    have HZ:=Lib.hid hz
    clear hz
    go_wp2_with fail
    go_ret
    exact ⟨by rw [HA.out HZ.out];rfl,Upd.refl _ _⟩
  ·have HK:=Lib.hid hk
   have HZ:=Lib.hid (h0 (by omega))
   clear h0 h1 hk
   by_cases hz:b=0
   ·have z1:(b==0)=true:=by simpa using hz
    have HZ2:=Lib.hid hz
    clear hz
    go_wp2_with fail
    go_roundg 0
    case measure=>have:=HK.out;omega
    case rel=>exact ⟨2,by omega,by first | rfl | go_num,fun _=>HZ.out,fun _=>HZ2.out,rfl⟩
   ·have z1:(b==0)=false:=by simpa using hz
    clear hz
    go_wp2_with fail
    go_ret
    exact ⟨by rw [HB.out HZ.out];rfl,Upd.refl _ _⟩
  ·have HZ:=Lib.hid (h0 (by omega))
   have HZ2:=Lib.hid (h1 (by omega))
   clear h0 h1 hk
   go_wp2_with fail
   go_ret
   exact ⟨by rw [HB.out HZ.out,HZ2.out];rfl,Upd.refl _ _⟩
theorem rightSpanC (lo hi id:Int) (w:World):Calls Tryz.prog 64 #[.agg #[.int .i64 lo,.int .i64 hi,.int .u32 id]] w fun e w'=>e=.returned (.bool (decide (lo≤hi)))∧Upd [] w w':=by
 go_enter Tryz.func64,Tryz.ntmps64
 go_wp2_with fail
 go_ret
 exact ⟨rfl,(Upd.refl _ _).alloc _⟩
theorem rightBoxC (x1 x2 y1 y2 id:Int) (w:World):Calls Tryz.prog 66 #[.agg #[.int .i64 x1,.int .i64 x2,.int .i64 y1,.int .i64 y2,.int .u32 id]] w fun e w'=>e=.returned (.bool (decide (x1≤x2)&&decide (y1≤y2)))∧Upd [] w w':=by
 obtain ⟨s1,hs1⟩:∃s,decide (x1≤x2)=s:=⟨_,rfl⟩
 obtain ⟨s2,hs2⟩:∃s,decide (y1≤y2)=s:=⟨_,rfl⟩
 have g1:∀w,Calls Tryz.prog 64 #[.agg #[.int .i64 x1,.int .i64 x2,.int .u32 0]] w fun e w'=>e=.returned (.bool s1)∧Upd [] w w':=fun w=>by rw [←hs1];exact rightSpanC x1 x2 0 w
 have g2:∀w,Calls Tryz.prog 64 #[.agg #[.int .i64 y1,.int .i64 y2,.int .u32 0]] w fun e w'=>e=.returned (.bool s2)∧Upd [] w w':=fun w=>by rw [←hs2];exact rightSpanC y1 y2 0 w
 rw [hs1,hs2]
 have G1:=Lib.hid g1
 have G2:=Lib.hid g2
 clear g1 g2 hs1 hs2
 have hu:Upd [] w (w.alloc (.cells #[.int .i64 x1,.int .i64 x2,.int .i64 y1,.int .i64 y2,.int .u32 id] 59)):=(Upd.refl _ _).alloc _
 have hb:∀k,(w.alloc (.cells #[.int .i64 x1,.int .i64 x2,.int .i64 y1,.int .i64 y2,.int .u32 id] 59)).cell? ⟨w.heap.size,k,none⟩=#[Value.int .i64 x1,.int .i64 x2,.int .i64 y1,.int .i64 y2,.int .u32 id][k]?:=fun k=>World.cell?_alloc_at _ _ _ _ rfl
 have hz:w.heap.size<(w.alloc (.cells #[.int .i64 x1,.int .i64 x2,.int .i64 y1,.int .i64 y2,.int .u32 id] 59)).heap.size:=by simp
 have b0:=hb 0
 have b1:=hb 1
 have b2:=hb 2
 have b3:=hb 3
 simp only [List.getElem?_toArray,List.getElem?_cons_zero,List.getElem?_cons_succ] at b0 b1 b2 b3
 have HU:=Lib.hid hu
 clear hb hu
 go_enter Tryz.func66,Tryz.ntmps66
 go_upto_region 1 with fail
 generalize (w.alloc (.cells #[.int .i64 x1,.int .i64 x2,.int .i64 y1,.int .i64 y2,.int .u32 id] 59))=W at b0 b1 b2 b3 hz HU ⊢
 have r0:∀z:QW W,z.w.cell? ⟨w.heap.size,0,none⟩=some (.int .i64 x1):=fun z=>(z.up.cell (p:=⟨w.heap.size,0,none⟩) hz (by simp)).trans b0
 have r1:∀z:QW W,z.w.cell? ⟨w.heap.size,1,none⟩=some (.int .i64 x2):=fun z=>(z.up.cell (p:=⟨w.heap.size,1,none⟩) hz (by simp)).trans b1
 have r2:∀z:QW W,z.w.cell? ⟨w.heap.size,2,none⟩=some (.int .i64 y1):=fun z=>(z.up.cell (p:=⟨w.heap.size,2,none⟩) hz (by simp)).trans b2
 have r3:∀z:QW W,z.w.cell? ⟨w.heap.size,3,none⟩=some (.int .i64 y2):=fun z=>(z.up.cell (p:=⟨w.heap.size,3,none⟩) hz (by simp)).trans b3
 clear hz
 go_wp2_with fail
 (with_reducible refine (sideCM _ _ _).mono ?_)
 rintro e w1 ⟨rfl,u1⟩
 obtain ⟨z1,rfl⟩:∃z:QW W,z.w=w1:=⟨⟨w1,u1⟩,rfl⟩
 clear u1
 go_wp2_with fail
 (with_reducible refine (G1.out _).mono ?_)
 rintro e w1 ⟨rfl,u1⟩
 obtain ⟨z2,rfl⟩:∃z:QW W,z.w=w1:=⟨⟨w1,z1.up.trans u1⟩,rfl⟩
 clear u1
 cases s1
 ·go_wp2_with fail
  go_ret
  exact ⟨rfl,HU.out.trans z2.up⟩
 ·go_wp2_with fail
  (with_reducible refine (sideCM _ _ _).mono ?_)
  rintro e w1 ⟨rfl,u1⟩
  obtain ⟨z3,rfl⟩:∃z:QW W,z.w=w1:=⟨⟨w1,z2.up.trans u1⟩,rfl⟩
  clear u1
  go_wp2_with fail
  (with_reducible refine (G2.out _).mono ?_)
  rintro e w1 ⟨rfl,u1⟩
  obtain ⟨z4,rfl⟩:∃z:QW W,z.w=w1:=⟨⟨w1,z3.up.trans u1⟩,rfl⟩
  clear u1
  go_wp2_with fail
  go_ret
  exact ⟨rfl,HU.out.trans z4.up⟩
theorem meetC (lo hi id a b:Int) (w:World):Calls Tryz.prog 19 #[.agg #[.int .i64 lo,.int .i64 hi,.int .u32 id],.int .i64 a,.int .i64 b] w fun e w'=>e=.returned (.bool (decide (max lo a≤min hi b)))∧Upd [] w w':=by
 go_enter Tryz.func19,Tryz.ntmps19
 go_wp2_with fail
 go_ret
 exact ⟨rfl,(Upd.refl _ _).alloc _⟩
theorem overC (p q:Pt) (w:World):Calls Tryz.prog 81 #[ptV p,ptV q] w fun e w'=>e=.returned (.bool (overB p q))∧Upd [] w w':=by
 obtain ⟨px,py,pi⟩:=p
 obtain ⟨qx,qy,qi⟩:=q
 unfold overB ptV
 dsimp only
 by_cases h1:qx≤px
 ·have d1:decide (qx≤px)=true:=decide_eq_true h1
  by_cases h2:qy≤py
  ·have d2:decide (qy≤py)=true:=decide_eq_true h2
   by_cases h3:px=qx
   ·have d3:(px != qx)=false:=by simp [h3]
    have e3:decide (px=qx)=true:=decide_eq_true h3
    by_cases h4:py=qy
    ·have d4:(py != qy)=false:=by simp [h4]
     have e4:decide (py=qy)=true:=decide_eq_true h4
     rw [d1,d2,e3,e4]
     clear e3 e4 h3 h4
     go_enter Tryz.func81,Tryz.ntmps81
     go_wp2_with fail
     go_ret
     exact ⟨rfl,((Upd.refl _ _).alloc _).alloc _⟩
    ·have d4:(py != qy)=true:=by simp [h4]
     have e4:decide (py=qy)=false:=decide_eq_false h4
     rw [d1,d2,e3,e4]
     clear e3 e4 h3 h4
     go_enter Tryz.func81,Tryz.ntmps81
     go_wp2_with fail
     go_ret
     exact ⟨rfl,((Upd.refl _ _).alloc _).alloc _⟩
   ·have d3:(px != qx)=true:=by simp [h3]
    have e3:decide (px=qx)=false:=decide_eq_false h3
    rw [d1,d2,e3]
    clear e3 h3
    go_enter Tryz.func81,Tryz.ntmps81
    go_wp2_with fail
    go_ret
    exact ⟨rfl,((Upd.refl _ _).alloc _).alloc _⟩
  ·have d2:decide (qy≤py)=false:=decide_eq_false h2
   rw [d1,d2]
   go_enter Tryz.func81,Tryz.ntmps81
   go_wp2_with fail
   go_ret
   exact ⟨rfl,((Upd.refl _ _).alloc _).alloc _⟩
 ·have d1:decide (qx≤px)=false:=decide_eq_false h1
  rw [d1]
  go_enter Tryz.func81,Tryz.ntmps81
  go_wp2_with fail
  go_ret
  exact ⟨rfl,((Upd.refl _ _).alloc _).alloc _⟩
theorem compare64U (a b:Int) (w:World):Calls Tryz.prog 119 #[.int .i64 a,.int .i64 b] w fun e w'=>e=.returned (.int .i64 (cmpZ a b))∧Upd [] w w':=
 (compare64 a b w).mono fun _ _ h=>⟨h.1,h.2 ▸ Upd.refl _ _⟩
theorem cmpZ_le (a b:Int):decide (cmpZ a b≤0)=decide (a≤b):=by
 unfold cmpZ;split
 ·simp;omega
 ·split<;>simp<;>omega
theorem cmpZ_ge (a b:Int):decide (0≤cmpZ a b)=decide (b≤a):=by
 unfold cmpZ;split
 ·simp;omega
 ·split<;>simp<;>omega
theorem itemBy (a b x y:Int) (w:World):Calls Tryz.prog 120 #[.int .i64 a,.int .i64 b,.int .u32 x,.int .u32 y] w fun e w'=>e=.returned (.int .i64 (orZ (cmpZ a b) (cmpZ x y)))∧Upd [] w w':=by
 have h1:∀w,Calls Tryz.prog 119 #[.int .i64 a,.int .i64 b] w fun e w'=>e=.returned (.int .i64 (cmpZ a b))∧w=w':=fun w=>compare64 a b w
 have h2:∀w,Calls Tryz.prog 148 #[.int .u32 x,.int .u32 y] w fun e w'=>e=.returned (.int .i64 (cmpZ x y))∧w=w':=fun w=>compare32 x y w
 obtain ⟨c1,hc1⟩:∃c,cmpZ a b=c:=⟨_,rfl⟩
 obtain ⟨c2,hc2⟩:∃c,cmpZ x y=c:=⟨_,rfl⟩
 rw [hc1] at h1
 rw [hc2] at h2
 rw [hc1,hc2]
 have H1:=Lib.hid h1
 have H2:=Lib.hid h2
 clear h1 h2 hc1 hc2
 go_enter Tryz.func120,Tryz.ntmps120
 go_wp2_with (first
  |(go_at_call 119;refine (H1.out _).mono ?_;rintro e w' ⟨rfl,rfl⟩)
  |(go_at_call 148;refine (H2.out _).mono ?_;rintro e w' ⟨rfl,rfl⟩)
  |(go_at_call 147;refine (itemFirst w.heap.size c1 c2 _ (by rw [World.cell?_alloc_at _ _ _ _ rfl];rfl) (by rw [World.cell?_alloc_at _ _ _ _ rfl];rfl)).mono ?_;rintro e w1 ⟨rfl,hu⟩;have HU:=Lib.hid hu;clear hu))
 go_ret
 exact ⟨rfl,((Upd.refl [] w).alloc _).trans HU.out⟩
theorem byYC (p q:Pt) (w:World):Calls Tryz.prog 78 #[ptV p,ptV q] w fun e w'=>e=.returned (.int .i64 (orZ (cmpZ p.y q.y) (cmpZ (p.id:Int) (q.id:Int))))∧Upd [] w w':=by
 obtain ⟨px,py,pi⟩:=p
 obtain ⟨qx,qy,qi⟩:=q
 unfold ptV
 dsimp only
 have h1:=itemBy py qy (pi:Int) (qi:Int)
 obtain ⟨c,hc⟩:∃c,orZ (cmpZ py qy) (cmpZ (pi:Int) (qi:Int))=c:=⟨_,rfl⟩
 rw [hc]
 simp only [hc] at h1
 have H1:=Lib.hid h1
 clear h1 hc
 go_enter Tryz.func78,Tryz.ntmps78
 go_wp2_with (go_at_call 120;refine (H1.out _).mono ?_;rintro e w1 ⟨rfl,hu⟩;have HU:=Lib.hid hu;clear hu)
 go_ret
 exact ⟨rfl,(((Upd.refl [] w).alloc _).alloc _).trans HU.out⟩
theorem lowB_iff (p q:Pt):decide (orZ (cmpZ p.y q.y) (cmpZ (p.id:Int) (q.id:Int))<0)=lowB p q:=by
 unfold lowB orZ cmpZ
 by_cases h1:p.y<q.y
 ·simp [h1]
 ·by_cases h2:q.y<p.y
  ·have h3:¬p.y=q.y:=by omega
   simp [h1,h2,h3]
  ·have h3:p.y=q.y:=by omega
   simp only [h3,Int.lt_irrefl,if_false,if_true,decide_false,decide_true,Bool.false_or,Bool.true_and]
   by_cases h4:(p.id:Int)<(q.id:Int)
   ·simp only [h4,if_true]
    have:p.id<q.id:=by omega
    simp [this]
   ·simp only [h4,if_false]
    have:¬p.id<q.id:=by omega
    split<;>simp [this]
theorem cornerC (px py pi oc oa ob occ od oi:Int) (w:World) :
 Calls Tryz.prog 75 #[.agg #[.int .i64 px,.int .i64 py,.int .u32 pi],.agg #[.int .u8 oc,.int .i64 oa,.int .i64 ob,.int .i64 occ,.int .i64 od,.int .u32 oi]] w fun e w'=>
  e=.returned (.bool (if occ=0 then decide (px≤oa)&&decide (py≤ob) else if occ=1 then decide (oa≤px)&&decide (py≤ob) else if occ=2 then decide (px≤oa)&&decide (ob≤py) else if occ=3 then decide (oa≤px)&&decide (ob≤py) else false))∧Upd [] w w':=by
 have h1:∀w,Calls Tryz.prog 119 #[.int .i64 px,.int .i64 oa] w fun e w'=>e=.returned (.int .i64 (cmpZ px oa))∧Upd [] w w':=fun w=>compare64U px oa w
 have h2:∀w,Calls Tryz.prog 119 #[.int .i64 py,.int .i64 ob] w fun e w'=>e=.returned (.int .i64 (cmpZ py ob))∧Upd [] w w':=fun w=>compare64U py ob w
 rw [←cmpZ_le px oa,←cmpZ_ge px oa,←cmpZ_le py ob,←cmpZ_ge py ob]
 obtain ⟨c1,hc1⟩:∃c,cmpZ px oa=c:=⟨_,rfl⟩
 obtain ⟨c2,hc2⟩:∃c,cmpZ py ob=c:=⟨_,rfl⟩
 rw [hc1] at h1
 rw [hc2] at h2
 rw [hc1,hc2]
 obtain ⟨r,hr⟩:∃r,(if occ=0 then decide (c1≤0)&&decide (c2≤0) else if occ=1 then decide (0≤c1)&&decide (c2≤0) else if occ=2 then decide (c1≤0)&&decide (0≤c2) else if occ=3 then decide (0≤c1)&&decide (0≤c2) else false)=r:=⟨_,rfl⟩
 rw [hr]
 have HR:=Lib.hid hr
 have H1:=Lib.hid h1
 have H2:=Lib.hid h2
 clear h1 h2 hc1 hc2 hr
 have hu:Upd [] w ((w.alloc (.cells #[.int .i64 px,.int .i64 py,.int .u32 pi] 62)).alloc (.cells #[.int .u8 oc,.int .i64 oa,.int .i64 ob,.int .i64 occ,.int .i64 od,.int .u32 oi] 43)):=((Upd.refl _ _).alloc _).alloc _
 have hp:∀k,((w.alloc (.cells #[.int .i64 px,.int .i64 py,.int .u32 pi] 62)).alloc (.cells #[.int .u8 oc,.int .i64 oa,.int .i64 ob,.int .i64 occ,.int .i64 od,.int .u32 oi] 43)).cell? ⟨w.heap.size,k,none⟩=#[Value.int .i64 px,.int .i64 py,.int .u32 pi][k]?:=fun k=>by
  rw [World.cell?_alloc_past _ _ _ (by simp),World.cell?_alloc_at _ _ _ _ rfl]
 have hb:∀k,((w.alloc (.cells #[.int .i64 px,.int .i64 py,.int .u32 pi] 62)).alloc (.cells #[.int .u8 oc,.int .i64 oa,.int .i64 ob,.int .i64 occ,.int .i64 od,.int .u32 oi] 43)).cell? ⟨w.heap.size+1,k,none⟩=#[Value.int .u8 oc,.int .i64 oa,.int .i64 ob,.int .i64 occ,.int .i64 od,.int .u32 oi][k]?:=fun k=>World.cell?_alloc_at _ _ _ _ (by simp)
 have hz:w.heap.size+1<((w.alloc (.cells #[.int .i64 px,.int .i64 py,.int .u32 pi] 62)).alloc (.cells #[.int .u8 oc,.int .i64 oa,.int .i64 ob,.int .i64 occ,.int .i64 od,.int .u32 oi] 43)).heap.size:=by simp
 have p0:=hp 0
 have p1:=hp 1
 have b1:=hb 1
 have b2:=hb 2
 have b3:=hb 3
 simp only [List.getElem?_toArray,List.getElem?_cons_zero,List.getElem?_cons_succ] at p0 p1 b1 b2 b3
 have HU:=Lib.hid hu
 clear hp hb hu
 go_enter Tryz.func75,Tryz.ntmps75
 go_upto_region 1 with fail
 generalize ((w.alloc (.cells #[.int .i64 px,.int .i64 py,.int .u32 pi] 62)).alloc (.cells #[.int .u8 oc,.int .i64 oa,.int .i64 ob,.int .i64 occ,.int .i64 od,.int .u32 oi] 43))=W at p0 p1 b1 b2 b3 hz HU ⊢
 have q0:∀z:QW W,z.w.cell? ⟨w.heap.size,0,none⟩=some (.int .i64 px):=fun z=>(z.up.cell (p:=⟨w.heap.size,0,none⟩) (by dsimp only;omega) (by simp)).trans p0
 have q1:∀z:QW W,z.w.cell? ⟨w.heap.size,1,none⟩=some (.int .i64 py):=fun z=>(z.up.cell (p:=⟨w.heap.size,1,none⟩) (by dsimp only;omega) (by simp)).trans p1
 have r1:∀z:QW W,z.w.cell? ⟨w.heap.size+1,1,none⟩=some (.int .i64 oa):=fun z=>(z.up.cell (p:=⟨w.heap.size+1,1,none⟩) (by dsimp only;omega) (by simp)).trans b1
 have r2:∀z:QW W,z.w.cell? ⟨w.heap.size+1,2,none⟩=some (.int .i64 ob):=fun z=>(z.up.cell (p:=⟨w.heap.size+1,2,none⟩) (by dsimp only;omega) (by simp)).trans b2
 have r3:∀z:QW W,z.w.cell? ⟨w.heap.size+1,3,none⟩=some (.int .i64 occ):=fun z=>(z.up.cell (p:=⟨w.heap.size+1,3,none⟩) (by dsimp only;omega) (by simp)).trans b3
 have R3:=Lib.hid r3
 clear p0 p1 b1 b2 b3 hz
 refine wp_region_quietU (by kernel_rfl) (by kernel_rfl) ?_
 repeat (go_big_quiet_step (first | (with_reducible exact Calls.quietU (H1.out _)) | (with_reducible exact Calls.quietU (H2.out _))))
 refine wpQuiet_nil ?_
 intro _ hw'
 obtain ⟨⟨wq,hwq⟩,hw''⟩:=hw'
 dsimp only at hw''
 subst hw''
 have k3:=R3.out ⟨_,hwq⟩
 dsimp only at k3
 clear q0 q1 r1 r2 r3
 obtain ⟨l1,hl1⟩:∃l,decide (c1≤0)=l:=⟨_,rfl⟩
 obtain ⟨l2,hl2⟩:∃l,decide (c2≤0)=l:=⟨_,rfl⟩
 obtain ⟨g1,hg1⟩:∃l,decide (0≤c1)=l:=⟨_,rfl⟩
 obtain ⟨g2,hg2⟩:∃l,decide (0≤c2)=l:=⟨_,rfl⟩
 have hr:=HR.out
 rw [hl1,hl2,hg1,hg2] at hr
 by_cases e0:occ=0
 ·subst e0
  rw [if_pos rfl] at hr
  have HR2:=Lib.hid hr
  clear hr
  cases l1<;>(go_wp2_with fail;go_ret;exact ⟨by rw [←HR2.out];rfl,HU.out.trans hwq⟩)
 ·rw [if_neg e0] at hr
  have f0:(occ==0)=false:=by simpa using e0
  by_cases e1:occ=1
  ·subst e1
   rw [if_pos rfl] at hr
   have HR2:=Lib.hid hr
   clear hr
   cases g1<;>(go_wp2_with fail;go_ret;exact ⟨by rw [←HR2.out];rfl,HU.out.trans hwq⟩)
  ·rw [if_neg e1] at hr
   have f1:(occ==1)=false:=by simpa using e1
   by_cases e2:occ=2
   ·subst e2
    rw [if_pos rfl] at hr
    have HR2:=Lib.hid hr
    clear hr
    cases l1<;>(go_wp2_with fail;go_ret;exact ⟨by rw [←HR2.out];rfl,HU.out.trans hwq⟩)
   ·rw [if_neg e2] at hr
    have f2:(occ==2)=false:=by simpa using e2
    by_cases e3:occ=3
    ·subst e3
     rw [if_pos rfl] at hr
     have HR2:=Lib.hid hr
     clear hr
     cases g1<;>(go_wp2_with fail;go_ret;exact ⟨by rw [←HR2.out];rfl,HU.out.trans hwq⟩)
    ·rw [if_neg e3] at hr
     have f3:(occ==3)=false:=by simpa using e3
     have HR2:=Lib.hid hr
     clear e0 e1 e2 e3 hr
     go_wp2_with fail
     go_ret
     exact ⟨by rw [←HR2.out];rfl,HU.out.trans hwq⟩
def CelB (w:World) (B:Nat) (l:List Value):Prop:=∀k v,l[k]? = some v→w.cell? ⟨B,k,none⟩=some v
theorem CelB.upd0 {w w':World} {B:Nat} {l:List Value} (h:CelB w B l) (hu:Upd [] w w'):CelB w' B l:=fun k v hk=>(hu.cell (World.block_lt_of_cell? w _ (h k v hk)) (by simp)).trans (h k v hk)
theorem CelB.lt {w:World} {B:Nat} {l:List Value} (h:CelB w B l) {v:Value} (hv:l[0]? = some v):B<w.heap.size:=World.block_lt_of_cell? w _ (h 0 v hv)
theorem CelB.of_heap {w:World} {B:Nat} {l:List Value} {t:TypeId} {c:Nat×Nat} (h:w.heap[B]? = some (.cells l.toArray t c)):CelB w B l:=fun k v hk=>by
 simp only [World.cell?,h]
 simpa using hk
abbrev bxL (b:Bx):List Value:=[.int .i64 b.x1,.int .i64 b.x2,.int .i64 b.y1,.int .i64 b.y2,.int .u32 (b.id:Int)]
abbrev ptL (p:Pt):List Value:=[.int .i64 p.x,.int .i64 p.y,.int .u32 (p.id:Int)]
abbrev opL (o:OpP):List Value:=[.int .u8 (o.code:Int),.int .i64 o.a,.int .i64 o.b,.int .i64 o.c,.int .i64 o.d,.int .u32 (o.id:Int)]
theorem clo1C (B:Nat) (b:Bx) (px py pi:Int) (w:World) (h:CelB w B (bxL b)) :
 Calls Tryz.prog 72 #[.agg #[.int .i64 px,.int .i64 py,.int .u32 pi],.pointer (some ⟨B,0,none⟩)] w fun e w'=>e=.returned (.bool (inBM b px py))∧Upd [] w w':=by
 have hB:=h.lt rfl
 have hin:=fun w=>inCM b px py pi w
 obtain ⟨r,hr⟩:∃r,inBM b px py=r:=⟨_,rfl⟩
 rw [hr] at hin ⊢
 clear hr
 obtain ⟨x1,x2,y1,y2,bi⟩:=b
 unfold bxV at hin
 have c0:=h 0 _ rfl
 have c1:=h 1 _ rfl
 have c2:=h 2 _ rfl
 have c3:=h 3 _ rfl
 have c4:=h 4 _ rfl
 dsimp only at c0 c1 c2 c3 c4 hin
 have HI:=Lib.hid hin
 clear h hin
 go_enter Tryz.func72,Tryz.ntmps72
 go_wp2_with (go_at_call 20;refine (HI.out _).mono ?_;rintro e w1 ⟨rfl,hu⟩;have HU:=Lib.hid hu;clear hu)
 go_ret
 exact ⟨rfl,((Upd.refl [] w).alloc _).trans HU.out⟩
theorem clo2C (B:Nat) (b:Bx) (px py pi:Int) (w:World) (h:CelB w B (bxL b)) :
 Calls Tryz.prog 73 #[.agg #[.int .i64 px,.int .i64 py,.int .u32 pi],.pointer (some ⟨B,0,none⟩)] w fun e w'=>e=.returned (.bool (inBM b px py))∧Upd [] w w':=by
 have hB:=h.lt rfl
 have hin:=fun w=>inCM b px py pi w
 obtain ⟨r,hr⟩:∃r,inBM b px py=r:=⟨_,rfl⟩
 rw [hr] at hin ⊢
 clear hr
 obtain ⟨x1,x2,y1,y2,bi⟩:=b
 unfold bxV at hin
 have c0:=h 0 _ rfl
 have c1:=h 1 _ rfl
 have c2:=h 2 _ rfl
 have c3:=h 3 _ rfl
 have c4:=h 4 _ rfl
 dsimp only at c0 c1 c2 c3 c4 hin
 have HI:=Lib.hid hin
 clear h hin
 go_enter Tryz.func73,Tryz.ntmps73
 go_wp2_with (go_at_call 20;refine (HI.out _).mono ?_;rintro e w1 ⟨rfl,hu⟩;have HU:=Lib.hid hu;clear hu)
 go_ret
 exact ⟨rfl,((Upd.refl [] w).alloc _).trans HU.out⟩
theorem clo3C (B:Nat) (o:OpP) (px py pi:Int) (w:World) (h:CelB w B (opL o)) :
 Calls Tryz.prog 74 #[.agg #[.int .i64 px,.int .i64 py,.int .u32 pi],.pointer (some ⟨B,0,none⟩)] w fun e w'=>e=.returned (.bool (cornB ⟨px,py,0⟩ o.a o.b o.c))∧Upd [] w w':=by
 have hB:=h.lt rfl
 obtain ⟨oc,oa,ob,occ,od,oi⟩:=o
 have hin:=fun w=>cornerC px py pi (oc:Int) oa ob occ od (oi:Int) w
 obtain ⟨r,hr⟩:∃r,cornB ⟨px,py,0⟩ oa ob occ=r:=⟨_,rfl⟩
 have hr':=hr
 unfold cornB at hr'
 dsimp only at hr' ⊢
 rw [hr]
 rw [hr'] at hin
 clear hr hr'
 have c0:=h 0 _ rfl
 have c1:=h 1 _ rfl
 have c2:=h 2 _ rfl
 have c3:=h 3 _ rfl
 have c4:=h 4 _ rfl
 have c5:=h 5 _ rfl
 dsimp only at c0 c1 c2 c3 c4 c5
 have HI:=Lib.hid hin
 clear h hin
 go_enter Tryz.func74,Tryz.ntmps74
 go_wp2_with (go_at_call 75;refine (HI.out _).mono ?_;rintro e w1 ⟨rfl,hu⟩;have HU:=Lib.hid hu;clear hu)
 go_ret
 exact ⟨rfl,((Upd.refl [] w).alloc _).trans HU.out⟩
theorem clo41C (B Q:Nat) (b:Bx) (q:Pt) (px py:Int) (pi:Nat) (w:World) (h:CelB w B (bxL b)) (hq:CelB w Q (ptL q)) :
 Calls Tryz.prog 77 #[.agg #[.int .i64 px,.int .i64 py,.int .u32 (pi:Int)],.pointer (some ⟨B,0,none⟩),.pointer (some ⟨Q,0,none⟩)] w fun e w'=>e=.returned (.bool (inBM b px py&&lowB ⟨px,py,pi⟩ q))∧Upd [] w w':=by
 have hB:=h.lt rfl
 have hQ:=hq.lt rfl
 have hin:=fun w=>inCM b px py (pi:Int) w
 have hby:=fun w=>byYC ⟨px,py,pi⟩ q w
 rw [←lowB_iff]
 obtain ⟨r,hr⟩:∃r,inBM b px py=r:=⟨_,rfl⟩
 rw [hr] at hin ⊢
 obtain ⟨c,hc⟩:∃c,orZ (cmpZ (⟨px,py,pi⟩:Pt).y q.y) (cmpZ (((⟨px,py,pi⟩:Pt).id:Nat):Int) (q.id:Int))=c:=⟨_,rfl⟩
 simp only [hc] at hby
 rw [hc]
 clear hr hc
 obtain ⟨x1,x2,y1,y2,bi⟩:=b
 obtain ⟨qx,qy,qi⟩:=q
 unfold bxV at hin
 unfold ptV at hby
 have c0:=h 0 _ rfl
 have c1:=h 1 _ rfl
 have c2:=h 2 _ rfl
 have c3:=h 3 _ rfl
 have c4:=h 4 _ rfl
 have q0:=hq 0 _ rfl
 have q1:=hq 1 _ rfl
 have q2:=hq 2 _ rfl
 dsimp only at c0 c1 c2 c3 c4 q0 q1 q2 hin hby
 have HI:=Lib.hid hin
 have HY:=Lib.hid hby
 have a0:∀k,(w.alloc (.cells #[.int .i64 px,.int .i64 py,.int .u32 (pi:Int)] 62)).cell? ⟨w.heap.size,k,none⟩=(#[.int .i64 px,.int .i64 py,.int .u32 (pi:Int)]:Array Value)[k]?:=fun k=>World.cell?_alloc_at _ _ _ _ rfl
 have a1:∀{v:Value} k,w.cell? ⟨Q,k,none⟩=some v→(w.alloc (.cells #[.int .i64 px,.int .i64 py,.int .u32 (pi:Int)] 62)).cell? ⟨Q,k,none⟩=some v:=fun k hv=>by rw [World.cell?_alloc_past _ _ _ hQ];exact hv
 have HC:=Lib.hid (And.intro (a0 0) (And.intro (a0 1) (And.intro (a0 2) (And.intro (a1 0 q0) (And.intro (a1 1 q1) (a1 2 q2))))))
 clear h hin hby hq a0 a1
 go_enter Tryz.func77,Tryz.ntmps77
 go_wp2_with fail
 refine (HI.out _).mono ?_
 rintro e w1 ⟨rfl,hu⟩
 have HU:=Lib.hid hu
 obtain ⟨p0,p1,p2,k0,k1,k2⟩:=HC.out
 have hz:w.heap.size<(w.alloc (.cells #[.int .i64 px,.int .i64 py,.int .u32 (pi:Int)] 62)).heap.size:=by simp
 have hzq:Q<(w.alloc (.cells #[.int .i64 px,.int .i64 py,.int .u32 (pi:Int)] 62)).heap.size:=by simp;omega
 have p0:=(hu.cell (p:=⟨w.heap.size,0,none⟩) hz (by simp)).trans p0
 have p1:=(hu.cell (p:=⟨w.heap.size,1,none⟩) hz (by simp)).trans p1
 have p2:=(hu.cell (p:=⟨w.heap.size,2,none⟩) hz (by simp)).trans p2
 have k0:=(hu.cell (p:=⟨Q,0,none⟩) hzq (by simp)).trans k0
 have k1:=(hu.cell (p:=⟨Q,1,none⟩) hzq (by simp)).trans k1
 have k2:=(hu.cell (p:=⟨Q,2,none⟩) hzq (by simp)).trans k2
 simp only [List.getElem?_toArray,List.getElem?_cons_zero,List.getElem?_cons_succ] at p0 p1 p2
 clear hu hz hzq c0 c1 c2 c3 c4 q0 q1 q2
 cases r with
 |false=>
  go_wp2_with fail
  go_ret
  exact ⟨rfl,((Upd.refl [] w).alloc _).trans HU.out⟩
 |true=>
  go_wp2_with (go_at_call 78;refine (HY.out _).mono ?_;rintro e w2 ⟨rfl,hu⟩;have HU2:=Lib.hid hu;clear hu)
  go_ret
  exact ⟨rfl,(((Upd.refl [] w).alloc _).trans HU.out).trans HU2.out⟩
theorem clo51C (Q:Nat) (q:Pt) (px py:Int) (pi:Nat) (w:World) (hq:CelB w Q (ptL q)) :
 Calls Tryz.prog 80 #[.agg #[.int .i64 px,.int .i64 py,.int .u32 (pi:Int)],.pointer (some ⟨Q,0,none⟩)] w fun e w'=>e=.returned (.bool (overB ⟨px,py,pi⟩ q))∧Upd [] w w':=by
 have hQ:=hq.lt rfl
 have hov:=fun w=>overC ⟨px,py,pi⟩ q w
 obtain ⟨r,hr⟩:∃r,overB ⟨px,py,pi⟩ q=r:=⟨_,rfl⟩
 simp only [hr] at hov
 rw [hr]
 clear hr
 obtain ⟨qx,qy,qi⟩:=q
 unfold ptV at hov
 have q0:=hq 0 _ rfl
 have q1:=hq 1 _ rfl
 have q2:=hq 2 _ rfl
 dsimp only at q0 q1 q2 hov
 have HO:=Lib.hid hov
 clear hq hov
 go_enter Tryz.func80,Tryz.ntmps80
 go_wp2_with (go_at_call 81;refine (HO.out _).mono ?_;rintro e w1 ⟨rfl,hu⟩;have HU:=Lib.hid hu;clear hu)
 go_ret
 exact ⟨rfl,((Upd.refl [] w).alloc _).trans HU.out⟩
theorem len_zero {α:Type} (l:List α):((l.length:Int)==0)=l.isEmpty:=by
 cases l with
 |nil=>rfl
 |cons a l=>simp only [List.length_cons,List.isEmpty_cons,beq_eq_false_iff_ne];omega
theorem clo5C (Q h p:Nat) (M:List Pt) (px py:Int) (pi:Nat) (w:World) (hq:CelB w Q [.pointer (some ⟨h,0,none⟩)]) (hc:w.cell? ⟨h,1,none⟩=some (.map (some p))) (hm:MapU MKP w p (findK Pt.id M) M.length) (ha:Asc Pt.id M) (hl:M.length<1000000) :
 Calls Tryz.prog 79 #[.agg #[.int .i64 px,.int .i64 py,.int .u32 (pi:Int)],.pointer (some ⟨Q,0,none⟩)] w fun e w'=>e=.returned (.bool (namesM Pt.id M fun q=>overB q ⟨px,py,pi⟩).isEmpty)∧Upd [] w w':=by
 have hQ:=hq.lt rfl
 have hh:=World.block_lt_of_cell? w _ hc
 have hu0:Upd [] w (w.alloc (.cells #[.int .i64 px,.int .i64 py,.int .u32 (pi:Int)] 62)):=(Upd.refl _ _).alloc _
 have hpt:CelB (w.alloc (.cells #[.int .i64 px,.int .i64 py,.int .u32 (pi:Int)] 62)) w.heap.size (ptL ⟨px,py,pi⟩):=CelB.of_heap (heap_alloc_new w _)
 have hch:=chosenPC p M (fun q=>overB q ⟨px,py,pi⟩) 80 #[.pointer (some ⟨w.heap.size,0,none⟩)] (enters_of Tryz.func80 (by kernel_rfl) rfl) _ (hm.upd hu0 (by simp)) ha hl
  (fun W qx qy qi _ hW=>clo51C w.heap.size ⟨px,py,pi⟩ qx qy qi W (hpt.upd0 hW))
 obtain ⟨n,hn⟩:∃n,(namesM Pt.id M fun q=>overB q ⟨px,py,pi⟩).length=n:=⟨_,rfl⟩
 have hz:=len_zero (namesM Pt.id M fun q=>overB q ⟨px,py,pi⟩)
 obtain ⟨r,hr⟩:∃r,(namesM Pt.id M fun q=>overB q ⟨px,py,pi⟩).isEmpty=r:=⟨_,rfl⟩
 rw [hr]
 rw [hn,hr] at hz
 rw [hn] at hch
 have q0:=hq 0 _ rfl
 have HC:=Lib.hid hch
 clear hch hq hm ha hl hpt hu0 hr hn
 go_enter Tryz.func79,Tryz.ntmps79
 go_wp2_with (go_at_call 71;refine HC.out.mono ?_;rintro e w1 ⟨A,C,rfl,-,hu⟩;have HU:=Lib.hid hu;clear hu)
 go_ret
 exact ⟨rfl,((Upd.refl [] w).alloc _).trans HU.out⟩
theorem clo4C (B Q h p:Nat) (b:Bx) (M:List Pt) (px py:Int) (pi:Nat) (w:World) (hb:CelB w B (bxL b)) (hq:CelB w Q [.pointer (some ⟨h,0,none⟩)]) (hc:w.cell? ⟨h,1,none⟩=some (.map (some p))) (hm:MapU MKP w p (findK Pt.id M) M.length) (ha:Asc Pt.id M) (hl:M.length<1000000) :
 Calls Tryz.prog 76 #[.agg #[.int .i64 px,.int .i64 py,.int .u32 (pi:Int)],.pointer (some ⟨B,0,none⟩),.pointer (some ⟨Q,0,none⟩)] w fun e w'=>e=.returned (.bool (inBM b px py&&(namesM Pt.id M fun q=>inBM b q.x q.y&&lowB q ⟨px,py,pi⟩).isEmpty))∧Upd [] w w':=by
 have hQ:=hq.lt rfl
 have hB:=hb.lt rfl
 have hh:=World.block_lt_of_cell? w _ hc
 have hu0:Upd [] w (w.alloc (.cells #[.int .i64 px,.int .i64 py,.int .u32 (pi:Int)] 62)):=(Upd.refl _ _).alloc _
 have hpt:CelB (w.alloc (.cells #[.int .i64 px,.int .i64 py,.int .u32 (pi:Int)] 62)) w.heap.size (ptL ⟨px,py,pi⟩):=CelB.of_heap (heap_alloc_new w _)
 have hch:=fun w1 (hw1:Upd [] (w.alloc (.cells #[.int .i64 px,.int .i64 py,.int .u32 (pi:Int)] 62)) w1)=>chosenPC p M (fun q=>inBM b q.x q.y&&lowB q ⟨px,py,pi⟩) 77 #[.pointer (some ⟨B,0,none⟩),.pointer (some ⟨w.heap.size,0,none⟩)] (enters_of Tryz.func77 (by kernel_rfl) rfl) w1 (hm.upd (hu0.trans hw1) (by simp)) ha hl
  (fun W qx qy qi _ hW=>clo41C B w.heap.size b ⟨px,py,pi⟩ qx qy qi W (hb.upd0 ((hu0.trans hw1).trans hW)) (hpt.upd0 (hw1.trans hW)))
 obtain ⟨n,hn⟩:∃n,(namesM Pt.id M fun q=>inBM b q.x q.y&&lowB q ⟨px,py,pi⟩).length=n:=⟨_,rfl⟩
 have hz:=len_zero (namesM Pt.id M fun q=>inBM b q.x q.y&&lowB q ⟨px,py,pi⟩)
 obtain ⟨r,hr⟩:∃r,(namesM Pt.id M fun q=>inBM b q.x q.y&&lowB q ⟨px,py,pi⟩).isEmpty=r:=⟨_,rfl⟩
 rw [hr]
 rw [hn,hr] at hz
 simp only [hn] at hch
 have hin:=fun w=>inCM b px py (pi:Int) w
 obtain ⟨s,hs⟩:∃r,inBM b px py=r:=⟨_,rfl⟩
 rw [hs] at hin ⊢
 clear hs hr hn
 obtain ⟨x1,x2,y1,y2,bi⟩:=b
 unfold bxV at hin
 have c0:=hb 0 _ rfl
 have c1:=hb 1 _ rfl
 have c2:=hb 2 _ rfl
 have c3:=hb 3 _ rfl
 have c4:=hb 4 _ rfl
 have q0:=hq 0 _ rfl
 dsimp only at c0 c1 c2 c3 c4 hin
 have HI:=Lib.hid hin
 have HC:=Lib.hid hch
 have HK:=Lib.hid (And.intro (hq.upd0 hu0) ((hu0.cell (p:=⟨h,1,none⟩) hh (by simp)).trans hc))
 clear hin hch hb hq hm ha hl hpt hu0
 go_enter Tryz.func76,Tryz.ntmps76
 go_wp2_with fail
 refine (HI.out _).mono ?_
 rintro e w1 ⟨rfl,hu⟩
 have k0:=(HK.out.1.upd0 hu) 0 _ rfl
 have k1:=(hu.cell (p:=⟨h,1,none⟩) (World.block_lt_of_cell? _ _ HK.out.2) (by simp)).trans HK.out.2
 have HU:=Lib.hid hu
 clear hu c0 c1 c2 c3 c4 q0 hc
 cases s with
 |false=>
  go_wp2_with fail
  go_ret
  exact ⟨rfl,((Upd.refl [] w).alloc _).trans HU.out⟩
 |true=>
  go_wp2_with (go_at_call 71;refine (HC.out _ HU.out).mono ?_;rintro e w2 ⟨A,C,rfl,-,hu⟩;have HU2:=Lib.hid hu;clear hu)
  go_ret
  exact ⟨rfl,(((Upd.refl [] w).alloc _).trans HU.out).trans HU2.out⟩
theorem oclo1C (B:Nat) (o:OpP) (plo phi pi:Int) (w:World) (h:CelB w B (opL o)) :
 Calls Tryz.prog 83 #[.agg #[.int .i64 plo,.int .i64 phi,.int .u32 pi],.pointer (some ⟨B,0,none⟩)] w fun e w'=>e=.returned (.bool (stabBM plo phi o.a))∧Upd [] w w':=by
 have hB:=h.lt rfl
 obtain ⟨oc,oa,ob,occ,od,oi⟩:=o
 have hin:=fun w=>stabCM plo phi oa pi w
 obtain ⟨r,hr⟩:∃r,stabBM plo phi oa=r:=⟨_,rfl⟩
 simp only [hr] at hin
 dsimp only
 rw [hr]
 clear hr
 have c1:=h 1 _ rfl
 dsimp only at c1
 have HI:=Lib.hid hin
 clear h hin
 go_enter Tryz.func83,Tryz.ntmps83
 go_wp2_with (go_at_call 18;refine (HI.out _).mono ?_;rintro e w1 ⟨rfl,hu⟩;have HU:=Lib.hid hu;clear hu)
 go_ret
 exact ⟨rfl,((Upd.refl [] w).alloc _).trans HU.out⟩
theorem oclo2C (B:Nat) (o:OpP) (plo phi pi:Int) (w:World) (h:CelB w B (opL o)) :
 Calls Tryz.prog 84 #[.agg #[.int .i64 plo,.int .i64 phi,.int .u32 pi],.pointer (some ⟨B,0,none⟩)] w fun e w'=>e=.returned (.bool (stabBM plo phi o.a))∧Upd [] w w':=by
 have hB:=h.lt rfl
 obtain ⟨oc,oa,ob,occ,od,oi⟩:=o
 have hin:=fun w=>stabCM plo phi oa pi w
 obtain ⟨r,hr⟩:∃r,stabBM plo phi oa=r:=⟨_,rfl⟩
 simp only [hr] at hin
 dsimp only
 rw [hr]
 clear hr
 have c1:=h 1 _ rfl
 dsimp only at c1
 have HI:=Lib.hid hin
 clear h hin
 go_enter Tryz.func84,Tryz.ntmps84
 go_wp2_with (go_at_call 18;refine (HI.out _).mono ?_;rintro e w1 ⟨rfl,hu⟩;have HU:=Lib.hid hu;clear hu)
 go_ret
 exact ⟨rfl,((Upd.refl [] w).alloc _).trans HU.out⟩
theorem oclo3C (B:Nat) (o:OpP) (plo phi:Int) (pi:Nat) (w:World) (h:CelB w B (opL o)) :
 Calls Tryz.prog 85 #[.agg #[.int .i64 plo,.int .i64 phi,.int .u32 (pi:Int)],.pointer (some ⟨B,0,none⟩)] w fun e w'=>e=.returned (.bool (meetB ⟨plo,phi,pi⟩ o.a o.b))∧Upd [] w w':=by
 have hB:=h.lt rfl
 obtain ⟨oc,oa,ob,occ,od,oi⟩:=o
 have hin:=fun w=>meetC plo phi (pi:Int) oa ob w
 unfold meetB
 dsimp only
 obtain ⟨r,hr⟩:∃r,decide (max plo oa≤min phi ob)=r:=⟨_,rfl⟩
 simp only [hr] at hin
 rw [hr]
 clear hr
 have c1:=h 1 _ rfl
 have c2:=h 2 _ rfl
 dsimp only at c1 c2
 have HI:=Lib.hid hin
 clear h hin
 go_enter Tryz.func85,Tryz.ntmps85
 go_wp2_with (go_at_call 19;refine (HI.out _).mono ?_;rintro e w1 ⟨rfl,hu⟩;have HU:=Lib.hid hu;clear hu)
 go_ret
 exact ⟨rfl,((Upd.refl [] w).alloc _).trans HU.out⟩
theorem oclo4C (B:Nat) (ax ay:Int) (px1 px2 py1 py2:Int) (pi:Nat) (w:World) (h:CelB w B [.int .i64 ax,.int .i64 ay,.int .u32 0]) :
 Calls Tryz.prog 89 #[.agg #[.int .i64 px1,.int .i64 px2,.int .i64 py1,.int .i64 py2,.int .u32 (pi:Int)],.pointer (some ⟨B,0,none⟩)] w fun e w'=>e=.returned (.bool (inBM ⟨px1,px2,py1,py2,pi⟩ ax ay))∧Upd [] w w':=by
 have hB:=h.lt rfl
 have hin:=fun w=>inCM ⟨px1,px2,py1,py2,pi⟩ ax ay 0 w
 obtain ⟨r,hr⟩:∃r,inBM ⟨px1,px2,py1,py2,pi⟩ ax ay=r:=⟨_,rfl⟩
 simp only [hr] at hin
 rw [hr]
 clear hr
 unfold bxV at hin
 dsimp only at hin
 have c0:=h 0 _ rfl
 have c1:=h 1 _ rfl
 have c2:=h 2 _ rfl
 have HI:=Lib.hid hin
 clear h hin
 go_enter Tryz.func89,Tryz.ntmps89
 go_wp2_with (go_at_call 20;refine (HI.out _).mono ?_;rintro e w1 ⟨rfl,hu⟩;have HU:=Lib.hid hu;clear hu)
 go_ret
 exact ⟨rfl,((Upd.refl [] w).alloc _).trans HU.out⟩
end Go.Proofs.YtkmnbodlciepaaaGreat
