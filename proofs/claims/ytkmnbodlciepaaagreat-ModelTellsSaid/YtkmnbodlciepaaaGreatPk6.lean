/- A box by value; a list of boxes, seen. item: Stab, In, Cell of a box. -/
import Derived.Test.YtkmnbodlciepaaaGreatProg
import Derived.WalkKit
import Derived.LoopTactic
import Derived.Deep.Cut
import Derived.Deep.QuietTactic
import Derived.IntWalk
import Derived.Test.YtkmnbodlciepaaaGreatPk4
import Derived.Test.YtkmnbodlciepaaaGreatPk1
import Derived.Test.YtkmnbodlciepaaaGreatPk5
set_option maxHeartbeats 1000000
set_option maxRecDepth 100000
namespace Go.Proofs.YtkmnbodlciepaaaGreat
open Go.RowKit
def bxV (b:Bx):Value:=.agg #[.int .i64 b.x1,.int .i64 b.x2,.int .i64 b.y1,.int .i64 b.y2,.int .u32 (b.id:Int)]
def KBx:Kind Bx:={ T:=0,sT:=31,eT:=59,sz:=5,enc:=fun b=>[.int .i64 b.x1,.int .i64 b.x2,.int .i64 b.y1,.int .i64 b.y2,.int .u32 (b.id:Int)],len:=fun _=>rfl,one:=fun b u hu=>by simp at hu;rcases hu with rfl | rfl | rfl | rfl | rfl<;>rfl }
theorem KBx.at {w:World} {A:Option Addr} {n C:Nat} {l:List Bx} (h:See KBx w (.slice A n C) l) {k:Nat} {x:Bx} (hx:l[k]? = some x) :
 ∃b o,A=some ⟨b,o,none⟩∧n≤C∧C≤maxLen∧w.cell? ⟨b,o+k*5,none⟩=some (.int .i64 x.x1)∧w.cell? ⟨b,o+k*5+1,none⟩=some (.int .i64 x.x2)∧w.cell? ⟨b,o+k*5+2,none⟩=some (.int .i64 x.y1)∧w.cell? ⟨b,o+k*5+3,none⟩=some (.int .i64 x.y2)∧w.cell? ⟨b,o+k*5+4,none⟩=some (.int .u32 (x.id:Int)):=by
 obtain ⟨b,o,h1,h2,h3,h4⟩:=h.at hx
 exact ⟨b,o,h1,h2,h3,h4 0 _ rfl,h4 1 _ rfl,h4 2 _ rfl,h4 3 _ rfl,h4 4 _ rfl⟩
theorem sideC (lo hi:Int) (w:World):Calls Tryz.prog 39 #[.int .i64 lo,.int .i64 hi] w fun e w'=>e=.returned (.agg #[.int .i64 lo,.int .i64 hi,.int .u32 0])∧Upd [] w w':=by
 go_enter Tryz.func39,Tryz.ntmps39
 go_wp2_with fail
 exact bodyPost_ret (v:=.agg #[.int .i64 lo,.int .i64 hi,.int .u32 0]) (by simp [results,Tryz.results39,go_sem]) rfl ⟨rfl,(Upd.refl _ _).alloc _⟩
def stabB (lo hi x:Int):Bool:=decide (lo≤x)&&decide (x≤hi)
theorem stabC (lo hi x id:Int) (w:World):Calls Tryz.prog 18 #[.agg #[.int .i64 lo,.int .i64 hi,.int .u32 id],.int .i64 x] w fun e w'=>e=.returned (.bool (stabB lo hi x))∧Upd [] w w':=by
 unfold stabB
 by_cases h1:lo≤x
 ·have d1:decide (lo≤x)=true:=decide_eq_true h1
  rw [d1,Bool.true_and]
  go_enter Tryz.func18,Tryz.ntmps18
  go_wp2_with fail
  go_ret
  exact ⟨rfl,(Upd.refl _ _).alloc _⟩
 ·have d1:decide (lo≤x)=false:=decide_eq_false h1
  rw [d1,Bool.false_and]
  go_enter Tryz.func18,Tryz.ntmps18
  go_wp2_with fail
  go_ret
  exact ⟨rfl,(Upd.refl _ _).alloc _⟩
def inB (b:Bx) (x y:Int):Bool:=stabB b.x1 b.x2 x&&stabB b.y1 b.y2 y
theorem inC (b:Bx) (x y id:Int) (w:World):Calls Tryz.prog 20 #[.agg #[.int .i64 x,.int .i64 y,.int .u32 id],bxV b] w fun e w'=>e=.returned (.bool (inB b x y))∧Upd [] w w':=by
 obtain ⟨x1,x2,y1,y2,bi⟩:=b
 unfold inB bxV
 dsimp only
 obtain ⟨s1,hs1⟩:∃s,stabB x1 x2 x=s:=⟨_,rfl⟩
 obtain ⟨s2,hs2⟩:∃s,stabB y1 y2 y=s:=⟨_,rfl⟩
 have g1:∀w,Calls Tryz.prog 18 #[.agg #[.int .i64 x1,.int .i64 x2,.int .u32 0],.int .i64 x] w fun e w'=>e=.returned (.bool s1)∧Upd [] w w':=fun w=>by rw [←hs1];exact stabC x1 x2 x 0 w
 have g2:∀w,Calls Tryz.prog 18 #[.agg #[.int .i64 y1,.int .i64 y2,.int .u32 0],.int .i64 y] w fun e w'=>e=.returned (.bool s2)∧Upd [] w w':=fun w=>by rw [←hs2];exact stabC y1 y2 y 0 w
 rw [hs1,hs2]
 have G1:=Lib.hid g1
 have G2:=Lib.hid g2
 clear g1 g2 hs1 hs2
 have hu:Upd [] w ((w.alloc (.cells #[.int .i64 x,.int .i64 y,.int .u32 id] 62)).alloc (.cells #[.int .i64 x1,.int .i64 x2,.int .i64 y1,.int .i64 y2,.int .u32 (bi:Int)] 59)):=((Upd.refl _ _).alloc _).alloc _
 have hp:∀k,((w.alloc (.cells #[.int .i64 x,.int .i64 y,.int .u32 id] 62)).alloc (.cells #[.int .i64 x1,.int .i64 x2,.int .i64 y1,.int .i64 y2,.int .u32 (bi:Int)] 59)).cell? ⟨w.heap.size,k,none⟩=#[Value.int .i64 x,.int .i64 y,.int .u32 id][k]?:=fun k=>by
  rw [World.cell?_alloc_past _ _ _ (by simp),World.cell?_alloc_at _ _ _ _ rfl]
 have hb:∀k,((w.alloc (.cells #[.int .i64 x,.int .i64 y,.int .u32 id] 62)).alloc (.cells #[.int .i64 x1,.int .i64 x2,.int .i64 y1,.int .i64 y2,.int .u32 (bi:Int)] 59)).cell? ⟨w.heap.size+1,k,none⟩=#[Value.int .i64 x1,.int .i64 x2,.int .i64 y1,.int .i64 y2,.int .u32 (bi:Int)][k]?:=fun k=>World.cell?_alloc_at _ _ _ _ (by simp)
 have hz:w.heap.size+1<((w.alloc (.cells #[.int .i64 x,.int .i64 y,.int .u32 id] 62)).alloc (.cells #[.int .i64 x1,.int .i64 x2,.int .i64 y1,.int .i64 y2,.int .u32 (bi:Int)] 59)).heap.size:=by simp
 have p0:=hp 0
 have p1:=hp 1
 have b0:=hb 0
 have b1:=hb 1
 have b2:=hb 2
 have b3:=hb 3
 simp only [List.getElem?_toArray,List.getElem?_cons_zero,List.getElem?_cons_succ] at p0 p1 b0 b1 b2 b3
 have HU:=Lib.hid hu
 clear hp hb hu
 go_enter Tryz.func20,Tryz.ntmps20
 go_upto_region 1 with fail
 generalize ((w.alloc (.cells #[.int .i64 x,.int .i64 y,.int .u32 id] 62)).alloc (.cells #[.int .i64 x1,.int .i64 x2,.int .i64 y1,.int .i64 y2,.int .u32 (bi:Int)] 59))=W at p0 p1 b0 b1 b2 b3 hz HU ⊢
 have q0:∀z:QW W,z.w.cell? ⟨w.heap.size,0,none⟩=some (.int .i64 x):=fun z=>(z.up.cell (p:=⟨w.heap.size,0,none⟩) (by dsimp only;omega) (by simp)).trans p0
 have q1:∀z:QW W,z.w.cell? ⟨w.heap.size,1,none⟩=some (.int .i64 y):=fun z=>(z.up.cell (p:=⟨w.heap.size,1,none⟩) (by dsimp only;omega) (by simp)).trans p1
 have r0:∀z:QW W,z.w.cell? ⟨w.heap.size+1,0,none⟩=some (.int .i64 x1):=fun z=>(z.up.cell (p:=⟨w.heap.size+1,0,none⟩) (by dsimp only;omega) (by simp)).trans b0
 have r1:∀z:QW W,z.w.cell? ⟨w.heap.size+1,1,none⟩=some (.int .i64 x2):=fun z=>(z.up.cell (p:=⟨w.heap.size+1,1,none⟩) (by dsimp only;omega) (by simp)).trans b1
 have r2:∀z:QW W,z.w.cell? ⟨w.heap.size+1,2,none⟩=some (.int .i64 y1):=fun z=>(z.up.cell (p:=⟨w.heap.size+1,2,none⟩) (by dsimp only;omega) (by simp)).trans b2
 have r3:∀z:QW W,z.w.cell? ⟨w.heap.size+1,3,none⟩=some (.int .i64 y2):=fun z=>(z.up.cell (p:=⟨w.heap.size+1,3,none⟩) (by dsimp only;omega) (by simp)).trans b3
 clear p0 p1 b0 b1 b2 b3 hz
 cases s1
 all_goals
  refine wp_region_quietU (by kernel_rfl) (by kernel_rfl) ?_
  repeat (go_big_quiet_step (first | (with_reducible exact Calls.quietU (sideC _ _ _)) | (with_reducible exact Calls.quietU (G1.out _)) | (with_reducible exact Calls.quietU (G2.out _))))
  refine wpQuiet_nil ?_
  intro _ hw'
  obtain ⟨⟨wq,hwq⟩,hw''⟩:=hw'
  dsimp only at hw''
  subst hw''
  go_wp2_with fail
  go_ret
  exact ⟨rfl,HU.out.trans hwq⟩
theorem cell_in (b:Bx) (x y:Int):b.cell x y=(inB b x y&&(!decide (x=b.x2)&&!decide (y=b.y2))):=by
 unfold Bx.cell inB stabB
 rw [Bool.eq_iff_iff]
 simp only [decide_eq_true_eq,Bool.and_eq_true,Bool.not_eq_true',decide_eq_false_iff_not]
 omega
theorem cellC (b:Bx) (x y:Int) (w:World):Calls Tryz.prog 180 #[bxV b,.int .i64 x,.int .i64 y] w fun e w'=>e=.returned (.bool (b.cell x y))∧Upd [] w w':=by
 have hin:=fun w=>inC b x y 0 w
 rw [cell_in]
 obtain ⟨s,hs⟩:∃s,inB b x y=s:=⟨_,rfl⟩
 rw [hs]
 rw [hs] at hin
 obtain ⟨x1,x2,y1,y2,bi⟩:=b
 unfold bxV at hin ⊢
 dsimp only at hin ⊢
 have HIN:=Lib.hid hin
 clear hin hs
 have hu:Upd [] w (w.alloc (.cells #[.int .i64 x1,.int .i64 x2,.int .i64 y1,.int .i64 y2,.int .u32 (bi:Int)] 59)):=(Upd.refl _ _).alloc _
 have hb:∀k,(w.alloc (.cells #[.int .i64 x1,.int .i64 x2,.int .i64 y1,.int .i64 y2,.int .u32 (bi:Int)] 59)).cell? ⟨w.heap.size,k,none⟩=#[Value.int .i64 x1,.int .i64 x2,.int .i64 y1,.int .i64 y2,.int .u32 (bi:Int)][k]?:=fun k=>World.cell?_alloc_at _ _ _ _ rfl
 have hz:w.heap.size<(w.alloc (.cells #[.int .i64 x1,.int .i64 x2,.int .i64 y1,.int .i64 y2,.int .u32 (bi:Int)] 59)).heap.size:=by simp
 have b1:=hb 1
 have b3:=hb 3
 simp only [List.getElem?_toArray,List.getElem?_cons_zero,List.getElem?_cons_succ] at b1 b3
 have HU:=Lib.hid hu
 have HB:=Lib.hid (And.intro hz (And.intro b1 b3))
 clear hb hu hz b1 b3
 cases s
 ·rw [Bool.false_and]
  go_enter Tryz.func180,Tryz.ntmps180
  go_wp2_with fail
  (with_reducible refine (HIN.out _).mono ?_)
  rintro e w1 ⟨rfl,hu1⟩
  have HU1:=Lib.hid (HU.out.trans hu1)
  clear hu1
  go_wp2_with fail
  go_ret
  exact ⟨rfl,HU1.out⟩
 ·rw [Bool.true_and]
  by_cases hx:x=x2
  ·have d1:(x==x2)=true:=by simpa using hx
   have d2:(x != x2)=false:=by simp [hx]
   have d3:decide (x=x2)=true:=by simpa using hx
   rw [d3,Bool.not_true,Bool.false_and]
   clear hx
   go_enter Tryz.func180,Tryz.ntmps180
   go_wp2_with fail
   (with_reducible refine (HIN.out _).mono ?_)
   rintro e w1 ⟨rfl,hu1⟩
   have c1:=(hu1.cell (p:=⟨w.heap.size,1,none⟩) HB.out.1 (by simp)).trans HB.out.2.1
   have c3:=(hu1.cell (p:=⟨w.heap.size,3,none⟩) HB.out.1 (by simp)).trans HB.out.2.2
   have HU1:=Lib.hid (HU.out.trans hu1)
   clear hu1
   go_wp2_with fail
   go_ret
   exact ⟨rfl,HU1.out⟩
  ·have d1:(x==x2)=false:=by simpa using hx
   have d2:(x != x2)=true:=by simp [hx]
   have d3:decide (x=x2)=false:=by simpa using hx
   rw [d3,Bool.not_false,Bool.true_and]
   clear hx
   obtain ⟨t,ht⟩:∃t,(y != y2)=t:=⟨_,rfl⟩
   have ht2:(!decide (y=y2))=t:=by rw [←ht];by_cases h:y=y2<;>simp [h]
   rw [ht2]
   clear ht2
   go_enter Tryz.func180,Tryz.ntmps180
   go_wp2_with fail
   (with_reducible refine (HIN.out _).mono ?_)
   rintro e w1 ⟨rfl,hu1⟩
   have c1:=(hu1.cell (p:=⟨w.heap.size,1,none⟩) HB.out.1 (by simp)).trans HB.out.2.1
   have c3:=(hu1.cell (p:=⟨w.heap.size,3,none⟩) HB.out.1 (by simp)).trans HB.out.2.2
   have HU1:=Lib.hid (HU.out.trans hu1)
   clear hu1
   go_wp2_with fail
   go_ret
   exact ⟨rfl,HU1.out⟩
end Go.Proofs.YtkmnbodlciepaaaGreat
