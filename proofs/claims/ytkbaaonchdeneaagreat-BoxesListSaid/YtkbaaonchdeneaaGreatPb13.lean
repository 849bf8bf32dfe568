/- A box by value; a list of boxes, seen. item: side, Stab, In, RightSpan, RightBox. Printed by -/
import Derived.Deep.Cut
import Derived.Test.YtkbaaonchdeneaaGreatPb5
import Derived.Test.YtkbaaonchdeneaaGreatPb4
import Derived.Test.YtkbaaonchdeneaaGreatPb11
set_option maxHeartbeats 8000000
set_option maxRecDepth 100000
namespace Go.Proofs.YtkbaaonchdeneaaGreat
open Go.RowKit
def L8 (b:Bx):Value:=.agg #[.int .i64 b.x1,.int .i64 b.x2,.int .i64 b.y1,.int .i64 b.y2,.int .u32 (b.id:Int)]
def G5:Kind Bx:={ T:=0,sT:=42,eT:=28,sz:=5,enc:=fun b=>[.int .i64 b.x1,.int .i64 b.x2,.int .i64 b.y1,.int .i64 b.y2,.int .u32 (b.id:Int)],len:=fun _=>rfl,one:=fun b u hu=>by simp at hu;rcases hu with rfl | rfl | rfl | rfl | rfl<;>rfl }
theorem G5.at {w:World} {A:Option Addr} {n C:Nat} {l:List Bx} (h:See G5 w (.slice A n C) l) {k:Nat} {x:Bx} (hx:l[k]? = some x) :
 ∃b o,A=some ⟨b,o,none⟩∧n≤C∧C≤maxLen∧w.cell? ⟨b,o+k*5,none⟩=some (.int .i64 x.x1)∧w.cell? ⟨b,o+k*5+1,none⟩=some (.int .i64 x.x2)∧w.cell? ⟨b,o+k*5+2,none⟩=some (.int .i64 x.y1)∧w.cell? ⟨b,o+k*5+3,none⟩=some (.int .i64 x.y2)∧w.cell? ⟨b,o+k*5+4,none⟩=some (.int .u32 (x.id:Int)):=by
 obtain ⟨b,o,h1,h2,h3,h4⟩:=h.at hx;exact ⟨b,o,h1,h2,h3,h4 0 _ rfl,h4 1 _ rfl,h4 2 _ rfl,h4 3 _ rfl,h4 4 _ rfl⟩
end Go.Proofs.YtkbaaonchdeneaaGreat
namespace Go.Proofs.YtkbaaonchdeneaaGreat.GN
open Go.RowKit
theorem Ti (lo hi:Int) (w:World):Calls Tryz.prog 120 #[.int .i64 lo,.int .i64 hi] w fun e w'=>e=.returned (.agg #[.int .i64 lo,.int .i64 hi,.int .u32 0])∧Bf [] w w':=by
 go_enter Tryz.func120,Tryz.ntmps120
 go_wp2_with fail
 exact bodyPost_ret (v:=.agg #[.int .i64 lo,.int .i64 hi,.int .u32 0]) (by simp [results,Tryz.results120,go_sem]) rfl ⟨rfl,(Bf.refl _ _).alloc _⟩
def WZ (lo hi x:Int):Bool:=decide (lo≤x)&&decide (x≤hi)
theorem a1T (lo hi x id:Int) (w:World):Calls Tryz.prog 119 #[.agg #[.int .i64 lo,.int .i64 hi,.int .u32 id],.int .i64 x] w fun e w'=>e=.returned (.bool (WZ lo hi x))∧Bf [] w w':=by
 unfold WZ;by_cases h1:lo≤x
 ·have d1:decide (lo≤x)=true:=decide_eq_true h1;rw [d1,Bool.true_and];go_enter Tryz.func119,Tryz.ntmps119
  go_wp2_with fail
  go_ret
  exact ⟨rfl,(Bf.refl _ _).alloc _⟩
 ·have d1:decide (lo≤x)=false:=decide_eq_false h1;rw [d1,Bool.false_and];go_enter Tryz.func119,Tryz.ntmps119
  go_wp2_with fail
  go_ret
  exact ⟨rfl,(Bf.refl _ _).alloc _⟩
def inB (b:Bx) (x y:Int):Bool:=WZ b.x1 b.x2 x&&WZ b.y1 b.y2 y
theorem inC (b:Bx) (x y id:Int) (w:World):Calls Tryz.prog 66 #[.agg #[.int .i64 x,.int .i64 y,.int .u32 id],L8 b] w fun e w'=>e=.returned (.bool (inB b x y))∧Bf [] w w':=by
 obtain ⟨x1,x2,y1,y2,bi⟩:=b;unfold inB L8;dsimp only;obtain ⟨s1,hs1⟩:∃s,WZ x1 x2 x=s:=⟨_,rfl⟩;obtain ⟨s2,hs2⟩:∃s,WZ y1 y2 y=s:=⟨_,rfl⟩;have g1:∀w,Calls Tryz.prog 119 #[.agg #[.int .i64 x1,.int .i64 x2,.int .u32 0],.int .i64 x] w fun e w'=>e=.returned (.bool s1)∧Bf [] w w':=fun w=>by rw [←hs1];exact a1T x1 x2 x 0 w
 have g2:∀w,Calls Tryz.prog 119 #[.agg #[.int .i64 y1,.int .i64 y2,.int .u32 0],.int .i64 y] w fun e w'=>e=.returned (.bool s2)∧Bf [] w w':=fun w=>by rw [←hs2];exact a1T y1 y2 y 0 w
 rw [hs1,hs2];have G1:=AQ g1;have G2:=AQ g2;clear g1 g2 hs1 hs2;have hu:Bf [] w ((w.alloc (.cells #[.int .i64 x,.int .i64 y,.int .u32 id] 113)).alloc (.cells #[.int .i64 x1,.int .i64 x2,.int .i64 y1,.int .i64 y2,.int .u32 (bi:Int)] 28)):=((Bf.refl _ _).alloc _).alloc _
 have hp:∀k,((w.alloc (.cells #[.int .i64 x,.int .i64 y,.int .u32 id] 113)).alloc (.cells #[.int .i64 x1,.int .i64 x2,.int .i64 y1,.int .i64 y2,.int .u32 (bi:Int)] 28)).cell? ⟨w.heap.size,k,none⟩=#[Value.int .i64 x,.int .i64 y,.int .u32 id][k]?:=fun k=>by
  rw [World.cell?_alloc_past _ _ _ (by simp),World.cell?_alloc_at _ _ _ _ rfl]
 have hb:∀k,((w.alloc (.cells #[.int .i64 x,.int .i64 y,.int .u32 id] 113)).alloc (.cells #[.int .i64 x1,.int .i64 x2,.int .i64 y1,.int .i64 y2,.int .u32 (bi:Int)] 28)).cell? ⟨w.heap.size+1,k,none⟩=#[Value.int .i64 x1,.int .i64 x2,.int .i64 y1,.int .i64 y2,.int .u32 (bi:Int)][k]?:=fun k=>World.cell?_alloc_at _ _ _ _ (by simp)
 have hz:w.heap.size+1<((w.alloc (.cells #[.int .i64 x,.int .i64 y,.int .u32 id] 113)).alloc (.cells #[.int .i64 x1,.int .i64 x2,.int .i64 y1,.int .i64 y2,.int .u32 (bi:Int)] 28)).heap.size:=by simp
 have p0:=hp 0;have p1:=hp 1;have b0:=hb 0;have b1:=hb 1;have b2:=hb 2;have b3:=hb 3;simp only [List.getElem?_toArray,List.getElem?_cons_zero,List.getElem?_cons_succ] at p0 p1 b0 b1 b2 b3;have HU:=AQ hu;clear hp hb hu;go_enter Tryz.func66,Tryz.ntmps66
 go_upto_region 1 with fail
 generalize ((w.alloc (.cells #[.int .i64 x,.int .i64 y,.int .u32 id] 113)).alloc (.cells #[.int .i64 x1,.int .i64 x2,.int .i64 y1,.int .i64 y2,.int .u32 (bi:Int)] 28))=W at p0 p1 b0 b1 b2 b3 hz HU ⊢;have q0:∀z:QW W,z.w.cell? ⟨w.heap.size,0,none⟩=some (.int .i64 x):=fun z=>(z.up.cell (p:=⟨w.heap.size,0,none⟩) (by dsimp only;omega) (by simp)).trans p0
 have q1:∀z:QW W,z.w.cell? ⟨w.heap.size,1,none⟩=some (.int .i64 y):=fun z=>(z.up.cell (p:=⟨w.heap.size,1,none⟩) (by dsimp only;omega) (by simp)).trans p1
 have r0:∀z:QW W,z.w.cell? ⟨w.heap.size+1,0,none⟩=some (.int .i64 x1):=fun z=>(z.up.cell (p:=⟨w.heap.size+1,0,none⟩) (by dsimp only;omega) (by simp)).trans b0
 have r1:∀z:QW W,z.w.cell? ⟨w.heap.size+1,1,none⟩=some (.int .i64 x2):=fun z=>(z.up.cell (p:=⟨w.heap.size+1,1,none⟩) (by dsimp only;omega) (by simp)).trans b1
 have r2:∀z:QW W,z.w.cell? ⟨w.heap.size+1,2,none⟩=some (.int .i64 y1):=fun z=>(z.up.cell (p:=⟨w.heap.size+1,2,none⟩) (by dsimp only;omega) (by simp)).trans b2
 have r3:∀z:QW W,z.w.cell? ⟨w.heap.size+1,3,none⟩=some (.int .i64 y2):=fun z=>(z.up.cell (p:=⟨w.heap.size+1,3,none⟩) (by dsimp only;omega) (by simp)).trans b3
 clear p0 p1 b0 b1 b2 b3 hz
 cases s1
 all_goals
  refine Jf (by kernel_rfl) (by kernel_rfl) ?_
  repeat (go_big_quiet_step (first | (with_reducible exact Calls.Oj (Ti _ _ _)) | (with_reducible exact Calls.Oj (G1.out _)) | (with_reducible exact Calls.Oj (G2.out _))))
  refine wpQuiet_nil ?_
  intro _ hw';obtain ⟨⟨wq,hwq⟩,hw''⟩:=hw';dsimp only at hw'';subst hw'';go_wp2_with fail
  go_ret
  exact ⟨rfl,HU.out.trans hwq⟩
theorem uQ (lo hi id:Int) (w:World):Calls Tryz.prog 82 #[.agg #[.int .i64 lo,.int .i64 hi,.int .u32 id]] w fun e w'=>e=.returned (.bool (decide (lo≤hi)))∧Bf [] w w':=by
 obtain ⟨r,hr⟩:∃r,decide (lo≤hi)=r:=⟨_,rfl⟩;rw [hr];go_enter Tryz.func82,Tryz.ntmps82
 go_wp2_with fail
 go_ret
 exact ⟨by rw [←hr];rfl,(Bf.refl _ _).alloc _⟩
theorem UK (b:Bx) (w:World):Calls Tryz.prog 71 #[L8 b] w fun e w'=>e=.returned (.bool (decide (b.x1≤b.x2∧b.y1≤b.y2)))∧Bf [] w w':=by
 rw [Bool.decide_and];unfold L8;obtain ⟨s1,hs1⟩:∃s,decide (b.x1≤b.x2)=s:=⟨_,rfl⟩;obtain ⟨s2,hs2⟩:∃s,decide (b.y1≤b.y2)=s:=⟨_,rfl⟩;have g1:∀w,Calls Tryz.prog 82 #[.agg #[.int .i64 b.x1,.int .i64 b.x2,.int .u32 0]] w fun e w'=>e=.returned (.bool s1)∧Bf [] w w':=fun w=>by rw [←hs1];exact uQ b.x1 b.x2 0 w
 have g2:∀w,Calls Tryz.prog 82 #[.agg #[.int .i64 b.y1,.int .i64 b.y2,.int .u32 0]] w fun e w'=>e=.returned (.bool s2)∧Bf [] w w':=fun w=>by rw [←hs2];exact uQ b.y1 b.y2 0 w
 rw [hs1,hs2];have G1:=AQ g1;have G2:=AQ g2;have HB:=AQ (show Ic (w.alloc (.cells #[.int .i64 b.x1,.int .i64 b.x2,.int .i64 b.y1,.int .i64 b.y2,.int .u32 (b.id:Int)] 28)) w.heap.size #[.int .i64 b.x1,.int .i64 b.x2,.int .i64 b.y1,.int .i64 b.y2,.int .u32 (b.id:Int)] 28 from heap_alloc_new _ _);have HU:=AQ (show Bf [] w (w.alloc (.cells #[.int .i64 b.x1,.int .i64 b.x2,.int .i64 b.y1,.int .i64 b.y2,.int .u32 (b.id:Int)] 28)) from (Bf.refl _ _).alloc _);clear g1 g2 hs1 hs2
 cases s1
 all_goals
  go_enter Tryz.func71,Tryz.ntmps71
  go_upto_region 1 with fail
  generalize (w.alloc (.cells #[.int .i64 b.x1,.int .i64 b.x2,.int .i64 b.y1,.int .i64 b.y2,.int .u32 (b.id:Int)] 28))=W at HB HU ⊢;generalize w.heap.size=p at HB ⊢;obtain ⟨c0,c1,c2,c3,c4⟩:=HB.out.cells5;go_wp2_with fail
  clear c0 c1 c2 c3 c4;(with_reducible refine (Ti _ _ _).mono ?_);rintro e w1 ⟨rfl,hu1⟩;have FY:=AQ (HU.out.trans hu1);have HB1:=AQ (HB.out.Bh hu1);clear hu1;go_wp2_with fail
  (with_reducible refine (G1.out _).mono ?_);rintro e w2 ⟨rfl,hu2⟩;have Fq:=AQ (FY.out.trans hu2);have HB2:=AQ (HB1.out.Bh hu2);clear hu2;obtain ⟨c0,c1,c2,c3,c4⟩:=HB2.out.cells5;go_wp2_with fail
  clear c0 c1 c2 c3 c4;try (with_reducible refine (Ti _ _ _).mono ?_)
  try rintro e w3 ⟨rfl,hu3⟩
  try have Gj:=AQ (Fq.out.trans hu3)
  try clear hu3
  try go_wp2_with fail
  try (with_reducible refine (G2.out _).mono ?_)
  try rintro e w4 ⟨rfl,Gt⟩
  try have Zu:=AQ (Gj.out.trans Gt)
  try clear Gt
  try go_wp2_with fail
  go_ret
  first | exact ⟨rfl,Fq.out⟩ | exact ⟨rfl,Zu.out⟩
end Go.Proofs.YtkbaaonchdeneaaGreat.GN
namespace Go.Proofs.YtkbaaonchdeneaaGreat
open Go.RowKit
def KK:Kind (Int×Nat):={ T:=0,sT:=216,eT:=218,sz:=2,enc:=fun x=>[.int .i64 x.1,.int .u32 (x.2:Int)],len:=fun _=>rfl,one:=fun x u hu=>by simp at hu;rcases hu with rfl | rfl<;>rfl }
def iV (k:Int×Nat):Value:=.agg #[.int .i64 k.1,.int .u32 (k.2:Int)]
def Zv (a b:Int):Int:=if a<b then -1 else if b<a then 1 else 0
theorem Zw (x:Int) (w:World):Calls Tryz.prog 240 #[.int .i64 x] w fun e w'=>e=.returned (.bool false)∧w=w':=by
 have h:(x==x)=true:=by simp
 go_enter Tryz.func240,Tryz.ntmps240
 go_wp2_with fail
 go_ret
 exact ⟨rfl,rfl⟩
theorem Zx (x:Int) (w:World):Calls Tryz.prog 204 #[.int .u32 x] w fun e w'=>e=.returned (.bool false)∧w=w':=by
 have h:(x==x)=true:=by simp
 go_enter Tryz.func204,Tryz.ntmps204
 go_wp2_with fail
 go_ret
 exact ⟨rfl,rfl⟩
theorem o9 (a b:Int) (w:World):Calls Tryz.prog 182 #[.int .i64 a,.int .i64 b] w fun e w'=>e=.returned (.int .i64 (Zv a b))∧w=w':=by
 unfold Zv;by_cases h1:a<b
 ·rw [if_pos h1];go_enter Tryz.func182,Tryz.ntmps182
  go_wp2_with ((with_reducible refine (Zw _ _).mono ?_);rintro e w' ⟨rfl,rfl⟩)
  go_ret
  exact ⟨rfl,rfl⟩
 ·rw [if_neg h1];by_cases h2:b<a
  ·rw [if_pos h2];go_enter Tryz.func182,Tryz.ntmps182
   go_wp2_with ((with_reducible refine (Zw _ _).mono ?_);rintro e w' ⟨rfl,rfl⟩)
   go_ret
   exact ⟨rfl,rfl⟩
  ·rw [if_neg h2];go_enter Tryz.func182,Tryz.ntmps182
   go_wp2_with ((with_reducible refine (Zw _ _).mono ?_);rintro e w' ⟨rfl,rfl⟩)
   go_ret
   exact ⟨rfl,rfl⟩
theorem pz (a b:Int) (w:World):Calls Tryz.prog 136 #[.int .u32 a,.int .u32 b] w fun e w'=>e=.returned (.int .i64 (Zv a b))∧w=w':=by
 unfold Zv;by_cases h1:a<b
 ·rw [if_pos h1];go_enter Tryz.func136,Tryz.ntmps136
  go_wp2_with ((with_reducible refine (Zx _ _).mono ?_);rintro e w' ⟨rfl,rfl⟩)
  go_ret
  exact ⟨rfl,rfl⟩
 ·rw [if_neg h1];by_cases h2:b<a
  ·rw [if_pos h2];go_enter Tryz.func136,Tryz.ntmps136
   go_wp2_with ((with_reducible refine (Zx _ _).mono ?_);rintro e w' ⟨rfl,rfl⟩)
   go_ret
   exact ⟨rfl,rfl⟩
  ·rw [if_neg h2];go_enter Tryz.func136,Tryz.ntmps136
   go_wp2_with ((with_reducible refine (Zx _ _).mono ?_);rintro e w' ⟨rfl,rfl⟩)
   go_ret
   exact ⟨rfl,rfl⟩
def orZ (a b:Int):Int:=if a=0 then b else a
theorem orC (q:Nat) (a b:Int) (w:World) (c0:w.cell? ⟨q,0,none⟩=some (.int .i64 a)) (c1:w.cell? ⟨q,1,none⟩=some (.int .i64 b)) :
 Calls Tryz.prog 100 #[.slice (some ⟨q,0,none⟩) 2 2] w fun e w'=>e=.returned (.int .i64 (orZ a b))∧Bf [] w w':=by
 obtain ⟨r,hr⟩:=AO (orZ a b);have ha:a≠0→r=a:=fun h=>by rw [←hr];unfold orZ;rw [if_neg h]
 have hb:a=0→r=b:=fun h=>by rw [←hr];unfold orZ;rw [if_pos h]
 rw [hr];have HA:=AQ ha;have HB:=AQ hb;clear ha hb hr;go_enter Tryz.func100,Tryz.ntmps100
 go_wp2_with fail
 go_loopg [8] 2 (fun m s8 wr=>∃k,m+k=2∧s8=.int .i64 (k:Int)∧(0<k→a=0)∧(1<k→b=0)∧wr=w)
 case atStart=>exact ⟨0,rfl,rfl,by simp,by simp,rfl⟩
 case round=>
  obtain ⟨k,hk,rfl,h0,h1,rfl⟩:=hrel;rcases (by omega:k=0∨k=1∨k=2) with rfl | rfl | rfl
  ·have HK:=AQ hk;clear h0 h1 hk;by_cases hz:a=0
   ·have z1:(a==0)=true:=by simpa using hz
    have HZ:=AQ hz;clear hz;go_wp2_with fail
    go_roundg 1
    case measure=>have:=HK.out;omega
    case rel=>exact ⟨1,by omega,by first | rfl | go_num,fun _=>HZ.out,fun h=>by omega,rfl⟩
   ·have z1:(a==0)=false:=by simpa using hz
    have HZ:=AQ hz;clear hz;go_wp2_with fail
    go_ret
    exact ⟨by rw [HA.out HZ.out];rfl,Bf.refl _ _⟩
  ·have HK:=AQ hk;have HZ:=AQ (h0 (by omega));clear h0 h1 hk;by_cases hz:b=0
   ·have z1:(b==0)=true:=by simpa using hz
    have HZ2:=AQ hz;clear hz;go_wp2_with fail
    go_roundg 0
    case measure=>have:=HK.out;omega
    case rel=>exact ⟨2,by omega,by first | rfl | go_num,fun _=>HZ.out,fun _=>HZ2.out,rfl⟩
   ·have z1:(b==0)=false:=by simpa using hz
    clear hz;go_wp2_with fail
    go_ret
    exact ⟨by rw [HB.out HZ.out];rfl,Bf.refl _ _⟩
  ·have HZ:=AQ (h0 (by omega));have HZ2:=AQ (h1 (by omega));clear h0 h1 hk;go_wp2_with fail
   go_ret
   exact ⟨by rw [HB.out HZ.out,HZ2.out];rfl,Bf.refl _ _⟩
def uS (x y:Int×Nat):Int:=orZ (Zv x.1 y.1) (Zv x.2 y.2)
def ahead (x y:Int×Nat):Bool:=decide (uS x y<0)
theorem UL (x y:Int×Nat):ahead x y=true↔x.1<y.1∨(x.1=y.1∧x.2<y.2):=by
 unfold ahead uS orZ Zv;simp only [decide_eq_true_eq];split<;>split<;>(try split)<;>(try split)<;>omega
theorem a3O (x y:Int×Nat) (w:World):Calls Tryz.prog 292 #[iV x,iV y] w fun e w'=>e=.returned (.int .i64 (uS x y))∧Bf [] w w':=by
 obtain ⟨a,i⟩:=x;obtain ⟨b,j⟩:=y;unfold iV uS;dsimp only;have ha:=fun w=>o9 a b w
 have hb:=fun w=>pz (i:Int) (j:Int) w
 obtain ⟨r,hr⟩:=AO (Zv a b);obtain ⟨s,hs⟩:=AO (Zv (i:Int) (j:Int));simp only [hr] at ha;simp only [hs] at hb;rw [hr,hs];obtain ⟨i',hi⟩:∃i':Int,(i:Int)=i':=⟨_,rfl⟩;obtain ⟨j',hj⟩:∃j':Int,(j:Int)=j':=⟨_,rfl⟩;rw [hi,hj] at hb ⊢;have hu:Bf [] w ((w.alloc (.cells #[.int .i64 a,.int .u32 i'] 218)).alloc (.cells #[.int .i64 b,.int .u32 j'] 218)):=((Bf.refl _ _).alloc _).alloc _
 have hp:∀k,((w.alloc (.cells #[.int .i64 a,.int .u32 i'] 218)).alloc (.cells #[.int .i64 b,.int .u32 j'] 218)).cell? ⟨w.heap.size,k,none⟩=#[Value.int .i64 a,.int .u32 i'][k]?:=fun k=>by
  rw [World.cell?_alloc_past _ _ _ (by simp),World.cell?_alloc_at _ _ _ _ rfl]
 have hq:∀k,((w.alloc (.cells #[.int .i64 a,.int .u32 i'] 218)).alloc (.cells #[.int .i64 b,.int .u32 j'] 218)).cell? ⟨w.heap.size+1,k,none⟩=#[Value.int .i64 b,.int .u32 j'][k]?:=fun k=>World.cell?_alloc_at _ _ _ _ (by simp)
 have p0:=hp 0;have p1:=hp 1;have q0:=hq 0;have q1:=hq 1;simp only [List.getElem?_toArray,List.getElem?_cons_zero,List.getElem?_cons_succ] at p0 p1 q0 q1;have HU:=AQ hu;have HA:=AQ ha;have HB:=AQ hb;have HOR:=AQ (show ∀w:World,Calls Tryz.prog 100 #[.slice (some ⟨w.heap.size,0,none⟩) 2 2] (w.alloc (.cells #[.int .i64 r,.int .i64 s] 3)) fun e w'=>e=.returned (.int .i64 (orZ r s))∧Bf [] (w.alloc (.cells #[.int .i64 r,.int .i64 s] 3)) w' from fun w=>orC w.heap.size r s _ (by rw [World.cell?_alloc_at _ _ _ _ rfl];rfl) (by rw [World.cell?_alloc_at _ _ _ _ rfl];rfl));clear hp hq hu ha hb hr hs hi hj;go_enter Tryz.func292,Tryz.ntmps292
 go_upto_region 1 with fail
 generalize ((w.alloc (.cells #[.int .i64 a,.int .u32 i'] 218)).alloc (.cells #[.int .i64 b,.int .u32 j'] 218))=W at p0 p1 q0 q1 HU ⊢;generalize w.heap.size=p at p0 p1 q0 q1 ⊢;have HC:=AQ (show W.drew.cell? ⟨p,0,none⟩=some (.int .i64 a)∧W.drew.cell? ⟨p,1,none⟩=some (.int .u32 i')∧W.drew.cell? ⟨p+1,0,none⟩=some (.int .i64 b)∧W.drew.cell? ⟨p+1,1,none⟩=some (.int .u32 j') from ⟨p0,p1,q0,q1⟩);clear p0 p1 q0 q1;obtain ⟨Wd,hWd⟩:∃Wd,Wd=W.drew:=⟨_,rfl⟩;have HUd:=AQ (show Bf [] w Wd by rw [hWd];exact HU.out.drew);refine Bj.start [9,10,11,12] (fun w'=>w'.cell? ⟨p,0,none⟩=some (.int .i64 a)∧w'.cell? ⟨p,1,none⟩=some (.int .u32 i')∧w'.cell? ⟨p+1,0,none⟩=some (.int .i64 b)∧w'.cell? ⟨p+1,1,none⟩=some (.int .u32 j')) (by kernel_rfl) ?_ fun hS=>?_
 ·exact HC.out
 rw [←hWd] at hS ⊢;clear hWd;refine' Bj.mw 0 (oi:=⟨some 5,_,_,_,_,_⟩) ?_
 simp only [Act.put,sA,sZ,sS];refine' Bj.tl 3 1 (oi:=⟨some 6,_,_,_,_,_⟩) ?_
 simp only [Act.put,sA,sZ,sS];refine' Bj.mw 2 (oi:=⟨some 7,_,_,_,_,_⟩) ?_
 simp only [Act.put,sA,sZ,sS];refine' Bj.tl 3 3 (oi:=⟨some 8,_,_,_,_,_⟩) ?_
 simp only [Act.put,sA,sZ,sS];refine' Bj.mw 5 (oi:=⟨some 10,_,_,_,_,_⟩) ?_
 simp only [Act.put,sA,sZ,sS];refine' Bj.tl 3 6 (oi:=⟨some 11,_,_,_,_,_⟩) ?_
 simp only [Act.put,sA,sZ,sS];refine' Bj.mw 7 (oi:=⟨some 12,_,_,_,_,_⟩) ?_
 simp only [Act.put,sA,sZ,sS];refine' Bj.tl 3 8 (oi:=⟨some 13,_,_,_,_,_⟩) ?_
 simp only [Act.put,sA,sZ,sS];refine Bj.one (i:=4) (o:=⟨some 9,_,_,_,_,_⟩) rfl (by kernel_rfl) fun K hK=>?_
 go_simp
 go_at_call 182
 (with_reducible refine (HA.out _).mono ?_);rintro e w' ⟨rfl,rfl⟩;refine hK.out _ _ (fun _ h=>?_) ?_
 ·exact h
 clear hK K;try simp only [Act.put,sA,sZ,sS]
 refine Bj.one (i:=9) (o:=⟨some 14,_,_,_,_,_⟩) rfl (by kernel_rfl) fun K hK=>?_
 go_simp
 go_at_call 136
 (with_reducible refine (HB.out _).mono ?_);rintro e w' ⟨rfl,rfl⟩;refine hK.out _ _ (fun h=>(by cases h)) ?_
 clear hK K;try simp only [Act.put,sA,sZ,sS]
 refine Bj.one (i:=10) (o:=⟨some 15,_,_,_,_,_⟩) rfl (by kernel_rfl) fun K hK=>?_
 go_simp
 refine hK.out _ _ (fun h=>(by cases h)) ?_
 clear hK K;try simp only [Act.put,sA,sZ,sS]
 refine Bj.one (i:=11) (o:=⟨some 16,_,_,_,_,_⟩) rfl (by kernel_rfl) fun K hK=>?_
 go_simp
 go_at_call 100
 (with_reducible refine (HOR.out _).mono ?_);rintro e w5 ⟨rfl,GR⟩;refine hK.out _ _ (fun h=>(by cases h)) ?_
 clear hK K;try simp only [Act.put,sA,sZ,sS]
 have LJ:=AQ GR;clear GR;refine' Bj.mw 12 (oi:=⟨some 4,_,_,_,_,_⟩) ?_
 simp only [Act.put,sA,sZ,sS];refine Bj.done (by kernel_rfl) ?_
 go_wp2_with fail
 go_ret
 exact ⟨rfl,(HUd.out.alloc _).trans LJ.out⟩
theorem lU {w w':World} {a1 a2:Addr} {v1 v2:Value} (h:w.cell? a1=some v1∧w.cell? a2=some v2) (hu:Bf [] w w'):w'.cell? a1=some v1∧w'.cell? a2=some v2:=by
 have e:∀{a:Addr} {v:Value},w.cell? a=some v→w'.cell? a=some v:=fun {a v} ha=>(hu.cell (World.block_lt_of_cell? w _ ha) (by simp)).trans ha
 exact ⟨e h.1,e h.2⟩
def kf (K:List (Int×Nat)) (i:Nat):Int×Nat:=K[i]?.getD (0,0)
def Yt (K:List (Int×Nat)) (i j:Nat):Bool:=!ahead (kf K j) (kf K i)
theorem a3P {K:List (Int×Nat)} {i:Nat} (h:i<K.length):K[i]? = some (kf K i):=by
 unfold kf;rw [AX h];rfl
theorem pF (K:List (Int×Nat)) (a b c:Nat):Yt K a b=true→Yt K b c=true→Yt K a c=true:=by
 unfold Yt;simp only [Bool.not_eq_true',←Bool.not_eq_true,UL];omega
theorem pG (K:List (Int×Nat)) (a b:Nat):(Yt K a b||Yt K b a)=true:=by
 unfold Yt;rw [Bool.or_eq_true];simp only [Bool.not_eq_true',←Bool.not_eq_true,UL];omega
theorem KN.at {w:World} {A:Option Addr} {n C:Nat} {l:List Nat} (h:See KN w (.slice A n C) l) {k:Nat} {x:Nat} (hx:l[k]? = some x) :
 ∃b o,A=some ⟨b,o,none⟩∧n≤C∧C≤maxLen∧w.cell? ⟨b,o+k,none⟩=some (.int .i64 (x:Int)):=by
 obtain ⟨b,o,h1,h2,h3,h4⟩:=h.at hx;have:=h4 0 _ rfl;exact ⟨b,o,h1,h2,h3,by simpa [KN] using this⟩
theorem KK.at {w:World} {A:Option Addr} {n C:Nat} {l:List (Int×Nat)} (h:See KK w (.slice A n C) l) {k:Nat} {x:Int×Nat} (hx:l[k]? = some x) :
 ∃b o,A=some ⟨b,o,none⟩∧n≤C∧C≤maxLen∧w.cell? ⟨b,o+k*2,none⟩=some (.int .i64 x.1)∧w.cell? ⟨b,o+k*2+1,none⟩=some (.int .u32 (x.2:Int)):=by
 obtain ⟨b,o,h1,h2,h3,h4⟩:=h.at hx;exact ⟨b,o,h1,h2,h3,h4 0 _ rfl,h4 1 _ rfl⟩
theorem a5V (vk:Value) (K:List (Int×Nat)) (pk i:Nat) (w:World) (hc:w.cell? ⟨pk,0,none⟩=some vk) (hs:See KK w vk K) (hi:i<K.length) :
 Calls Tryz.prog 219 #[.int .i64 (i:Int),.pointer (some ⟨pk,0,none⟩)] w fun e w'=>e=.returned (iV (kf K i))∧Bf [] w w':=by
 obtain ⟨A,C,rfl⟩:=hs.form;obtain ⟨g,o,hA,-,-,c0,c1⟩:=KK.at hs (a3P hi);subst hA;obtain ⟨x,hx⟩:=AO (kf K i);rw [hx] at c0 c1 ⊢;obtain ⟨a,j⟩:=x;unfold iV;dsimp only at c0 c1 ⊢;have b0:(0:Int)≤(i:Int):=AU _;have b1:(i:Int)<(K.length:Int):=by omega
 have hu1:Bf [] w (w.alloc (.cells #[.int .i64 0,.int .u32 0] 218)):=(Bf.refl _ _).alloc _;have d0:=(hu1.cell (p:=⟨pk,0,none⟩) (World.block_lt_of_cell? w _ hc) (by simp)).trans hc;have d1:=(hu1.cell (p:=⟨g,o+i*2,none⟩) (World.block_lt_of_cell? w _ c0) (by simp)).trans c0;have d2:=(hu1.cell (p:=⟨g,o+i*2+1,none⟩) (World.block_lt_of_cell? w _ c1) (by simp)).trans c1;clear hu1;clear hs hi hx;go_enter Tryz.func219,Tryz.ntmps219
 go_wp2_with fail
 exact bodyPost_ret (v:=.agg #[.int .i64 a,.int .u32 (j:Int)]) (by simp [results,Tryz.results219,go_sem]) rfl ⟨rfl,(Bf.refl _ _).alloc _⟩
theorem lV {w:World} {A:Option Addr} {n C:Nat} {x:Nat} {l:List Nat} (h:See KN w (.slice A n C) (x::l)) :
 ∃A' C',(∀w',(Instr.slice 163 (.slice A n C) (some (.int .i64 1)) none none).run Tryz.prog w'=.ok (.slice A' l.length C') w')∧See KN w (.slice A' l.length C') l∧n=l.length+1:=by
 obtain ⟨A0,C0,e⟩:=h.form;injection e with e1 e2 e3;subst e1 e3;have e2':n=l.length+1:=by simpa using e2
 obtain ⟨i1,hi1,hy0,hy1,hy2⟩:=info_parts (show (Tryz.prog.info? 3).map (fun i=>(i.zero,i.size,i.bytes))=some (some (.int .i64 0),1,8) by kernel_rfl)
 have h':Ed w 1 (.slice A n C) n (KN.all (x::l)):=by
  have h2:=h;unfold See at h2;rw [List.length_cons,←e2'] at h2;exact h2
 obtain ⟨A',C',r1,r2,r3⟩:=Nj (P:=Tryz.prog) Tryz.underlying163 hi1 hy1 h' 1 (by omega);rw [e2',Nat.add_sub_cancel] at r1 r2;refine ⟨A',C',fun w'=>by rw [e2'];exact r1 w',?_,e2'⟩
 have:=r2 w (by rw [←e2'];exact h');exact this
def VY (w:World) (M:List Nat) (n:Nat) (e:Ending) (w':World):Prop:=∃A C,e=.returned (.tuple #[.slice A n C,.int .i64 (n:Int)])∧See KN w' (.slice A n C) M∧Bf [] w w'∧∀k∈blk (.slice A n C),w.heap.size≤k
theorem Qy:(Tryz.prog.info? 3).map (fun i=>(i.zero,i.size,i.bytes))=some (some (.int .i64 0),1,8):=by kernel_rfl
theorem a0D (vk va0 vb0:Value) (K:List (Int×Nat)) (pk:Nat) (a b:List Nat) (w:World) (hc:w.cell? ⟨pk,0,none⟩=some vk) (hK:See KK w vk K) (ha:See KN w va0 a) (hb:See KN w vb0 b)
 (ia:∀i∈a,i<K.length) (ib:∀i∈b,i<K.length) (hn:a.length+b.length<10000000) :
 Calls Tryz.prog 258 #[.func (.func 219) #[] #[.pointer (some ⟨pk,0,none⟩)],va0,vb0] w (VY w (List.merge a b (Yt K)) (a.length+b.length)):=by
 obtain ⟨i1,hi1,hy0,hy1,hy2⟩:=info_parts Qy;obtain ⟨Aa,Ca,rfl⟩:=ha.form;obtain ⟨Ab,Cb,rfl⟩:=hb.form;unfold VY;obtain ⟨n,hnn⟩:=AO (a.length+b.length);rw [hnn] at hn ⊢;obtain ⟨W0,hW0⟩:=AO (((w.alloc (.cells #[.slice Aa a.length Ca] 163)).alloc (.cells #[.slice Ab b.length Cb] 163)));have hu0:Bf [] w W0:=by rw [←hW0];exact ((Bf.refl _ _).alloc _).alloc _
 have h4:W0.heap[w.heap.size]? = some (.cells #[.slice Aa a.length Ca] 163 (0,0)):=by rw [←hW0,Below.heap_alloc _ _ _ (by simp),heap_alloc_new]
 have h5:W0.heap[w.heap.size+1]? = some (.cells #[.slice Ab b.length Cb] 163 (0,0)):=by
  rw [←hW0];have:=heap_alloc_new (w.alloc (.cells #[.slice Aa a.length Ca] 163)) (.cells #[.slice Ab b.length Cb] 163);simpa using this
 obtain ⟨p,hp⟩:=AO w.heap.size;rw [hp] at h4 h5;obtain ⟨B,hB⟩:=AO W0.heap.size;have hpB:p+1<B:=by rw [←hB];exact lt_of_block h5
 obtain ⟨w1,hmk,hrow,hg⟩:=run_make_own (P:=Tryz.prog) W0 B 163 3 i1 (.int .i64 0) 1 Tryz.underlying163 hi1 hy0 hy1 .i64 .i64 n (by rw [hy2];omega) (by unfold maxLen;omega) (by omega)
 have hmk':(Instr.makeSlice 163 (.int .i64 0) (.int .i64 ((a.length:Int)+(b.length:Int)))).run Tryz.prog W0=.ok (.slice (some ⟨W0.heap.size,0,none⟩) 0 n) w1:=by
  have e:(a.length:Int)+(b.length:Int)=(n:Int):=by omega
  rw [e];exact hmk
 have hu1:Bf [] W0 w1:=(Bf.refl _ _).grown hg (by simp);have c4:W0.cell? ⟨p,0,none⟩=some (.slice Aa a.length Ca):=by simp [World.cell?,h4]
 have c5:W0.cell? ⟨p+1,0,none⟩=some (.slice Ab b.length Cb):=by simp [World.cell?,h5]
 have la:(a.length:Int)≤10000000:=by omega
 have lb:(b.length:Int)≤10000000:=by omega
 have k4:=(hu1.block p (lt_of_block h4) (by simp)).trans h4;have k5:=(hu1.block (p+1) (lt_of_block h5) (by simp)).trans h5;have hpk:pk<w.heap.size:=World.block_lt_of_cell? w _ hc;have HKF:=AQ (show ∀(wz:World),Bf [] w wz→∀i,i<K.length→Calls Tryz.prog 219 #[.int .i64 (i:Int),.pointer (some ⟨pk,0,none⟩)] wz fun e w'=>e=.returned (iV (kf K i))∧Bf [] wz w' from fun wz hu i hi=>a5V vk K pk i wz ((hu.cell (p:=⟨pk,0,none⟩) hpk (by simp)).trans hc) (hK.Bh hu) hi);have HST:=AQ (show KN.row w1 B (.slice (some ⟨W0.heap.size,0,none⟩) 0 n) [] from hrow);have FY:=AQ (hu0.trans hu1);have a5W:=Ai k4 k5;have JG:=AQ (show w.heap.size≤B∧B≤w1.heap.size∧p+1<B∧w.heap.size=p from ⟨by rw [←hB];exact hu0.size,by rw [←hB];exact hu1.size,hpB,hp⟩);have HAB:=Ai ha hb;have HII:=Ai ia ib;have HN:=Ai hnn hn;have HWE:=Ai hW0 hp;have HMK:=AQ hmk';have HCC:=Ai c4 c5;clear hmk hrow hg hu0 hu1 h4 h5 k4 k5 hpk hpB ha hb ia ib hK hc hn hmk' c4 c5 hnn hB hp hW0;go_enter Tryz.func258,Tryz.ntmps258
 go_upto_region 1 with fail
 rw [HWE.1,HWE.2];have hmk':=HMK.out;obtain ⟨c4,c5⟩:=HCC.out;go_wp2_with fail
 clear hmk' c4 c5
 go_loopg [8] n (fun m s8 wr=>∃(xs ys ps:List Nat) (A C:_) (Ax Cx Ay Cy:_),m=xs.length+ys.length∧s8=.slice A ps.length C∧KN.row wr B (.slice A ps.length C) ps∧List.merge a b (Yt K)=ps++List.merge xs ys (Yt K)∧ps.length+xs.length+ys.length=n∧
  wr.heap[p]? = some (.cells #[.slice Ax xs.length Cx] 163 (0,0))∧wr.heap[p+1]? = some (.cells #[.slice Ay ys.length Cy] 163 (0,0))∧See KN w (.slice Ax xs.length Cx) xs∧See KN w (.slice Ay ys.length Cy) ys∧(∀i∈xs,i<K.length)∧(∀i∈ys,i<K.length)∧Bf [] w wr∧B≤wr.heap.size)
 case atStart=>exact ⟨a,b,[],_,_,Aa,Ca,Ab,Cb,HN.1.symm,rfl,HST.out,rfl,by have:=HN.1;simp;omega,a5W.1,a5W.2,HAB.1,HAB.2,HII.1,HII.2,FY.out,JG.2.1⟩
 case round=>
  obtain ⟨xs,ys,ps,A,C,Ax,Cx,Ay,Cy,hm,rfl,hrow,hmg,hln,h4,h5,hsa,hsb,ia,ib,hu,hbs⟩:=hrel;have c4:wr.cell? ⟨p,0,none⟩=some (.slice Ax xs.length Cx):=by simp [World.cell?,h4]
  have c5:wr.cell? ⟨p+1,0,none⟩=some (.slice Ay ys.length Cy):=by simp [World.cell?,h5]
  have Vp:=AQ hln;have HLEN:=AQ (show ps.length+xs.length+ys.length<10000000 by have:=HN.out;omega);have HSA:=AQ hsa;have YN:=AQ hsb;have HU:=AQ hu;have L9:=AQ hrow;have a0E:=AQ hmg;have H45:=Ai h4 h5;have lW:=Ai ia ib;have HM:=AQ hm;have a0F:=AQ hbs;clear hln hsa hsb hu hrow hmg h4 h5 ia ib hm hbs;by_cases h1:0<xs.length
  ·have g1:decide (0<xs.length)=true:=decide_eq_true h1;have g1':(0:Int)<(xs.length:Int):=by omega
   by_cases h2:0<ys.length
   ·have g2:decide (0<ys.length)=true:=decide_eq_true h2;have g2':(0:Int)<(ys.length:Int):=by omega
    obtain ⟨x,xs',rfl⟩:∃x xs',xs=x::xs':=by cases xs with | nil=>simp at h1 | cons x xs=>exact ⟨x,xs,rfl⟩
    obtain ⟨y,ys',rfl⟩:∃y ys',ys=y::ys':=by cases ys with | nil=>simp at h2 | cons y ys=>exact ⟨y,ys,rfl⟩
    obtain ⟨gx,ox,hAx,-,-,fx⟩:=KN.at (HSA.out.Bh HU.out) (k:=0) (x:=x) rfl;obtain ⟨gy,oy,hAy,-,-,fy⟩:=KN.at (YN.out.Bh HU.out) (k:=0) (x:=y) rfl;rw [Nat.add_zero] at fx fy;subst hAx hAy;obtain ⟨Ax',Cx',tx,sx,-⟩:=lV HSA.out;obtain ⟨Ay',Cy',ty,sy,-⟩:=lV YN.out;have HTX:=Ai tx sx;have lX:=Ai ty sy;obtain ⟨nx,hnx⟩:∃m,(x::xs').length=m:=⟨_,rfl⟩;obtain ⟨ny,hny⟩:∃m,(y::ys').length=m:=⟨_,rfl⟩;rw [hnx] at c4 g1 g1' H45 HTX;rw [hny] at c5 g2 g2' H45 lX;have VZ:=Ai hnx hny;clear tx sx ty sy h1 h2 hnx hny;have q4:∀z:QW wr,z.w.cell? ⟨p,0,none⟩=some (.slice (some ⟨gx,ox,none⟩) nx Cx):=fun z=>(z.up.cell (p:=⟨p,0,none⟩) (World.block_lt_of_cell? wr _ c4) (by simp)).trans c4
    have q5:∀z:QW wr,z.w.cell? ⟨p+1,0,none⟩=some (.slice (some ⟨gy,oy,none⟩) ny Cy):=fun z=>(z.up.cell (p:=⟨p+1,0,none⟩) (World.block_lt_of_cell? wr _ c5) (by simp)).trans c5
    have q6:∀z:QW wr,z.w.cell? ⟨gx,ox,none⟩=some (.int .i64 (x:Int)):=fun z=>(z.up.cell (p:=⟨gx,ox,none⟩) (World.block_lt_of_cell? wr _ fx) (by simp)).trans fx
    have q7:∀z:QW wr,z.w.cell? ⟨gy,oy,none⟩=some (.int .i64 (y:Int)):=fun z=>(z.up.cell (p:=⟨gy,oy,none⟩) (World.block_lt_of_cell? wr _ fy) (by simp)).trans fy
    have k1:=fun (z:QW wr)=>HKF.out z.w (HU.out.trans z.up) y (lW.2 y (by simp))
    have k2:=fun (z:QW wr)=>HKF.out z.w (HU.out.trans z.up) x (lW.1 x (by simp))
    have k3:=fun (z:QW wr)=>a3O (kf K y) (kf K x) z.w
    have hle:Yt K x y = !ahead (kf K y) (kf K x):=rfl;unfold ahead at hle;unfold iV at k1 k2 k3;obtain ⟨ry,hry⟩:∃r,kf K y=r:=⟨_,rfl⟩;obtain ⟨rx,hrx⟩:∃r,kf K x=r:=⟨_,rfl⟩;simp only [hry,hrx] at k1 k2 k3 hle;obtain ⟨od,hod⟩:∃r,uS ry rx=r:=⟨_,rfl⟩;simp only [hod] at k3;rw [hod] at hle;obtain ⟨c,hc⟩:∃c,decide (od<0)=c:=⟨_,rfl⟩;rw [hc] at hle;have tu:=AQ k1;have HK2:=AQ k2;have HK3:=AQ k3;have HLE:=AQ hle;clear k1 k2 k3 hle hry hrx hod fx fy
    cases c
    ·go_upto_region 4 with fail
     clear c4 c5;refine Jf (by kernel_rfl) (by kernel_rfl) ?_
     repeat (go_big_quiet_step (first | (with_reducible exact Calls.Oj (tu.out _)) | (with_reducible exact Calls.Oj (HK2.out _)) | (with_reducible exact Calls.Oj (HK3.out _))))
     refine wpQuiet_nil ?_
     intro wq hw';obtain ⟨⟨wy,hwq⟩,hw''⟩:=hw';dsimp only at hw'';subst hw'';have HUQ:=AQ hwq;have e4:=q4 ⟨wq,hwq⟩;have e5:=q5 ⟨wq,hwq⟩;have e6:=q6 ⟨wq,hwq⟩;have e7:=q7 ⟨wq,hwq⟩;dsimp only at e4 e5 e6 e7;have HEQ:=Ai e4 e5;have hrq:KN.row wq B (.slice A ps.length C) ps:=Bg L9.out hwq (by simp);have HRQ:=AQ hrq;have HBQ:=AQ (show B≤wq.heap.size from Bd a0F.out hwq.size);have g1:(0:Int)<(nx:Int):=by assumption
     clear q4 q5 q6 q7 hwq hrq;go_wp2_with (at_builtin;refine BL _ rfl _ _ 163 rfl B 3 i1 (.int .i64 0) 1 8 Tryz.underlying163 hi1 hy0 hy1 hy2 rfl (by decide) _ _ _ rfl (Bg HRQ.out ((Bf.refl [] _).alloc _) (by simp)) _ 1 [.int .i64 (x:Int)] rfl (BM wq #[.int .i64 (x:Int)] 3 1 1 rfl (by decide)) (by simp [Value.oneCell']) (by have:=HLEN.out;unfold maxLen;omega) (Ac HLEN) (by have:=HBQ.out;simp;omega) ?_)
     intro A6 C6 w6 HP
     have J3:KN.row w6 B (.slice A6 (ps.length+1) C6) (ps++[x]):=by
      have:=HP.own;unfold Kind.row;rw [Kind.Ci,AY];exact this
     have Ol:Bf (blk (.slice A ps.length C)) wq w6:=((Bf.refl _ _).alloc _).trans HP.upd;have hpn:p∉blk (.slice A ps.length C)∧p+1∉blk (.slice A ps.length C):=⟨fun h=>by have:=BD L9.out _ h;have:=JG.out;omega,fun h=>by have:=BD L9.out _ h;have:=JG.out;omega⟩;have b4:=(Ol.block p (World.block_lt_of_cell? wq _ HEQ.1) hpn.1).trans ((HUQ.out.block p (lt_of_block H45.1) (by simp)).trans H45.1);have b5:=(Ol.block (p+1) (World.block_lt_of_cell? wq _ HEQ.2) hpn.2).trans ((HUQ.out.block (p+1) (lt_of_block H45.2) (by simp)).trans H45.2);have f4:w6.cell? ⟨p,0,none⟩=some (.slice (some ⟨gx,ox,none⟩) nx Cx):=by simp [World.cell?,b4]
     have f5:w6.cell? ⟨p+1,0,none⟩=some (.slice (some ⟨gy,oy,none⟩) ny Cy):=by simp [World.cell?,b5]
     have f6:w6.frozen? ⟨p,0,none⟩=false:=by simp [World.frozen?,b4]
     have f7:w6.frozen? ⟨p+1,0,none⟩=false:=by simp [World.frozen?,b5]
     have tt:=HTX.1;have OJ:=AQ J3;have Jv:=AQ (show Bf [] w w6 from (HU.out.trans HUQ.out).trans' Ol (fun k hk=>.inr (by have:=BD L9.out k hk;have:=JG.out;omega)));have HB6:=AQ (show B≤w6.heap.size from Bd HBQ.out Ol.size);have uT:=Ai b4 b5;clear e4 e5 e6 e7 HP J3 Ol hpn b4 b5;go_wp2_with fail
     have HRS:=AQ (show KN.row (w6.setCell ⟨p,0,none⟩ (.slice Ax' xs'.length Cx')) B (.slice A6 (ps.length+1) C6) (ps++[x]) from FC OJ.out fun k hk=>Below.heap_setCell _ _ _ _ (fun e=>by have h1:=BD OJ.out k hk;have h2:=JG.out;dsimp only at e;omega));go_roundg (xs'.length+ys'.length+1)
     case measure=>have h1:=HM.out;have h2:=VZ.out;simp at h1;omega
     case rel=>exact ⟨xs',y::ys',ps++[x],A6,C6,Ax',Cx',some ⟨gy,oy,none⟩,Cy,by simp;omega,by simp,by rw [AY];exact HRS.out,by rw [a0E.out,List.cons_merge_cons,HLE.out];simp,by have:=Vp.out;simp at this ⊢;omega,heap_set uT.1 0 _,by rw [Below.heap_setCell _ _ _ _ (by dsimp only;omega),VZ.2];exact uT.2,HTX.2,YN.out,fun i hi=>lW.1 i (List.mem_cons_of_mem _ hi),fun i hi=>lW.2 i hi,Jv.out.setCell (.inr (by have:=JG.out;dsimp only;omega)) _,by simpa [World.setCell] using HB6.out⟩
    ·go_upto_region 4 with fail
     clear c4 c5;refine Jf (by kernel_rfl) (by kernel_rfl) ?_
     repeat (go_big_quiet_step (first | (with_reducible exact Calls.Oj (tu.out _)) | (with_reducible exact Calls.Oj (HK2.out _)) | (with_reducible exact Calls.Oj (HK3.out _))))
     refine wpQuiet_nil ?_
     intro wq hw';obtain ⟨⟨wy,hwq⟩,hw''⟩:=hw';dsimp only at hw'';subst hw'';have HUQ:=AQ hwq;have e4:=q4 ⟨wq,hwq⟩;have e5:=q5 ⟨wq,hwq⟩;have e6:=q6 ⟨wq,hwq⟩;have e7:=q7 ⟨wq,hwq⟩;dsimp only at e4 e5 e6 e7;have HEQ:=Ai e4 e5;have hrq:KN.row wq B (.slice A ps.length C) ps:=Bg L9.out hwq (by simp);have HRQ:=AQ hrq;have HBQ:=AQ (show B≤wq.heap.size from Bd a0F.out hwq.size);have g1:(0:Int)<(ny:Int):=by assumption
     clear q4 q5 q6 q7 hwq hrq;go_wp2_with (at_builtin;refine BL _ rfl _ _ 163 rfl B 3 i1 (.int .i64 0) 1 8 Tryz.underlying163 hi1 hy0 hy1 hy2 rfl (by decide) _ _ _ rfl (Bg HRQ.out ((Bf.refl [] _).alloc _) (by simp)) _ 1 [.int .i64 (y:Int)] rfl (BM wq #[.int .i64 (y:Int)] 3 1 1 rfl (by decide)) (by simp [Value.oneCell']) (by have:=HLEN.out;unfold maxLen;omega) (Ac HLEN) (by have:=HBQ.out;simp;omega) ?_)
     intro A6 C6 w6 HP
     have J3:KN.row w6 B (.slice A6 (ps.length+1) C6) (ps++[y]):=by
      have:=HP.own;unfold Kind.row;rw [Kind.Ci,AY];exact this
     have Ol:Bf (blk (.slice A ps.length C)) wq w6:=((Bf.refl _ _).alloc _).trans HP.upd;have hpn:p∉blk (.slice A ps.length C)∧p+1∉blk (.slice A ps.length C):=⟨fun h=>by have:=BD L9.out _ h;have:=JG.out;omega,fun h=>by have:=BD L9.out _ h;have:=JG.out;omega⟩;have b4:=(Ol.block p (World.block_lt_of_cell? wq _ HEQ.1) hpn.1).trans ((HUQ.out.block p (lt_of_block H45.1) (by simp)).trans H45.1);have b5:=(Ol.block (p+1) (World.block_lt_of_cell? wq _ HEQ.2) hpn.2).trans ((HUQ.out.block (p+1) (lt_of_block H45.2) (by simp)).trans H45.2);have f4:w6.cell? ⟨p,0,none⟩=some (.slice (some ⟨gx,ox,none⟩) nx Cx):=by simp [World.cell?,b4]
     have f5:w6.cell? ⟨p+1,0,none⟩=some (.slice (some ⟨gy,oy,none⟩) ny Cy):=by simp [World.cell?,b5]
     have f6:w6.frozen? ⟨p,0,none⟩=false:=by simp [World.frozen?,b4]
     have f7:w6.frozen? ⟨p+1,0,none⟩=false:=by simp [World.frozen?,b5]
     have tt:=lX.1;have OJ:=AQ J3;have Jv:=AQ (show Bf [] w w6 from (HU.out.trans HUQ.out).trans' Ol (fun k hk=>.inr (by have:=BD L9.out k hk;have:=JG.out;omega)));have HB6:=AQ (show B≤w6.heap.size from Bd HBQ.out Ol.size);have uT:=Ai b4 b5;clear e4 e5 e6 e7 HP J3 Ol hpn b4 b5;go_wp2_with fail
     have HRS:=AQ (show KN.row (w6.setCell ⟨p+1,0,none⟩ (.slice Ay' ys'.length Cy')) B (.slice A6 (ps.length+1) C6) (ps++[y]) from FC OJ.out fun k hk=>Below.heap_setCell _ _ _ _ (fun e=>by have h1:=BD OJ.out k hk;have h2:=JG.out;dsimp only at e;omega));go_roundg (xs'.length+ys'.length+1)
     case measure=>have h1:=HM.out;have h2:=VZ.out;simp at h1;omega
     case rel=>exact ⟨x::xs',ys',ps++[y],A6,C6,some ⟨gx,ox,none⟩,Cx,Ay',Cy',by simp;omega,by simp,by rw [AY];exact HRS.out,by rw [a0E.out,List.cons_merge_cons,HLE.out];simp,by have:=Vp.out;simp at this ⊢;omega,by rw [Below.heap_setCell _ _ _ _ (by dsimp only;omega),VZ.1];exact uT.1,heap_set uT.2 0 _,HSA.out,lX.2,fun i hi=>lW.1 i hi,fun i hi=>lW.2 i (List.mem_cons_of_mem _ hi),Jv.out.setCell (.inr (by have:=JG.out;dsimp only;omega)) _,by simpa [World.setCell] using HB6.out⟩
   ·have g2:decide (0<ys.length)=false:=decide_eq_false h2;have g2':¬(0:Int)<(ys.length:Int):=by omega
    have HMG:=AQ (show List.merge a b (Yt K)=ps++xs++ys by
     have:ys = []:=List.length_eq_zero_iff.1 (by omega);rw [a0E.out,this,List.append_assoc];congr 1;cases xs<;>simp)
    clear h1 h2;go_upto_region 8 with fail
    obtain ⟨Wd,hWd⟩:∃Wd,Wd=wr.drew:=⟨_,rfl⟩;have hD0:Bf [] wr Wd:=by rw [hWd];exact (Bf.refl _ _).drew
    have HC2:=AQ (lU (AP c4 c5) hD0);have Uo:=AQ (HU.out.trans hD0);have LP:=AQ (show KN.row Wd B (.slice A ps.length C) ps from Bg L9.out hD0 (by simp));have HBS:=AQ (show B≤Wd.heap.size from Bd a0F.out hD0.size);have HPN:=AQ (show p∉blk (.slice A ps.length C)∧p+1∉blk (.slice A ps.length C) from ⟨fun h=>by have:=BD L9.out _ h;have:=JG.out;omega,fun h=>by have:=BD L9.out _ h;have:=JG.out;omega⟩);clear c4 c5 hD0;refine Bj.start [4,5] (fun w'=>w'.cell? ⟨p,0,none⟩=some (.slice Ax xs.length Cx)∧w'.cell? ⟨p+1,0,none⟩=some (.slice Ay ys.length Cy)) (by kernel_rfl) ?_ fun hS=>?_
    ·exact by rw [←hWd];exact HC2.out
    rw [←hWd] at hS ⊢;clear hWd;refine' Bj.mw 0 (oi:=⟨some 50,_,_,_,_,_⟩) ?_
    simp only [Act.put,sA,sZ,sS];refine' Bj.tl 2 1 (oi:=⟨some 51,_,_,_,_,_⟩) ?_
    simp only [Act.put,sA,sZ,sS];refine' Bj.tl 2 3 (oi:=⟨some 53,_,_,_,_,_⟩) ?_
    simp only [Act.put,sA,sZ,sS];refine Bj.one (i:=2) (o:=⟨some 52,_,_,_,_,_⟩) rfl (by kernel_rfl) fun K hK=>?_
    refine FH _ (by rfl) _ _ 163 (by rfl) B 3 i1 (.int .i64 0) 1 8 Tryz.underlying163 hi1 hy0 hy1 hy2 rfl (by decide) _ _ _ (by rfl) LP.out _ xs.length (KN.all xs) (by rfl) (HSA.out.Bh Uo.out) (KN.DZ xs) (by have:=HLEN.out;unfold maxLen;omega) (Ac HLEN) HBS.out ?_
    intro A5 C5 w5 HP;refine hK.out _ _ (fun _ h=>?_) ?_
    ·exact ⟨(HP.upd.cell (p:=⟨p,0,none⟩) (World.block_lt_of_cell? Wd _ h.1) HPN.1).trans h.1,(HP.upd.cell (p:=⟨p+1,0,none⟩) (World.block_lt_of_cell? Wd _ h.2) HPN.2).trans h.2⟩
    clear hK K;try simp only [Act.put,sA,sZ,sS]
    have Jc:KN.row w5 B (.slice A5 (ps.length+xs.length) C5) (ps++xs):=by
     have:=HP.own;unfold Kind.row;rw [Kind.Ci,AY];exact this
    have LJ:=AQ (Uo.out.trans' HP.upd (fun k hk=>.inr (by have:=BD LP.out k hk;have:=JG.out;omega)));have HR5:=AQ Jc;have HB5:=AQ (Bd HBS.out HP.upd.size);clear HP Jc;refine Bj.one (i:=4) (o:=⟨some 54,_,_,_,_,_⟩) rfl (by kernel_rfl) fun K hK=>?_
    refine FH _ (by rfl) _ _ 163 (by rfl) B 3 i1 (.int .i64 0) 1 8 Tryz.underlying163 hi1 hy0 hy1 hy2 rfl (by decide) _ _ _ (by rfl) (show w5.ownsRow B 3 1 (.slice A5 (ps.length+xs.length) C5) (ps.length+xs.length) (KN.all (ps++xs)) by have:=HR5.out;unfold Kind.row at this;rw [AY] at this;exact this) _ ys.length (KN.all ys) (by rfl) (YN.out.Bh LJ.out) (KN.DZ ys) (by have:=HLEN.out;unfold maxLen;omega) (Ac HLEN) HB5.out ?_
    intro A6 C6 w6 HP;refine hK.out _ _ (fun h=>(by cases h)) ?_
    clear hK K;try simp only [Act.put,sA,sZ,sS]
    have J3:KN.row w6 B (.slice A6 (ps.length+xs.length+ys.length) C6) (ps++xs++ys):=by
     have:=HP.own;unfold Kind.row;rw [Kind.Ci,AY,AY];exact this
    have Jv:=AQ (LJ.out.trans' HP.upd (fun k hk=>.inr (by have:=BD HR5.out k hk;have:=JG.out;omega)));have OJ:=AQ J3;clear HP J3;refine' Bj.mw 5 (oi:=⟨some 8,_,_,_,_,_⟩) ?_
    simp only [Act.put,sA,sZ,sS];refine Bj.done (by kernel_rfl) ?_
    have hln:((ps.length:Int)+(xs.length:Int)+(ys.length:Int))=(n:Int):=Ac Vp;have Om:=AQ hln;clear hln;go_wp2_with fail
    go_ret2
    exact ⟨A6,C6,by rw [←Vp.out];rfl,by rw [HMG.out,←Vp.out];exact See.BX OJ.out,Jv.out,fun k hk=>by have:=BD OJ.out k (by cases A6<;>exact hk);have:=JG.out;omega⟩
  ·have g1:decide (0<xs.length)=false:=decide_eq_false h1;have g1':¬(0:Int)<(xs.length:Int):=by omega
   have HMG:=AQ (show List.merge a b (Yt K)=ps++xs++ys by
    have:xs = []:=List.length_eq_zero_iff.1 (by omega);rw [a0E.out,this,List.append_assoc];congr 1;simp)
   clear h1;go_upto_region 8 with fail
   obtain ⟨Wd,hWd⟩:∃Wd,Wd=wr.drew:=⟨_,rfl⟩;have hD0:Bf [] wr Wd:=by rw [hWd];exact (Bf.refl _ _).drew
   have HC2:=AQ (lU (AP c4 c5) hD0);have Uo:=AQ (HU.out.trans hD0);have LP:=AQ (show KN.row Wd B (.slice A ps.length C) ps from Bg L9.out hD0 (by simp));have HBS:=AQ (show B≤Wd.heap.size from Bd a0F.out hD0.size);have HPN:=AQ (show p∉blk (.slice A ps.length C)∧p+1∉blk (.slice A ps.length C) from ⟨fun h=>by have:=BD L9.out _ h;have:=JG.out;omega,fun h=>by have:=BD L9.out _ h;have:=JG.out;omega⟩);clear c4 c5 hD0;refine Bj.start [4,5] (fun w'=>w'.cell? ⟨p,0,none⟩=some (.slice Ax xs.length Cx)∧w'.cell? ⟨p+1,0,none⟩=some (.slice Ay ys.length Cy)) (by kernel_rfl) ?_ fun hS=>?_
   ·exact by rw [←hWd];exact HC2.out
   rw [←hWd] at hS ⊢;clear hWd;refine' Bj.mw 0 (oi:=⟨some 50,_,_,_,_,_⟩) ?_
   simp only [Act.put,sA,sZ,sS];refine' Bj.tl 2 1 (oi:=⟨some 51,_,_,_,_,_⟩) ?_
   simp only [Act.put,sA,sZ,sS];refine' Bj.tl 2 3 (oi:=⟨some 53,_,_,_,_,_⟩) ?_
   simp only [Act.put,sA,sZ,sS];refine Bj.one (i:=2) (o:=⟨some 52,_,_,_,_,_⟩) rfl (by kernel_rfl) fun K hK=>?_
   refine FH _ (by rfl) _ _ 163 (by rfl) B 3 i1 (.int .i64 0) 1 8 Tryz.underlying163 hi1 hy0 hy1 hy2 rfl (by decide) _ _ _ (by rfl) LP.out _ xs.length (KN.all xs) (by rfl) (HSA.out.Bh Uo.out) (KN.DZ xs) (by have:=HLEN.out;unfold maxLen;omega) (Ac HLEN) HBS.out ?_
   intro A5 C5 w5 HP;refine hK.out _ _ (fun _ h=>?_) ?_
   ·exact ⟨(HP.upd.cell (p:=⟨p,0,none⟩) (World.block_lt_of_cell? Wd _ h.1) HPN.1).trans h.1,(HP.upd.cell (p:=⟨p+1,0,none⟩) (World.block_lt_of_cell? Wd _ h.2) HPN.2).trans h.2⟩
   clear hK K;try simp only [Act.put,sA,sZ,sS]
   have Jc:KN.row w5 B (.slice A5 (ps.length+xs.length) C5) (ps++xs):=by
    have:=HP.own;unfold Kind.row;rw [Kind.Ci,AY];exact this
   have LJ:=AQ (Uo.out.trans' HP.upd (fun k hk=>.inr (by have:=BD LP.out k hk;have:=JG.out;omega)));have HR5:=AQ Jc;have HB5:=AQ (Bd HBS.out HP.upd.size);clear HP Jc;refine Bj.one (i:=4) (o:=⟨some 54,_,_,_,_,_⟩) rfl (by kernel_rfl) fun K hK=>?_
   refine FH _ (by rfl) _ _ 163 (by rfl) B 3 i1 (.int .i64 0) 1 8 Tryz.underlying163 hi1 hy0 hy1 hy2 rfl (by decide) _ _ _ (by rfl) (show w5.ownsRow B 3 1 (.slice A5 (ps.length+xs.length) C5) (ps.length+xs.length) (KN.all (ps++xs)) by have:=HR5.out;unfold Kind.row at this;rw [AY] at this;exact this) _ ys.length (KN.all ys) (by rfl) (YN.out.Bh LJ.out) (KN.DZ ys) (by have:=HLEN.out;unfold maxLen;omega) (Ac HLEN) HB5.out ?_
   intro A6 C6 w6 HP;refine hK.out _ _ (fun h=>(by cases h)) ?_
   clear hK K;try simp only [Act.put,sA,sZ,sS]
   have J3:KN.row w6 B (.slice A6 (ps.length+xs.length+ys.length) C6) (ps++xs++ys):=by
    have:=HP.own;unfold Kind.row;rw [Kind.Ci,AY,AY];exact this
   have Jv:=AQ (LJ.out.trans' HP.upd (fun k hk=>.inr (by have:=BD HR5.out k hk;have:=JG.out;omega)));have OJ:=AQ J3;clear HP J3;refine' Bj.mw 5 (oi:=⟨some 8,_,_,_,_,_⟩) ?_
   simp only [Act.put,sA,sZ,sS];refine Bj.done (by kernel_rfl) ?_
   have hln:((ps.length:Int)+(xs.length:Int)+(ys.length:Int))=(n:Int):=Ac Vp;have Om:=AQ hln;clear hln;go_wp2_with fail
   go_ret2
   exact ⟨A6,C6,by rw [←Vp.out];rfl,by rw [HMG.out,←Vp.out];exact See.BX OJ.out,Jv.out,fun k hk=>by have:=BD OJ.out k (by cases A6<;>exact hk);have:=JG.out;omega⟩
def MP (n:Nat) (f:Nat→Nat):List Nat:=(List.range n).map f
theorem IV (n:Nat) (f:Nat→Nat):(MP n f).length=n:=by simp [MP]
theorem Pv {n:Nat} {f:Nat→Nat} {i:Nat} (h:i<n):(MP n f)[i]? = some (f i):=by
 unfold MP;rw [List.getElem?_map,List.getElem?_range h];rfl
theorem Xa {n:Nat} {f g:Nat→Nat} (h:∀i,i<n→f i=g i):MP n f=MP n g:=by
 unfold MP;exact List.map_congr_left fun i hi=>h i (List.mem_range.1 hi)
theorem uU (n:Nat) (f:Nat→Nat) (k b:Nat):(MP n f).set k b=MP n (fun i=>if i=k then b else f i):=by
 refine List.ext_getElem? fun i=>?_
 rw [List.getElem?_set];by_cases hk:k=i
 ·subst hk;rw [if_pos rfl];by_cases hn:k<n
  ·rw [if_pos (by rw [IV];exact hn),Pv hn,if_pos rfl]
  ·rw [if_neg (by rw [IV];exact hn),List.getElem?_eq_none (by rw [IV];omega)]
 ·rw [if_neg hk];by_cases hn:i<n
  ·rw [Pv hn,Pv hn,if_neg (Ne.symm hk)]
  ·rw [List.getElem?_eq_none (by rw [IV];omega),List.getElem?_eq_none (by rw [IV];omega)]
theorem iW (l:List Nat):KN.all l=l.map fun (x:Nat)=>(.int .i64 (x:Int):Value):=by
 induction l with
 |nil=>rfl
 |cons x l ih=>rw [List.map_cons,←ih];rfl
theorem a0G {w':World} {base g n:Nat} (h:w'.ownsRow base 3 1 (.slice (some ⟨g,0,none⟩) n n) n (madeCells #[.int .i64 0] (n*1)).toList):KN.row w' base (.slice (some ⟨g,0,none⟩) n n) (MP n (fun _=>0)):=by
 unfold Kind.row;rw [IV,iW];rw [Nat.mul_one,toList_madeCells_one] at h
 have e:((MP n fun _=>0).map fun (x:Nat)=>(.int .i64 (x:Int):Value))=List.replicate n (.int .i64 0):=by
  refine List.ext_getElem? fun i=>?_
  rw [List.getElem?_map,List.getElem?_replicate];by_cases hi:i<n
  ·rw [Pv hi,if_pos hi];rfl
  ·rw [List.getElem?_eq_none (by rw [IV];omega),if_neg hi];rfl
 rw [e];exact h
theorem pI {w:World} {base g n:Nat} {f:Nat→Nat} (h:KN.row w base (.slice (some ⟨g,0,none⟩) n n) (MP n f)) (k b:Nat) :
 KN.row (w.setCell ⟨g,k,none⟩ (.int .i64 (b:Int))) base (.slice (some ⟨g,0,none⟩) n n) (MP n (fun i=>if i=k then b else f i)):=by
 have hl:=IV n f
 have h':w.ownsRow base 3 1 (.slice (some ⟨g,0,none⟩) n n) n (KN.all (MP n f)):=by
  have h2:=h;unfold Kind.row at h2;rw [hl] at h2;exact h2
 have:=(World.ownsRow.stored h' k (.int .i64 (b:Int))).1;unfold Kind.row;rw [IV,←uU,iW,List.map_set,←iW];exact this
def uV (w:World) (n:Nat) (e:Ending) (w':World):Prop:=∃A C,e=.returned (.slice A n C)∧See KN w' (.slice A n C) (List.range n)∧Bf [] w w'∧∀k∈blk (.slice A n C),w.heap.size≤k
theorem a0H (n:Nat) (w:World) (hn:n<10000000):Calls Tryz.prog 220 #[.int .i64 0,.int .i64 (n:Int)] w (uV w n):=by
 obtain ⟨i1,hi1,hy0,hy1,hy2⟩:=info_parts Qy;unfold uV;obtain ⟨w1,hmk,ho,hg⟩:=run_make_full (P:=Tryz.prog) w w.heap.size 163 3 i1 (.int .i64 0) 1 Tryz.underlying163 hi1 hy0 hy1 .i64 .i64 n (by rw [hy2];omega) (by unfold maxLen;omega) (Nat.le_refl _);have hrow:=a0G ho;have hu1:Bf [] w w1:=(Bf.refl _ _).grown hg (by simp);have hz1:w.heap.size<w1.heap.size:=BK ho w.heap.size (by simp [blk]);have hnb:(n:Int)<10000000:=by omega
 have HR:=Aj hrow hu1 hz1;clear hrow hu1 hz1 ho hg hn;go_enter Tryz.func220,Tryz.ntmps220
 go_wp2_with fail
 go_loopg [11] n (fun m s11 wr=>∃k,m+k=n∧s11=.int .i64 (k:Int)∧KN.row wr w.heap.size (.slice (some ⟨w.heap.size,0,none⟩) n n) (MP n fun i=>if i<k then i else 0)∧Bf [] w wr)
 case atStart=>exact ⟨0,rfl,rfl,by have:=HR.1;simpa using this,HR.2.1⟩
 case round=>
  obtain ⟨k,hk,rfl,hrw,hu⟩:=hrel;have b0:(0:Int)≤(k:Int):=AU _;have HK:=AQ hk;by_cases hlt:k<n
  ·have b1:(k:Int)<(n:Int):=by omega
   obtain ⟨gq,hgq,-,eq1,eqf⟩:=rowAt (K:=KN) hrw (Pv (f:=fun i=>if i<k then i else 0) hlt);rw [if_neg (by omega)] at eq1
   cases hgq
   have q0:wr.cell? ⟨w.heap.size,k,none⟩=some (.int .i64 0):=by
    have:=eq1 0 _ rfl;simpa [KN] using this
   have qf:=eqf k;have hst:=pI hrw k k
   have e:(MP n fun i=>if i=k then k else if i<k then i else 0)=MP n fun i=>if i<k+1 then i else 0:=Xa fun i _=>by
    by_cases h1:i=k
    ·rw [if_pos h1,if_pos (by omega),h1]
    ·rw [if_neg h1];by_cases h2:i<k
     ·rw [if_pos h2,if_pos (by omega)]
     ·rw [if_neg h2,if_neg (by omega)]
   rw [e] at hst;have HST:=AQ hst;have HU:=AQ (hu.setCell (p:=⟨w.heap.size,k,none⟩) (.inr (Nat.le_refl _)) (.int .i64 (k:Int)));have GY:=AQ hlt;clear hst e hrw hu eq1 eqf hlt hk;go_wp2_with fail
   go_roundg (n - (k+1))
   case measure=>have:=HK.out;have:=GY.out;omega
   case rel=>exact ⟨k+1,Ad HK GY,by go_num,HST.out,HU.out⟩
  ·have e:(MP n fun i=>if i<k then i else 0)=List.range n:=by
    have:(MP n fun i=>if i<k then i else 0)=MP n id:=Xa fun i hi=>by rw [if_pos (by omega)];rfl
    rw [this];unfold MP;simp
   rw [e] at hrw;have hs:See KN wr (.slice (some ⟨w.heap.size,0,none⟩) n n) (List.range n):=See.BX hrw;have HS:=Ai hs hu;clear hrw hs hu e hk;go_wp2_with fail
   go_ret
   exact ⟨_,_,rfl,HS.1,HS.2,fun k hk=>by simp [blk] at hk;omega⟩
theorem a0I {w:World} {A:Option Addr} {n C:Nat} {l:List Nat} (h:See KN w (.slice A n C) l) (k:Nat) (hk:k≤l.length) :
 ∃A' C',(∀w',(Instr.slice 163 (.slice A n C) none (some (.int .i64 (k:Int))) (some (.int .i64 (k:Int)))).run Tryz.prog w'=.ok (.slice A' k C') w')∧See KN w (.slice A' k C') (l.take k):=by
 obtain ⟨i1,hi1,hy0,hy1,hy2⟩:=info_parts Qy;have hel:Tryz.prog.elem 163=3:=by simp [Program.elem,Tryz.underlying163]
 have hlen:(l.take k).length=k:=by rw [Ba];omega
 rcases h.2 with ⟨e1,e2⟩ | ⟨b,o,s,cap,e1,e2,e3,e4,e5⟩
 ·cases e1
  have hk0:k=0:=by omega
  subst hk0;refine ⟨none,0,fun w'=>?_,?_⟩
  ·rw [run_slice_hm w' 163 none 0 0 (Ju Tryz.underlying163) .i64 .i64 _ _ (by omega) (by omega) (by omega)];simp [hel,sizeOf,typeInfo,hi1,sliced]
  ·exact ⟨by simp [Kind.all],.inl ⟨rfl,by simp⟩⟩
 ·cases e1
  refine ⟨some ⟨b,o,s⟩,k,fun w'=>?_,?_⟩
  ·rw [run_slice_hm w' 163 _ l.length C (Ju Tryz.underlying163) .i64 .i64 _ _ (by omega) (by omega) (by omega)];simp [hel,sizeOf,typeInfo,hi1,sliced,Addr.add]
  ·unfold See;rw [hlen];refine ⟨by rw [KN.IG,hlen],.inr ⟨b,o,s,k,rfl,fun hp=>e2 (by omega),Nat.le_refl _,by omega,fun j u hu=>?_⟩⟩
   rw [Kind.KF,List.getElem?_take] at hu;split at hu
   ·exact e5 j u hu
   ·cases hu
theorem a0J {w:World} {A:Option Addr} {n C:Nat} {l:List Nat} (h:See KN w (.slice A n C) l) (k:Nat) (hk:k≤l.length) :
 ∃A' C',(∀w',(Instr.slice 163 (.slice A n C) (some (.int .i64 (k:Int))) none none).run Tryz.prog w'=.ok (.slice A' (l.length - k) C') w')∧See KN w (.slice A' (l.length - k) C') (l.drop k):=by
 obtain ⟨A0,C0,e⟩:=h.form;injection e with e1 e2 e3;subst e1 e2 e3;obtain ⟨i1,hi1,hy0,hy1,hy2⟩:=info_parts Qy;obtain ⟨A',C',r1,r2,-⟩:=Nj (P:=Tryz.prog) Tryz.underlying163 hi1 hy1 h k hk;refine ⟨A',C',r1,?_⟩
 have:=r2 w h;unfold See;rw [Kind.Nc,List.length_drop];exact this
def Qz (v:Value) (w:World) (K:List (Int×Nat)) (l:List Nat) (e:Ending) (w':World):Prop:=
 ∃A C M,∃wr:Nat,e=.returned (.tuple #[.slice A l.length C,.int .i64 (wr:Int)])∧See KN w' (.slice A l.length C) M∧M.Perm l∧M.Pairwise (fun i j=>Yt K i j=true)∧wr≤l.length*l.length∧Bf [] w w'∧∀k∈blk (.slice A l.length C),k∈blk v∨w.heap.size≤k
theorem iY {h m:Nat} (hh:1≤h) (hm:1≤m):h*h+m*m+(h+m)≤(h+m)*(h+m):=by
 have e:(h+m)*(h+m)=h*h+m*m+(h*m+h*m):=by
  rw [Nat.add_mul,Nat.mul_add,Nat.mul_add,Nat.mul_comm m h];omega
 have h1:h≤h*m:=Nat.le_mul_of_pos_right h hm;have h2:m≤h*m:=Nat.le_mul_of_pos_left m hh;omega
theorem uX (vk:Value) (K:List (Int×Nat)) (pk:Nat):∀(d:Nat) (l:List Nat) (v:Value) (w:World),l.length≤d→w.cell? ⟨pk,0,none⟩=some vk→See KK w vk K→See KN w v l→(∀i∈l,i<K.length)→l.length<1000000→
 Calls Tryz.prog 218 #[.func (.func 219) #[] #[.pointer (some ⟨pk,0,none⟩)],v] w (Qz v w K l):=by
 intro d;induction d with
 |zero=>
  intro l v w hd hc hK hl hi hn;have e:l = []:=List.length_eq_zero_iff.1 (by omega);subst e;obtain ⟨A,C,rfl⟩:=hl.form;unfold Qz;have HL:=AQ hl;clear hc hK hl hi hn hd;go_enter Tryz.func218,Tryz.ntmps218
  go_wp2_with fail
  go_ret2
  exact ⟨A,C,[],0,rfl,HL.out,List.Perm.refl _,List.Pairwise.nil,by simp,Bf.refl _ _,fun k hk=>.inl hk⟩
 |succ d ih=>
  intro l v w hd hc hK hl hi hn;obtain ⟨A,C,rfl⟩:=hl.form;unfold Qz;obtain ⟨n,hn'⟩:=AO l.length;obtain ⟨h,hh⟩:=AO (n / 2);have HHV:=AQ (show (n:Int) / 2=(h:Int) by omega);have n0:(0:Int)≤(n:Int):=AU _;have VO:=AQ (show (n:Int)<1000000 by omega);have h0:(0:Int)≤(h:Int):=AU _;by_cases hz:h=0
  ·subst hz
   have hs:l.Pairwise (fun i j=>Yt K i j=true):=by
    match l,hn' with
    | [],_=>exact List.Pairwise.nil
    | [x],_=>exact List.pairwise_singleton _ _
    |x::y::r,e=>simp at e;omega
   have HL:=Ai hl hs;rw [hn'] at HL ⊢;clear hc hK hl hi hn hd hs hn' hh;have n1:=VO.out;go_enter Tryz.func218,Tryz.ntmps218
   go_upto_region 2 with fail
   rw [HHV.out];clear n1;go_wp2_with fail
   go_ret2
   exact ⟨A,C,l,0,rfl,HL.1,List.Perm.refl _,HL.2,by simp,Bf.refl _ _,fun k hk=>.inl hk⟩
  ·have hz1:((h:Int)==0)=false:=by simp;omega
   have hz2:¬(h:Int)=0:=by omega
   have hz3:¬h=0:=hz;obtain ⟨A1,C1,t1,s1⟩:=a0I hl h (by omega);obtain ⟨A2,C2,t2,s2⟩:=a0J hl h (by omega);have l1:(l.take h).length=h:=by rw [Ba];omega
   have l2:(l.drop h).length=l.length - h:=by rw [List.length_drop]
   have i1:∀i∈l.take h,i<K.length:=fun i hi'=>hi i (List.mem_of_mem_take hi')
   have i2:∀i∈l.drop h,i<K.length:=fun i hi'=>hi i (List.mem_of_mem_drop hi')
   have hpk:pk<w.heap.size:=World.block_lt_of_cell? w _ hc;have o1:=fun w1 (hu:Bf [] w w1)=>ih (l.take h) (.slice A1 h C1) w1 (by omega) ((hu.cell (p:=⟨pk,0,none⟩) hpk (by simp)).trans hc) (hK.Bh hu) (s1.Bh hu) i1 (by omega)
   have o2:=fun w1 (hu:Bf [] w w1)=>ih (l.drop h) (.slice A2 (l.length - h) C2) w1 (by omega) ((hu.cell (p:=⟨pk,0,none⟩) hpk (by simp)).trans hc) (hK.Bh hu) (s2.Bh hu) i2 (by omega)
   unfold Qz at o1 o2;rw [l1] at o1;rw [l2] at o2
   have HM:=AQ (show ∀(a b:List Nat) (va vb:Value) (w1:World),Bf [] w w1→See KN w1 va a→See KN w1 vb b→a.Perm (l.take h)→b.Perm (l.drop h)→Calls Tryz.prog 258 #[.func (.func 219) #[] #[.pointer (some ⟨pk,0,none⟩)],va,vb] w1 (VY w1 (List.merge a b (Yt K)) (a.length+b.length)) from fun a b va vb w1 hu ha hb pa pb=>
    a0D vk va vb K pk a b w1 ((hu.cell (p:=⟨pk,0,none⟩) hpk (by simp)).trans hc) (hK.Bh hu) ha hb (fun i hi'=>i1 i (pa.mem_iff.1 hi')) (fun i hi'=>i2 i (pb.mem_iff.1 hi')) (by have:=pa.length_eq;have:=pb.length_eq;omega))
   rw [hn'] at t1 t2 o2 l2 ⊢;obtain ⟨m,hm⟩:=AO (n - h);rw [hm] at t2 o2 l2;have hs:=iY (h:=h) (m:=m) (by omega) (by omega);have b1:h*h≤1000000*1000000:=Nat.mul_le_mul (by omega) (by omega);have b2:m*m≤1000000*1000000:=Nat.mul_le_mul (by omega) (by omega);have HO1:=AQ o1;have HO2:=AQ o2;have HS:=Ap hs b1 b2 (show h+m=n by omega);have Xb:=Ai l1 l2;clear o1 o2 hs b1 b2 hc hK hl hi hn hd s1 s2 i1 i2 hpk l1 l2 hh hm hn' hz ih;have n1:=VO.out;go_enter Tryz.func218,Tryz.ntmps218
   go_upto_region 2 with fail
   rw [HHV.out];clear n1;go_wp2_with fail
   (with_reducible refine (HO1.out _ (Bf.refl _ _)).mono ?_);rintro e w1 ⟨Aa,Ca,Ma,wa,rfl,sa,pa,qa,ba,hu1,-⟩;have H1:=Aq sa pa qa ba hu1;have c1:(wa:Int)≤1000000000000:=Ac HS.2.1;have c0:(0:Int)≤(wa:Int):=AU _;clear sa pa qa ba hu1;go_wp2_with fail
   (with_reducible refine (HO2.out _ H1.out.2.2.2.2).mono ?_);rintro e w2 ⟨Ab,Cb,Mb,wb,rfl,sb,pb,qb,bb,hu2,-⟩;have hmg:=HM.out Ma Mb (.slice Aa h Ca) (.slice Ab m Cb) w2 (H1.2.2.2.2.trans hu2) (H1.1.Bh hu2) sb H1.2.1 pb;have e1:Ma.length=h:=H1.2.1.length_eq.trans Xb.1;have e2:Mb.length=m:=pb.length_eq.trans Xb.2;unfold VY at hmg;rw [e1,e2,HS.2.2.2] at hmg;have HMG:=AQ hmg;have H2:=Ap pb qb bb (H1.2.2.2.2.trans hu2);have c2:(wb:Int)≤1000000000000:=Ac HS.2.2.1;have c3:(0:Int)≤(wb:Int):=AU _;have n1:=VO.out;clear sb pb qb bb hu2 hmg e1 e2;go_wp2_with fail
   (with_reducible refine HMG.out.mono ?_);rintro e w3 ⟨A3,C3,rfl,s3,hu3,hk3⟩;have H3:=Aj s3 (H2.2.2.2.trans hu3) (show ∀k∈blk (.slice A3 n C3),w.heap.size≤k from fun k hk=>Bd H2.2.2.2.size (hk3 k hk));clear s3 hu3 hk3;go_wp2_with fail
   go_ret2
   refine ⟨A3,C3,List.merge Ma Mb (Yt K),wa+wb+n,rfl,H3.1,?_,?_,?_,H3.2.1,fun k hk=>.inr (H3.2.2 k hk)⟩
   ·have h1:(List.merge Ma Mb (Yt K)).Perm (Ma++Mb):=List.merge_perm_append _;have h2:=h1.trans (H1.2.1.append H2.1);rw [List.take_append_drop] at h2;exact h2
   ·exact List.pairwise_merge (pF K) (pG K) _ _ H1.2.2.1 H2.2.1
   ·have h1:=H1.2.2.2.1;have h2:=H2.2.2.1;have h3:=HS.1;rw [HS.2.2.2] at h3;omega
def bY (w:World) (K:List (Int×Nat)) (e:Ending) (w':World):Prop:=
 ∃A C M,∃wr:Nat,e=.returned (.tuple #[.slice A K.length C,.int .i64 (wr:Int),.int .i64 0])∧See KN w' (.slice A K.length C) M∧M.Perm (List.range K.length)∧M.Pairwise (fun i j=>Yt K i j=true)∧Bf [] w w'∧∀k∈blk (.slice A K.length C),w.heap.size≤k
theorem YO (vk:Value) (K:List (Int×Nat)) (w:World) (hK:See KK w vk K) (hn:K.length<1000000) :
 Calls Tryz.prog 149 #[vk] w (bY w K):=by
 obtain ⟨A,C,rfl⟩:=hK.form;unfold bY;have hu0:Bf [] w (w.alloc (.cells #[.slice A K.length C] 216)):=(Bf.refl _ _).alloc _;have hc0:(w.alloc (.cells #[.slice A K.length C] 216)).cell? ⟨w.heap.size,0,none⟩=some (.slice A K.length C):=by rw [World.cell?_alloc_at _ _ _ _ rfl];rfl
 have hpl:=a0H K.length (w.alloc (.cells #[.slice A K.length C] 216)) (by omega);have hz:w.heap.size<(w.alloc (.cells #[.slice A K.length C] 216)).heap.size:=by simp
 have HO:=AQ (show ∀(v:Value) (w1:World),Bf [] (w.alloc (.cells #[.slice A K.length C] 216)) w1→See KN w1 v (List.range K.length)→Calls Tryz.prog 218 #[.func (.func 219) #[] #[.pointer (some ⟨w.heap.size,0,none⟩)],v] w1 (Qz v w1 K (List.range K.length)) from fun v w1 hu hs=>
  uX (.slice A K.length C) K w.heap.size K.length (List.range K.length) v w1 (by simp) ((hu.cell (p:=⟨w.heap.size,0,none⟩) hz (by simp)).trans hc0) (hK.Bh (hu0.trans hu)) hs (fun i hi=>List.mem_range.1 hi) (by simpa using hn))
 have n0:decide ((17179869184:Int)<(K.length:Int))=false:=decide_eq_false (by omega);have n1:¬(17179869184:Int)<(K.length:Int):=by omega
 have HPL:=AQ hpl;have ET:=AQ hu0;clear hpl hu0 hc0 hz hK hn;go_enter Tryz.func149,Tryz.ntmps149
 go_wp2_with fail
 (with_reducible refine HPL.out.mono ?_);rintro e w1 ⟨A1,C1,rfl,s1,hu1,hk1⟩;have ho:=HO.out (.slice A1 K.length C1) w1 hu1 s1;unfold Qz at ho;rw [List.length_range] at ho;have HOO:=AQ ho;have FY:=AQ (ET.out.trans hu1);have tu:=AQ (show ∀k∈blk (.slice A1 K.length C1),w.heap.size≤k from fun k hk=>Bd ET.out.size (hk1 k hk));clear ho s1 hu1 hk1;go_wp2_with fail
 (with_reducible refine HOO.out.mono ?_);rintro e w2 ⟨A2,C2,M,wr,rfl,s2,p2,q2,-,hu2,hk2⟩;have H2:=Aq s2 p2 q2 (FY.out.trans hu2) (show ∀k∈blk (.slice A2 K.length C2),w.heap.size≤k from fun k hk=>(hk2 k hk).elim (tu.out k) (Bd FY.out.size));clear s2 p2 q2 hu2 hk2;go_wp2_with fail
 go_ret3
 exact ⟨A2,C2,M,wr,rfl,H2.1,H2.2.1,H2.2.2.1,H2.2.2.2.1,H2.2.2.2.2⟩
