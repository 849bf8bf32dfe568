/- A box by value; a list of boxes, seen. item: side, Stab, In, RightSpan, RightBox. Printed by -/
import Derived.Deep.Cut
import Derived.Test.YtkbaaonchdeneaaGreatPc5
import Derived.Test.YtkbaaonchdeneaaGreatPc4
import Derived.Test.YtkbaaonchdeneaaGreatPc12
set_option maxHeartbeats 8000000
set_option maxRecDepth 100000
namespace Go.Proofs.YtkbaaonchdeneaaGreat
section
open Go.RowKit
def QK (b:Bx):Value:=.agg #[b.x1,b.x2,b.y1,b.y2,.int .u32 (b.id:Int)]
def LP:Kind Bx:={ T:=0,sT:=42,eT:=28,sz:=5,enc:=λb=>[b.x1,b.x2,b.y1,b.y2,.int .u32 (b.id:Int)],len:=λ_=>rfl,one:=λb u hu=>by simp at hu;rcases hu with rfl | rfl | rfl | rfl | rfl<;>rfl }
theorem LP.at {w:World} {A:Option Addr} {n C:Nat} {l:List Bx} (h:See LP w (.slice A n C) l) {k:Nat} {x:Bx} (hx:l[k]? = some x) :
 ∃b o,A=some ⟨b,o,none⟩/\n<=C/\C<=maxLen/\w.cell? ⟨b,o+k*5,none⟩=some (.int .i64 x.x1)/\w.cell? ⟨b,o+k*5+1,none⟩=some (.int .i64 x.x2)/\w.cell? ⟨b,o+k*5+2,none⟩=some (.int .i64 x.y1)/\w.cell? ⟨b,o+k*5+3,none⟩=some (.int .i64 x.y2)/\w.cell? ⟨b,o+k*5+4,none⟩=some (.int .u32 (x.id:Int)):=by
 obtain ⟨b,o,h1,h2,h3,h4⟩:=h.at hx;exact ⟨b,o,h1,h2,h3,h4 0 _ rfl,h4 1 _ rfl,h4 2 _ rfl,h4 3 _ rfl,h4 4 _ rfl⟩
end
namespace LQ
open Go.RowKit
theorem OT (lo hi:Int) (w:World):Calls Tryz.prog 120 #[lo,hi] w λe w'=>e=.returned (.agg #[lo,hi,.int .u32 0])/\Bj [] w w':=by
 go_enter Tryz.func120,Tryz.ntmps120
 go_wp2_with fail
 exact bodyPost_ret (v:=.agg #[lo,hi,.int .u32 0]) (by simp [results,Tryz.results120,go_sem]) rfl ⟨rfl,(Bj.refl _ _).alloc _⟩
def TF (lo hi x:Int):Bool:=decide (lo<=x)&&decide (x<=hi)
theorem a0T (lo hi x id:Int) (w:World):Calls Tryz.prog 119 #[.agg #[lo,hi,.int .u32 id],x] w λe w'=>e=.returned (.bool (TF lo hi x))/\Bj [] w w':=by
 unfold TF;by_cases h1:lo<=x
 ·have d1:decide (lo<=x)=true:=decide_eq_true h1;rw [d1,Bool.true_and];go_enter Tryz.func119,Tryz.ntmps119
  go_wp2_with fail
  go_ret
  exact ⟨rfl,(Bj.refl _ _).alloc _⟩
 ·have d1:decide (lo<=x)=false:=decide_eq_false h1;rw [d1,Bool.false_and];go_enter Tryz.func119,Tryz.ntmps119
  go_wp2_with fail
  go_ret
  exact ⟨rfl,(Bj.refl _ _).alloc _⟩
def inB (b:Bx) (x y:Int):Bool:=TF b.x1 b.x2 x&&TF b.y1 b.y2 y
theorem inC (b:Bx) (x y id:Int) (w:World):Calls Tryz.prog 66 #[.agg #[x,y,.int .u32 id],QK b] w λe w'=>e=.returned (.bool (inB b x y))/\Bj [] w w':=by
 obtain ⟨x1,x2,y1,y2,bi⟩:=b;unfold inB QK;dsimp only;obtain ⟨s1,hs1⟩:∃s,TF x1 x2 x=s:=⟨_,rfl⟩;obtain ⟨s2,hs2⟩:∃s,TF y1 y2 y=s:=⟨_,rfl⟩;have g1:∀w,Calls Tryz.prog 119 #[.agg #[x1,x2,.int .u32 0],x] w λe w'=>e=.returned (.bool s1)/\Bj [] w w':=λw=>by rw [<-hs1];exact a0T x1 x2 x 0 w
 have g2:∀w,Calls Tryz.prog 119 #[.agg #[y1,y2,.int .u32 0],y] w λe w'=>e=.returned (.bool s2)/\Bj [] w w':=λw=>by rw [<-hs2];exact a0T y1 y2 y 0 w
 rw [hs1,hs2];have G1:=AX g1;have G2:=AX g2;clear g1 g2 hs1 hs2;have hu:Bj [] w ((w.alloc (.cells #[x,y,.int .u32 id] 113)).alloc (.cells #[x1,x2,y1,y2,.int .u32 (bi:Int)] 28)):=((Bj.refl _ _).alloc _).alloc _
 have hp:∀k,((w.alloc (.cells #[x,y,.int .u32 id] 113)).alloc (.cells #[x1,x2,y1,y2,.int .u32 (bi:Int)] 28)).cell? ⟨w.heap.size,k,none⟩=#[Value.int .i64 x,y,.int .u32 id][k]?:=λk=>by
  rw [World.cell?_alloc_past _ _ _ (by simp),World.cell?_alloc_at _ _ _ _ rfl]
 have hb:∀k,((w.alloc (.cells #[x,y,.int .u32 id] 113)).alloc (.cells #[x1,x2,y1,y2,.int .u32 (bi:Int)] 28)).cell? ⟨w.heap.size+1,k,none⟩=#[Value.int .i64 x1,x2,y1,y2,.int .u32 (bi:Int)][k]?:=λk=>World.cell?_alloc_at _ _ _ _ (by simp)
 have hz:w.heap.size+1<((w.alloc (.cells #[x,y,.int .u32 id] 113)).alloc (.cells #[x1,x2,y1,y2,.int .u32 (bi:Int)] 28)).heap.size:=by simp
 have p0:=hp 0;have p1:=hp 1;have b0:=hb 0;have b1:=hb 1;have b2:=hb 2;have b3:=hb 3;simp only [List.getElem?_toArray,List.getElem?_cons_zero,List.getElem?_cons_succ] at p0 p1 b0 b1 b2 b3;have HU:=AX hu;clear hp hb hu;go_enter Tryz.func66,Tryz.ntmps66
 go_upto_region 1 with fail
 generalize ((w.alloc (.cells #[x,y,.int .u32 id] 113)).alloc (.cells #[x1,x2,y1,y2,.int .u32 (bi:Int)] 28))=W at p0 p1 b0 b1 b2 b3 hz HU |-;have q0:∀z:QW W,z.w.cell? w.heap.size=some (.int .i64 x):=λz=>(z.up.cell (p:=⟨w.heap.size,0,none⟩) (by dsimp only;omega) (by simp)).trans p0
 have q1:∀z:QW W,z.w.cell? ⟨w.heap.size,1,none⟩=some (.int .i64 y):=λz=>(z.up.cell (p:=⟨w.heap.size,1,none⟩) (by dsimp only;omega) (by simp)).trans p1
 have r0:∀z:QW W,z.w.cell? ⟨w.heap.size+1,0,none⟩=some (.int .i64 x1):=λz=>(z.up.cell (p:=⟨w.heap.size+1,0,none⟩) (by dsimp only;omega) (by simp)).trans b0
 have r1:∀z:QW W,z.w.cell? ⟨w.heap.size+1,1,none⟩=some (.int .i64 x2):=λz=>(z.up.cell (p:=⟨w.heap.size+1,1,none⟩) (by dsimp only;omega) (by simp)).trans b1
 have r2:∀z:QW W,z.w.cell? ⟨w.heap.size+1,2,none⟩=some (.int .i64 y1):=λz=>(z.up.cell (p:=⟨w.heap.size+1,2,none⟩) (by dsimp only;omega) (by simp)).trans b2
 have r3:∀z:QW W,z.w.cell? ⟨w.heap.size+1,3,none⟩=some (.int .i64 y2):=λz=>(z.up.cell (p:=⟨w.heap.size+1,3,none⟩) (by dsimp only;omega) (by simp)).trans b3
 clear p0 p1 b0 b1 b2 b3 hz
 cases s1
 all_goals
  refine GU (by kernel_rfl) (by kernel_rfl) ?_
  repeat (go_big_quiet_step (first | (with_reducible exact Calls.JZ (OT _ _ _)) | (with_reducible exact Calls.JZ (G1.out _)) | (with_reducible exact Calls.JZ (G2.out _))))
  refine wpQuiet_nil ?_
  intro _ hw';obtain ⟨⟨wq,hwq⟩,hw''⟩:=hw';dsimp only at hw'';subst hw'';go_wp2_with fail
  go_ret
  exact ⟨rfl,HU.out.trans hwq⟩
theorem qj (lo hi id:Int) (w:World):Calls Tryz.prog 82 #[.agg #[lo,hi,.int .u32 id]] w λe w'=>e=.returned (.bool (decide (lo<=hi)))/\Bj [] w w':=by
 obtain ⟨r,hr⟩:∃r,decide (lo<=hi)=r:=⟨_,rfl⟩;rw [hr];go_enter Tryz.func82,Tryz.ntmps82
 go_wp2_with fail
 go_ret
 exact ⟨by rw [<-hr];rfl,(Bj.refl _ _).alloc _⟩
theorem Qc (b:Bx) (w:World):Calls Tryz.prog 71 #[QK b] w λe w'=>e=.returned (.bool (decide (b.x1<=b.x2/\b.y1<=b.y2)))/\Bj [] w w':=by
 rw [Bool.decide_and];unfold QK;obtain ⟨s1,hs1⟩:∃s,decide (b.x1<=b.x2)=s:=⟨_,rfl⟩;obtain ⟨s2,hs2⟩:∃s,decide (b.y1<=b.y2)=s:=⟨_,rfl⟩;have g1:∀w,Calls Tryz.prog 82 #[.agg #[b.x1,b.x2,.int .u32 0]] w λe w'=>e=.returned (.bool s1)/\Bj [] w w':=λw=>by rw [<-hs1];exact qj b.x1 b.x2 0 w
 have g2:∀w,Calls Tryz.prog 82 #[.agg #[b.y1,b.y2,.int .u32 0]] w λe w'=>e=.returned (.bool s2)/\Bj [] w w':=λw=>by rw [<-hs2];exact qj b.y1 b.y2 0 w
 rw [hs1,hs2];have G1:=AX g1;have G2:=AX g2;have HB:=AX (show JX (w.alloc (.cells #[b.x1,b.x2,b.y1,b.y2,.int .u32 (b.id:Int)] 28)) w.heap.size #[b.x1,b.x2,b.y1,b.y2,.int .u32 (b.id:Int)] 28 from heap_alloc_new _ _);have HU:=AX (show Bj [] w (w.alloc (.cells #[b.x1,b.x2,b.y1,b.y2,.int .u32 (b.id:Int)] 28)) from (Bj.refl _ _).alloc _);clear g1 g2 hs1 hs2
 cases s1
 all_goals
  go_enter Tryz.func71,Tryz.ntmps71
  go_upto_region 1 with fail
  generalize (w.alloc (.cells #[b.x1,b.x2,b.y1,b.y2,.int .u32 (b.id:Int)] 28))=W at HB HU |-;generalize w.heap.size=p at HB |-;obtain ⟨c0,c1,c2,c3,c4⟩:=HB.out.cells5;go_wp2_with fail
  clear c0 c1 c2 c3 c4;go_fit (OT _ _ _)
  rintro e w1 ⟨rfl,hu1⟩;have DJ:=AX (HU.out.trans hu1);have HB1:=AX (HB.out.BF hu1);clear hu1;go_wp2_with fail
  go_fit (G1.out _)
  rintro e w2 ⟨rfl,hu2⟩;have Ej:=AX (DJ.out.trans hu2);have HB2:=AX (HB1.out.BF hu2);clear hu2;obtain ⟨c0,c1,c2,c3,c4⟩:=HB2.out.cells5;go_wp2_with fail
  clear c0 c1 c2 c3 c4;try go_fit (OT _ _ _)
  try rintro e w3 ⟨rfl,hu3⟩
  try have EJ:=AX (Ej.out.trans hu3)
  try clear hu3
  try go_wp2_with fail
  try go_fit (G2.out _)
  try rintro e w4 ⟨rfl,EI⟩
  try have U4:=AX (EJ.out.trans EI)
  try clear EI
  try go_wp2_with fail
  go_ret
  first | exact ⟨rfl,Ej.out⟩ | exact ⟨rfl,U4.out⟩
end LQ
section
open Go.RowKit
def KK:Kind (Int×Nat):={ T:=0,sT:=216,eT:=218,sz:=2,enc:=λx=>[x.1,.int .u32 (x.2:Int)],len:=λ_=>rfl,one:=λx u hu=>by simp at hu;rcases hu with rfl | rfl<;>rfl }
def ZT (k:Int×Nat):Value:=.agg #[k.1,.int .u32 (k.2:Int)]
def Xa (a b:Int):Int:=if a<b then -1 else if b<a then 1 else 0
theorem Xb (x:Int) (w:World):Calls Tryz.prog 240 #[x] w λe w'=>e=.returned (.bool false)/\w=w':=by
 have h:(x==x)=true:=by simp
 go_enter Tryz.func240,Tryz.ntmps240
 go_wp2_with fail
 go_ret
 exact ⟨rfl,rfl⟩
theorem Xc (x:Int) (w:World):Calls Tryz.prog 204 #[.int .u32 x] w λe w'=>e=.returned (.bool false)/\w=w':=by
 have h:(x==x)=true:=by simp
 go_enter Tryz.func204,Tryz.ntmps204
 go_wp2_with fail
 go_ret
 exact ⟨rfl,rfl⟩
theorem jI (a b:Int) (w:World):Calls Tryz.prog 182 #[a,b] w λe w'=>e=.returned (.int .i64 (Xa a b))/\w=w':=by
 unfold Xa;by_cases h1:a<b
 ·rw [if_pos h1];go_enter Tryz.func182,Tryz.ntmps182
  go_wp2_with (go_fit (Xb _ _);rintro e w' ⟨rfl,rfl⟩)
  go_ret
  exact ⟨rfl,rfl⟩
 ·rw [if_neg h1];by_cases h2:b<a
  ·rw [if_pos h2];go_enter Tryz.func182,Tryz.ntmps182
   go_wp2_with (go_fit (Xb _ _);rintro e w' ⟨rfl,rfl⟩)
   go_ret
   exact ⟨rfl,rfl⟩
  ·rw [if_neg h2];go_enter Tryz.func182,Tryz.ntmps182
   go_wp2_with (go_fit (Xb _ _);rintro e w' ⟨rfl,rfl⟩)
   go_ret
   exact ⟨rfl,rfl⟩
theorem jJ (a b:Int) (w:World):Calls Tryz.prog 136 #[.int .u32 a,.int .u32 b] w λe w'=>e=.returned (.int .i64 (Xa a b))/\w=w':=by
 unfold Xa;by_cases h1:a<b
 ·rw [if_pos h1];go_enter Tryz.func136,Tryz.ntmps136
  go_wp2_with (go_fit (Xc _ _);rintro e w' ⟨rfl,rfl⟩)
  go_ret
  exact ⟨rfl,rfl⟩
 ·rw [if_neg h1];by_cases h2:b<a
  ·rw [if_pos h2];go_enter Tryz.func136,Tryz.ntmps136
   go_wp2_with (go_fit (Xc _ _);rintro e w' ⟨rfl,rfl⟩)
   go_ret
   exact ⟨rfl,rfl⟩
  ·rw [if_neg h2];go_enter Tryz.func136,Tryz.ntmps136
   go_wp2_with (go_fit (Xc _ _);rintro e w' ⟨rfl,rfl⟩)
   go_ret
   exact ⟨rfl,rfl⟩
def orZ (a b:Int):Int:=if a=0 then b else a
theorem orC (q:Nat) (a b:Int) (w:World) (c0:w.cell? q=some (.int .i64 a)) (c1:w.cell? ⟨q,1,none⟩=some (.int .i64 b)) :
 Calls Tryz.prog 100 #[.slice (some ⟨q,0,none⟩) 2 2] w λe w'=>e=.returned (.int .i64 (orZ a b))/\Bj [] w w':=by
 obtain ⟨r,hr⟩:=AU (orZ a b);have ha:a≠0->r=a:=λh=>by rw [<-hr];unfold orZ;rw [if_neg h]
 have hb:a=0->r=b:=λh=>by rw [<-hr];unfold orZ;rw [if_pos h]
 rw [hr];have HA:=AX ha;have HB:=AX hb;clear ha hb hr;go_enter Tryz.func100,Tryz.ntmps100
 go_wp2_with fail
 go_loopg [8] 2 (λm s8 wr=>∃k,m+k=2/\s8=.int .i64 (k:Int)/\(0<k->a=0)/\(1<k->b=0)/\wr=w)
 case atStart=>exact ⟨0,rfl,rfl,by simp,by simp,rfl⟩
 case round=>
  obtain ⟨k,hk,rfl,h0,h1,rfl⟩:=hrel;rcases (by omega:k=0\/k=1\/k=2) with rfl | rfl | rfl
  ·have HK:=AX hk;clear h0 h1 hk;by_cases hz:a=0
   ·have z1:(a==0)=true:=by simpa using hz
    have HZ:=AX hz;clear hz;go_wp2_with fail
    go_roundg 1
    case measure=>have:=HK.out;omega
    case rel=>exact ⟨1,by omega,by first | rfl | go_num,λ_=>HZ.out,λh=>by omega,rfl⟩
   ·have z1:(a==0)=false:=by simpa using hz
    have HZ:=AX hz;clear hz;go_wp2_with fail
    go_ret
    exact ⟨by rw [HA.out HZ.out];rfl,Bj.refl _ _⟩
  ·have HK:=AX hk;have HZ:=AX (h0 (by omega));clear h0 h1 hk;by_cases hz:b=0
   ·have z1:(b==0)=true:=by simpa using hz
    have HZ2:=AX hz;clear hz;go_wp2_with fail
    go_roundg 0
    case measure=>have:=HK.out;omega
    case rel=>exact ⟨2,by omega,by first | rfl | go_num,λ_=>HZ.out,λ_=>HZ2.out,rfl⟩
   ·have z1:(b==0)=false:=by simpa using hz
    clear hz;go_wp2_with fail
    go_ret
    exact ⟨by rw [HB.out HZ.out];rfl,Bj.refl _ _⟩
  ·have HZ:=AX (h0 (by omega));have HZ2:=AX (h1 (by omega));clear h0 h1 hk;go_wp2_with fail
   go_ret
   exact ⟨by rw [HB.out HZ.out,HZ2.out];rfl,Bj.refl _ _⟩
def qo (x y:Int×Nat):Int:=orZ (Xa x.1 y.1) (Xa x.2 y.2)
def ahead (x y:Int×Nat):Bool:=decide (qo x y<0)
theorem Qd (x y:Int×Nat):ahead x y=true↔x.1<y.1\/(x.1=y.1/\x.2<y.2):=by
 unfold ahead qo orZ Xa;simp only [decide_eq_true_eq];split<;>split<;>(try split)<;>(try split)<;>omega
theorem a1E (x y:Int×Nat) (w:World):Calls Tryz.prog 292 #[ZT x,ZT y] w λe w'=>e=.returned (.int .i64 (qo x y))/\Bj [] w w':=by
 obtain ⟨a,i⟩:=x;obtain ⟨b,j⟩:=y;unfold ZT qo;dsimp only;have ha:=λw=>jI a b w
 have hb:=λw=>jJ (i:Int) (j:Int) w
 obtain ⟨r,hr⟩:=AU (Xa a b);obtain ⟨s,hs⟩:=AU (Xa (i:Int) (j:Int));simp only [hr] at ha;simp only [hs] at hb;rw [hr,hs];obtain ⟨i',hi⟩:∃i':Int,(i:Int)=i':=⟨_,rfl⟩;obtain ⟨j',hj⟩:∃j':Int,(j:Int)=j':=⟨_,rfl⟩;rw [hi,hj] at hb |-;have hu:Bj [] w ((w.alloc (.cells #[a,.int .u32 i'] 218)).alloc (.cells #[b,.int .u32 j'] 218)):=((Bj.refl _ _).alloc _).alloc _
 have hp:∀k,((w.alloc (.cells #[a,.int .u32 i'] 218)).alloc (.cells #[b,.int .u32 j'] 218)).cell? ⟨w.heap.size,k,none⟩=#[Value.int .i64 a,.int .u32 i'][k]?:=λk=>by
  rw [World.cell?_alloc_past _ _ _ (by simp),World.cell?_alloc_at _ _ _ _ rfl]
 have hq:∀k,((w.alloc (.cells #[a,.int .u32 i'] 218)).alloc (.cells #[b,.int .u32 j'] 218)).cell? ⟨w.heap.size+1,k,none⟩=#[Value.int .i64 b,.int .u32 j'][k]?:=λk=>World.cell?_alloc_at _ _ _ _ (by simp)
 have p0:=hp 0;have p1:=hp 1;have q0:=hq 0;have q1:=hq 1;simp only [List.getElem?_toArray,List.getElem?_cons_zero,List.getElem?_cons_succ] at p0 p1 q0 q1;have HU:=AX hu;have HA:=AX ha;have HB:=AX hb;have HOR:=AX (show ∀w:World,Calls Tryz.prog 100 #[.slice (some ⟨w.heap.size,0,none⟩) 2 2] (w.alloc (.cells #[r,s] 3)) λe w'=>e=.returned (.int .i64 (orZ r s))/\Bj [] (w.alloc (.cells #[r,s] 3)) w' from λw=>orC w.heap.size r s _ (by rw [World.cell?_alloc_at _ _ _ _ rfl];rfl) (by rw [World.cell?_alloc_at _ _ _ _ rfl];rfl));clear hp hq hu ha hb hr hs hi hj;go_enter Tryz.func292,Tryz.ntmps292
 go_upto_region 1 with fail
 generalize ((w.alloc (.cells #[a,.int .u32 i'] 218)).alloc (.cells #[b,.int .u32 j'] 218))=W at p0 p1 q0 q1 HU |-;generalize w.heap.size=p at p0 p1 q0 q1 |-;have HC:=AX (show W.drew.cell? p=some (.int .i64 a)/\W.drew.cell? ⟨p,1,none⟩=some (.int .u32 i')/\W.drew.cell? ⟨p+1,0,none⟩=some (.int .i64 b)/\W.drew.cell? ⟨p+1,1,none⟩=some (.int .u32 j') from ⟨p0,p1,q0,q1⟩);clear p0 p1 q0 q1;obtain ⟨Wd,hWd⟩:∃Wd,Wd=W.drew:=⟨_,rfl⟩;have yE:=AX (show Bj [] w Wd by rw [hWd];exact HU.out.drew);refine Bo.start [9,10,11,12] (λw'=>w'.cell? p=some (.int .i64 a)/\w'.cell? ⟨p,1,none⟩=some (.int .u32 i')/\w'.cell? ⟨p+1,0,none⟩=some (.int .i64 b)/\w'.cell? ⟨p+1,1,none⟩=some (.int .u32 j')) (by kernel_rfl) ?_ λhS=>?_
 ·exact HC.out
 rw [<-hWd] at hS |-;clear hWd;refine' Bo.mx 0 5 ?_
 refine' Bo.ty 3 1 6 ?_
 refine' Bo.mx 2 7 ?_
 refine' Bo.ty 3 3 8 ?_
 refine' Bo.mx 5 10 ?_
 refine' Bo.ty 3 6 11 ?_
 refine' Bo.mx 7 12 ?_
 refine' Bo.ty 3 8 13 ?_
 refine Bo.one (i:=4) (o:=⟨some 9,_,_,_,_,_⟩) rfl (by kernel_rfl) λK hK=>?_
 go_simp
 go_at_call 182
 go_fit (HA.out _)
 rintro e w' ⟨rfl,rfl⟩;refine hK.out _ _ (λ_ h=>?_) ?_
 ·exact h
 clear hK K;try simp only [Act.put,sA,sZ,sS]
 refine Bo.one (i:=9) (o:=⟨some 14,_,_,_,_,_⟩) rfl (by kernel_rfl) λK hK=>?_
 go_simp
 go_at_call 136
 go_fit (HB.out _)
 rintro e w' ⟨rfl,rfl⟩;refine hK.out _ _ (λh=>(by cases h)) ?_
 clear hK K;try simp only [Act.put,sA,sZ,sS]
 refine Bo.one (i:=10) (o:=⟨some 15,_,_,_,_,_⟩) rfl (by kernel_rfl) λK hK=>?_
 go_simp
 refine hK.out _ _ (λh=>(by cases h)) ?_
 clear hK K;try simp only [Act.put,sA,sZ,sS]
 refine Bo.one (i:=11) (o:=⟨some 16,_,_,_,_,_⟩) rfl (by kernel_rfl) λK hK=>?_
 go_simp
 go_at_call 100
 go_fit (HOR.out _)
 rintro e w5 ⟨rfl,EZ⟩;refine hK.out _ _ (λh=>(by cases h)) ?_
 clear hK K;try simp only [Act.put,sA,sZ,sS]
 have Nv:=AX EZ;clear EZ;refine' Bo.mx 12 4 ?_
 refine Bo.done (by kernel_rfl) ?_
 go_wp2_with fail
 go_ret
 exact ⟨rfl,(yE.out.alloc _).trans Nv.out⟩
theorem fC {w w':World} {a1 a2:Addr} {v1 v2:Value} (h:w.cell? a1=some v1/\w.cell? a2=some v2) (hu:Bj [] w w'):w'.cell? a1=some v1/\w'.cell? a2=some v2:=by
 have e:∀{a:Addr} {v:Value},w.cell? a=some v->w'.cell? a=some v:=λ{a v} ha=>(hu.cell (World.block_lt_of_cell? w _ ha) (by simp)).trans ha
 exact ⟨e h.1,e h.2⟩
def kf (K:List (Int×Nat)) (i:Nat):Int×Nat:=K[i]?.getD (0,0)
def Vg (K:List (Int×Nat)) (i j:Nat):Bool:=!ahead (kf K j) (kf K i)
theorem a1F {K:List (Int×Nat)} {i:Nat} (h:i<K.length):K[i]? = some (kf K i):=by
 unfold kf;rw [Ba h];rfl
theorem jK (K:List (Int×Nat)) (a b c:Nat):Vg K a b=true->Vg K b c=true->Vg K a c=true:=by
 unfold Vg;simp only [Bool.not_eq_true',<-Bool.not_eq_true,Qd];omega
theorem jL (K:List (Int×Nat)) (a b:Nat):(Vg K a b||Vg K b a)=true:=by
 unfold Vg;rw [Bool.or_eq_true];simp only [Bool.not_eq_true',<-Bool.not_eq_true,Qd];omega
theorem KN.at {w:World} {A:Option Addr} {n C:Nat} {l:List Nat} (h:See KN w (.slice A n C) l) {k:Nat} {x:Nat} (hx:l[k]? = some x) :
 ∃b o,A=some ⟨b,o,none⟩/\n<=C/\C<=maxLen/\w.cell? ⟨b,o+k,none⟩=some (.int .i64 (x:Int)):=by
 obtain ⟨b,o,h1,h2,h3,h4⟩:=h.at hx;have:=h4 0 _ rfl;exact ⟨b,o,h1,h2,h3,by simpa [KN] using this⟩
theorem KK.at {w:World} {A:Option Addr} {n C:Nat} {l:List (Int×Nat)} (h:See KK w (.slice A n C) l) {k:Nat} {x:Int×Nat} (hx:l[k]? = some x) :
 ∃b o,A=some ⟨b,o,none⟩/\n<=C/\C<=maxLen/\w.cell? ⟨b,o+k*2,none⟩=some (.int .i64 x.1)/\w.cell? ⟨b,o+k*2+1,none⟩=some (.int .u32 (x.2:Int)):=by
 obtain ⟨b,o,h1,h2,h3,h4⟩:=h.at hx;exact ⟨b,o,h1,h2,h3,h4 0 _ rfl,h4 1 _ rfl⟩
theorem a3K (vk:Value) (K:List (Int×Nat)) (pk i:Nat) (w:World) (hc:w.cell? pk=some vk) (hs:See KK w vk K) (hi:i<K.length) :
 Calls Tryz.prog 219 #[(i:Int),.pointer (some pk)] w λe w'=>e=.returned (ZT (kf K i))/\Bj [] w w':=by
 obtain ⟨A,C,rfl⟩:=hs.form;obtain ⟨g,o,hA,-,-,c0,c1⟩:=KK.at hs (a1F hi);subst hA;obtain ⟨x,hx⟩:=AU (kf K i);rw [hx] at c0 c1 |-;obtain ⟨a,j⟩:=x;unfold ZT;dsimp only at c0 c1 |-;have b0:(0:Int)<=(i:Int):=AY _;have b1:(i:Int)<(K.length:Int):=by omega
 have hu1:Bj [] w (w.alloc (.cells #[.int .i64 0,.int .u32 0] 218)):=(Bj.refl _ _).alloc _;have d0:=(hu1.cell (p:=⟨pk,0,none⟩) (World.block_lt_of_cell? w _ hc) (by simp)).trans hc;have d1:=(hu1.cell (p:=⟨g,o+i*2,none⟩) (World.block_lt_of_cell? w _ c0) (by simp)).trans c0;have d2:=(hu1.cell (p:=⟨g,o+i*2+1,none⟩) (World.block_lt_of_cell? w _ c1) (by simp)).trans c1;clear hu1;clear hs hi hx;go_enter Tryz.func219,Tryz.ntmps219
 go_wp2_with fail
 exact bodyPost_ret (v:=.agg #[a,.int .u32 (j:Int)]) (by simp [results,Tryz.results219,go_sem]) rfl ⟨rfl,(Bj.refl _ _).alloc _⟩
theorem fD {w:World} {A:Option Addr} {n C:Nat} {x:Nat} {l:List Nat} (h:See KN w (.slice A n C) (x::l)) :
 ∃A' C',(∀w',(Instr.slice 163 (.slice A n C) (some (.int .i64 1)) none none).run Tryz.prog w'=.ok (.slice A' l.length C') w')/\See KN w (.slice A' l.length C') l/\n=l.length+1:=by
 obtain ⟨A0,C0,e⟩:=h.form;injection e with e1 e2 e3;subst e1 e3;have e2':n=l.length+1:=by simpa using e2
 obtain ⟨i1,hi1,hy0,hy1,hy2⟩:=info_parts (show (Tryz.prog.info? 3).map (λi=>(i.zero,i.size,i.bytes))=some (some (.int .i64 0),1,8) by kernel_rfl)
 have h':D5 w 1 (.slice A n C) n (KN.all (x::l)):=by
  have h2:=h;unfold See at h2;rw [List.length_cons,<-e2'] at h2;exact h2
 obtain ⟨A',C',r1,r2,r3⟩:=Jw (P:=Tryz.prog) Tryz.underlying163 hi1 hy1 h' 1 (by omega);rw [e2',Nat.add_sub_cancel] at r1 r2;refine ⟨A',C',λw'=>by rw [e2'];exact r1 w',?_,e2'⟩
 have:=r2 w (by rw [<-e2'];exact h');exact this
def RN (w:World) (M:List Nat) (n:Nat) (e:Ending) (w':World):Prop:=∃A C,e=.returned (.tuple #[.slice A n C,(n:Int)])/\See KN w' (.slice A n C) M/\Bj [] w w'/\∀k∈blk (.slice A n C),w.heap.size<=k
theorem MV:(Tryz.prog.info? 3).map (λi=>(i.zero,i.size,i.bytes))=some (some (.int .i64 0),1,8):=by kernel_rfl
theorem yF (vk va0 vb0:Value) (K:List (Int×Nat)) (pk:Nat) (a b:List Nat) (w:World) (hc:w.cell? pk=some vk) (hK:See KK w vk K) (ha:See KN w va0 a) (hb:See KN w vb0 b)
 (ia:∀i∈a,i<K.length) (ib:∀i∈b,i<K.length) (hn:a.length+b.length<10000000) :
 Calls Tryz.prog 258 #[.func (.func 219) #[] #[.pointer (some pk)],va0,vb0] w (RN w (List.merge a b (Vg K)) (a.length+b.length)):=by
 obtain ⟨i1,hi1,hy0,hy1,hy2⟩:=info_parts MV;obtain ⟨Aa,Ca,rfl⟩:=ha.form;obtain ⟨Ab,Cb,rfl⟩:=hb.form;unfold RN;obtain ⟨n,hnn⟩:=AU (a.length+b.length);rw [hnn] at hn |-;obtain ⟨W0,hW0⟩:=AU (((w.alloc (.cells #[.slice Aa a.length Ca] 163)).alloc (.cells #[.slice Ab b.length Cb] 163)));have hu0:Bj [] w W0:=by rw [<-hW0];exact ((Bj.refl _ _).alloc _).alloc _
 have h4:W0.heap[w.heap.size]? = some (.cells #[.slice Aa a.length Ca] 163 (0,0)):=by rw [<-hW0,Below.heap_alloc _ _ _ (by simp),heap_alloc_new]
 have h5:W0.heap[w.heap.size+1]? = some (.cells #[.slice Ab b.length Cb] 163 (0,0)):=by
  rw [<-hW0];have:=heap_alloc_new (w.alloc (.cells #[.slice Aa a.length Ca] 163)) (.cells #[.slice Ab b.length Cb] 163);simpa using this
 obtain ⟨p,hp⟩:=AU w.heap.size;rw [hp] at h4 h5;obtain ⟨B,hB⟩:=AU W0.heap.size;have hpB:p+1<B:=by rw [<-hB];exact lt_of_block h5
 obtain ⟨w1,hmk,hrow,hg⟩:=run_make_own (P:=Tryz.prog) W0 B 163 3 i1 (.int .i64 0) 1 Tryz.underlying163 hi1 hy0 hy1 .i64 .i64 n (by rw [hy2];omega) (by unfold maxLen;omega) (by omega)
 have hmk':(Instr.makeSlice 163 (.int .i64 0) (.int .i64 ((a.length:Int)+(b.length:Int)))).run Tryz.prog W0=.ok (.slice (some ⟨W0.heap.size,0,none⟩) 0 n) w1:=by
  have e:(a.length:Int)+(b.length:Int)=(n:Int):=by omega
  rw [e];exact hmk
 have hu1:Bj [] W0 w1:=(Bj.refl _ _).grown hg (by simp);have c4:W0.cell? p=some (.slice Aa a.length Ca):=by simp [World.cell?,h4]
 have c5:W0.cell? ⟨p+1,0,none⟩=some (.slice Ab b.length Cb):=by simp [World.cell?,h5]
 have la:(a.length:Int)<=10000000:=by omega
 have lb:(b.length:Int)<=10000000:=by omega
 have k4:=(hu1.block p (lt_of_block h4) (by simp)).trans h4;have k5:=(hu1.block (p+1) (lt_of_block h5) (by simp)).trans h5;have hpk:pk<w.heap.size:=World.block_lt_of_cell? w _ hc;have HKF:=AX (show ∀(wz:World),Bj [] w wz->∀i,i<K.length->Calls Tryz.prog 219 #[(i:Int),.pointer (some pk)] wz λe w'=>e=.returned (ZT (kf K i))/\Bj [] wz w' from λwz hu i hi=>a3K vk K pk i wz ((hu.cell (p:=⟨pk,0,none⟩) hpk (by simp)).trans hc) (hK.BF hu) hi);have HST:=AX (show KN.row w1 B (.slice (some ⟨W0.heap.size,0,none⟩) 0 n) [] from hrow);have DJ:=AX (hu0.trans hu1);have a3L:=Ap k4 k5;have Jj:=AX (show w.heap.size<=B/\B<=w1.heap.size/\p+1<B/\w.heap.size=p from ⟨by rw [<-hB];exact hu0.size,by rw [<-hB];exact hu1.size,hpB,hp⟩);have HAB:=Ap ha hb;have HII:=Ap ia ib;have HN:=Ap hnn hn;have HWE:=Ap hW0 hp;have HMK:=AX hmk';have HCC:=Ap c4 c5;clear hmk hrow hg hu0 hu1 h4 h5 k4 k5 hpk hpB ha hb ia ib hK hc hn hmk' c4 c5 hnn hB hp hW0;go_enter Tryz.func258,Tryz.ntmps258
 go_upto_region 1 with fail
 rw [HWE.1,HWE.2];have hmk':=HMK.out;obtain ⟨c4,c5⟩:=HCC.out;go_wp2_with fail
 clear hmk' c4 c5
 go_loopg [8] n (λm s8 wr=>∃(xs ys ps:List Nat) (A C:_) (Ax Cx Ay Cy:_),m=xs.length+ys.length/\s8=.slice A ps.length C/\KN.row wr B (.slice A ps.length C) ps/\List.merge a b (Vg K)=ps++List.merge xs ys (Vg K)/\ps.length+xs.length+ys.length=n/\
  wr.heap[p]? = some (.cells #[.slice Ax xs.length Cx] 163 (0,0))/\wr.heap[p+1]? = some (.cells #[.slice Ay ys.length Cy] 163 (0,0))/\See KN w (.slice Ax xs.length Cx) xs/\See KN w (.slice Ay ys.length Cy) ys/\(∀i∈xs,i<K.length)/\(∀i∈ys,i<K.length)/\Bj [] w wr/\B<=wr.heap.size)
 case atStart=>exact ⟨a,b,[],_,_,Aa,Ca,Ab,Cb,HN.1.symm,rfl,HST.out,rfl,by have:=HN.1;simp;omega,a3L.1,a3L.2,HAB.1,HAB.2,HII.1,HII.2,DJ.out,Jj.2.1⟩
 case round=>
  obtain ⟨xs,ys,ps,A,C,Ax,Cx,Ay,Cy,hm,rfl,hrow,hmg,hln,h4,h5,hsa,hsb,ia,ib,hu,hbs⟩:=hrel;have c4:wr.cell? p=some (.slice Ax xs.length Cx):=by simp [World.cell?,h4]
  have c5:wr.cell? ⟨p+1,0,none⟩=some (.slice Ay ys.length Cy):=by simp [World.cell?,h5]
  have QL:=AX hln;have HLEN:=AX (show ps.length+xs.length+ys.length<10000000 by have:=HN.out;omega);have HSA:=AX hsa;have VF:=AX hsb;have HU:=AX hu;have Ja:=AX hrow;have yG:=AX hmg;have xM:=Ap h4 h5;have fE:=Ap ia ib;have HM:=AX hm;have yH:=AX hbs;clear hln hsa hsb hu hrow hmg h4 h5 ia ib hm hbs;by_cases h1:0<xs.length
  ·have g1:decide (0<xs.length)=true:=decide_eq_true h1;have g1':(0:Int)<(xs.length:Int):=by omega
   by_cases h2:0<ys.length
   ·have g2:decide (0<ys.length)=true:=decide_eq_true h2;have g2':(0:Int)<(ys.length:Int):=by omega
    obtain ⟨x,xs',rfl⟩:∃x xs',xs=x::xs':=by cases xs with | nil=>simp at h1 | cons x xs=>exact ⟨x,xs,rfl⟩
    obtain ⟨y,ys',rfl⟩:∃y ys',ys=y::ys':=by cases ys with | nil=>simp at h2 | cons y ys=>exact ⟨y,ys,rfl⟩
    obtain ⟨gx,ox,hAx,-,-,fx⟩:=KN.at (HSA.out.BF HU.out) (k:=0) (x:=x) rfl;obtain ⟨gy,oy,hAy,-,-,fy⟩:=KN.at (VF.out.BF HU.out) (k:=0) (x:=y) rfl;rw [Nat.add_zero] at fx fy;subst hAx hAy;obtain ⟨Ax',Cx',tx,sx,-⟩:=fD HSA.out;obtain ⟨Ay',Cy',ty,sy,-⟩:=fD VF.out;have HTX:=Ap tx sx;have fF:=Ap ty sy;obtain ⟨nx,hnx⟩:∃m,(x::xs').length=m:=⟨_,rfl⟩;obtain ⟨ny,hny⟩:∃m,(y::ys').length=m:=⟨_,rfl⟩;rw [hnx] at c4 g1 g1' xM HTX;rw [hny] at c5 g2 g2' xM fF;have QJ:=Ap hnx hny;clear tx sx ty sy h1 h2 hnx hny;have q4:∀z:QW wr,z.w.cell? p=some (.slice (some ⟨gx,ox,none⟩) nx Cx):=λz=>(z.up.cell (p:=⟨p,0,none⟩) (World.block_lt_of_cell? wr _ c4) (by simp)).trans c4
    have q5:∀z:QW wr,z.w.cell? ⟨p+1,0,none⟩=some (.slice (some ⟨gy,oy,none⟩) ny Cy):=λz=>(z.up.cell (p:=⟨p+1,0,none⟩) (World.block_lt_of_cell? wr _ c5) (by simp)).trans c5
    have q6:∀z:QW wr,z.w.cell? ⟨gx,ox,none⟩=some (.int .i64 (x:Int)):=λz=>(z.up.cell (p:=⟨gx,ox,none⟩) (World.block_lt_of_cell? wr _ fx) (by simp)).trans fx
    have q7:∀z:QW wr,z.w.cell? ⟨gy,oy,none⟩=some (.int .i64 (y:Int)):=λz=>(z.up.cell (p:=⟨gy,oy,none⟩) (World.block_lt_of_cell? wr _ fy) (by simp)).trans fy
    have k1:=λ(z:QW wr)=>HKF.out z.w (HU.out.trans z.up) y (fE.2 y (by simp))
    have k2:=λ(z:QW wr)=>HKF.out z.w (HU.out.trans z.up) x (fE.1 x (by simp))
    have k3:=λ(z:QW wr)=>a1E (kf K y) (kf K x) z.w
    have hle:Vg K x y = !ahead (kf K y) (kf K x):=rfl;unfold ahead at hle;unfold ZT at k1 k2 k3;obtain ⟨ry,hry⟩:∃r,kf K y=r:=⟨_,rfl⟩;obtain ⟨rx,hrx⟩:∃r,kf K x=r:=⟨_,rfl⟩;simp only [hry,hrx] at k1 k2 k3 hle;obtain ⟨od,hod⟩:∃r,qo ry rx=r:=⟨_,rfl⟩;simp only [hod] at k3;rw [hod] at hle;obtain ⟨c,hc⟩:∃c,decide (od<0)=c:=⟨_,rfl⟩;rw [hc] at hle;have nP:=AX k1;have HK2:=AX k2;have HK3:=AX k3;have xO:=AX hle;clear k1 k2 k3 hle hry hrx hod fx fy
    cases c
    ·go_upto_region 4 with fail
     clear c4 c5;refine GU (by kernel_rfl) (by kernel_rfl) ?_
     repeat (go_big_quiet_step (first | (with_reducible exact Calls.JZ (nP.out _)) | (with_reducible exact Calls.JZ (HK2.out _)) | (with_reducible exact Calls.JZ (HK3.out _))))
     refine wpQuiet_nil ?_
     intro wq hw';obtain ⟨⟨wy,hwq⟩,hw''⟩:=hw';dsimp only at hw'';subst hw'';have HUQ:=AX hwq;have e4:=q4 ⟨wq,hwq⟩;have e5:=q5 ⟨wq,hwq⟩;have e6:=q6 ⟨wq,hwq⟩;have e7:=q7 ⟨wq,hwq⟩;dsimp only at e4 e5 e6 e7;have HEQ:=Ap e4 e5;have hrq:KN.row wq B (.slice A ps.length C) ps:=Bl Ja.out hwq (by simp);have HRQ:=AX hrq;have HBQ:=AX (show B<=wq.heap.size from Bh yH.out hwq.size);have g1:(0:Int)<(nx:Int):=by assumption
     clear q4 q5 q6 q7 hwq hrq;go_wp2_with (at_builtin;refine BM _ rfl _ _ 163 rfl B 3 i1 (.int .i64 0) 1 8 Tryz.underlying163 hi1 hy0 hy1 hy2 rfl (by decide) _ _ _ rfl (Bl HRQ.out ((Bj.refl [] _).alloc _) (by simp)) _ 1 [(x:Int)] rfl (BK wq #[(x:Int)] 3 1 1 rfl (by decide)) (by simp [Value.oneCell']) (by have:=HLEN.out;unfold maxLen;omega) (Ac HLEN) (by have:=HBQ.out;simp;omega) ?_)
     intro A6 C6 w6 HP
     have Ij:KN.row w6 B (.slice A6 (ps.length+1) C6) (ps++[x]):=by
      have:=HP.own;unfold Kind.row;rw [Kind.BZ,Bc];exact this
     have Jb:Bj (blk (.slice A ps.length C)) wq w6:=((Bj.refl _ _).alloc _).trans HP.upd;have hpn:p∉blk (.slice A ps.length C)/\p+1∉blk (.slice A ps.length C):=⟨λh=>by have:=BH Ja.out _ h;have:=Jj.out;omega,λh=>by have:=BH Ja.out _ h;have:=Jj.out;omega⟩;have b4:=(Jb.block p (World.block_lt_of_cell? wq _ HEQ.1) hpn.1).trans ((HUQ.out.block p (lt_of_block xM.1) (by simp)).trans xM.1);have b5:=(Jb.block (p+1) (World.block_lt_of_cell? wq _ HEQ.2) hpn.2).trans ((HUQ.out.block (p+1) (lt_of_block xM.2) (by simp)).trans xM.2);have f4:w6.cell? p=some (.slice (some ⟨gx,ox,none⟩) nx Cx):=by simp [World.cell?,b4]
     have f5:w6.cell? ⟨p+1,0,none⟩=some (.slice (some ⟨gy,oy,none⟩) ny Cy):=by simp [World.cell?,b5]
     have f6:w6.frozen? p=false:=by simp [World.frozen?,b4]
     have f7:w6.frozen? ⟨p+1,0,none⟩=false:=by simp [World.frozen?,b5]
     have tt:=HTX.1;have MW:=AX Ij;have Ik:=AX (show Bj [] w w6 from (HU.out.trans HUQ.out).trans' Jb (λk hk=>.inr (by have:=BH Ja.out k hk;have:=Jj.out;omega)));have HB6:=AX (show B<=w6.heap.size from Bh HBQ.out Jb.size);have yI:=Ap b4 b5;clear e4 e5 e6 e7 HP Ij Jb hpn b4 b5;go_wp2_with fail
     have xP:=AX (show KN.row (w6.setCell p (.slice Ax' xs'.length Cx')) B (.slice A6 (ps.length+1) C6) (ps++[x]) from Ez MW.out λk hk=>Below.heap_setCell _ _ _ _ (λe=>by have h1:=BH MW.out k hk;have h2:=Jj.out;dsimp only at e;omega));go_roundg (xs'.length+ys'.length+1)
     case measure=>have h1:=HM.out;have h2:=QJ.out;simp at h1;omega
     case rel=>exact ⟨xs',y::ys',ps++[x],A6,C6,Ax',Cx',some ⟨gy,oy,none⟩,Cy,by simp;omega,by simp,by rw [Bc];exact xP.out,by rw [yG.out,List.cons_merge_cons,xO.out];simp,by have:=QL.out;simp at this |-;omega,heap_set yI.1 0 _,by rw [Below.heap_setCell _ _ _ _ (by dsimp only;omega),QJ.2];exact yI.2,HTX.2,VF.out,λi hi=>fE.1 i (List.mem_cons_of_mem _ hi),λi hi=>fE.2 i hi,Ik.out.setCell (.inr (by have:=Jj.out;dsimp only;omega)) _,by simpa [World.setCell] using HB6.out⟩
    ·go_upto_region 4 with fail
     clear c4 c5;refine GU (by kernel_rfl) (by kernel_rfl) ?_
     repeat (go_big_quiet_step (first | (with_reducible exact Calls.JZ (nP.out _)) | (with_reducible exact Calls.JZ (HK2.out _)) | (with_reducible exact Calls.JZ (HK3.out _))))
     refine wpQuiet_nil ?_
     intro wq hw';obtain ⟨⟨wy,hwq⟩,hw''⟩:=hw';dsimp only at hw'';subst hw'';have HUQ:=AX hwq;have e4:=q4 ⟨wq,hwq⟩;have e5:=q5 ⟨wq,hwq⟩;have e6:=q6 ⟨wq,hwq⟩;have e7:=q7 ⟨wq,hwq⟩;dsimp only at e4 e5 e6 e7;have HEQ:=Ap e4 e5;have hrq:KN.row wq B (.slice A ps.length C) ps:=Bl Ja.out hwq (by simp);have HRQ:=AX hrq;have HBQ:=AX (show B<=wq.heap.size from Bh yH.out hwq.size);have g1:(0:Int)<(ny:Int):=by assumption
     clear q4 q5 q6 q7 hwq hrq;go_wp2_with (at_builtin;refine BM _ rfl _ _ 163 rfl B 3 i1 (.int .i64 0) 1 8 Tryz.underlying163 hi1 hy0 hy1 hy2 rfl (by decide) _ _ _ rfl (Bl HRQ.out ((Bj.refl [] _).alloc _) (by simp)) _ 1 [(y:Int)] rfl (BK wq #[(y:Int)] 3 1 1 rfl (by decide)) (by simp [Value.oneCell']) (by have:=HLEN.out;unfold maxLen;omega) (Ac HLEN) (by have:=HBQ.out;simp;omega) ?_)
     intro A6 C6 w6 HP
     have Ij:KN.row w6 B (.slice A6 (ps.length+1) C6) (ps++[y]):=by
      have:=HP.own;unfold Kind.row;rw [Kind.BZ,Bc];exact this
     have Jb:Bj (blk (.slice A ps.length C)) wq w6:=((Bj.refl _ _).alloc _).trans HP.upd;have hpn:p∉blk (.slice A ps.length C)/\p+1∉blk (.slice A ps.length C):=⟨λh=>by have:=BH Ja.out _ h;have:=Jj.out;omega,λh=>by have:=BH Ja.out _ h;have:=Jj.out;omega⟩;have b4:=(Jb.block p (World.block_lt_of_cell? wq _ HEQ.1) hpn.1).trans ((HUQ.out.block p (lt_of_block xM.1) (by simp)).trans xM.1);have b5:=(Jb.block (p+1) (World.block_lt_of_cell? wq _ HEQ.2) hpn.2).trans ((HUQ.out.block (p+1) (lt_of_block xM.2) (by simp)).trans xM.2);have f4:w6.cell? p=some (.slice (some ⟨gx,ox,none⟩) nx Cx):=by simp [World.cell?,b4]
     have f5:w6.cell? ⟨p+1,0,none⟩=some (.slice (some ⟨gy,oy,none⟩) ny Cy):=by simp [World.cell?,b5]
     have f6:w6.frozen? p=false:=by simp [World.frozen?,b4]
     have f7:w6.frozen? ⟨p+1,0,none⟩=false:=by simp [World.frozen?,b5]
     have tt:=fF.1;have MW:=AX Ij;have Ik:=AX (show Bj [] w w6 from (HU.out.trans HUQ.out).trans' Jb (λk hk=>.inr (by have:=BH Ja.out k hk;have:=Jj.out;omega)));have HB6:=AX (show B<=w6.heap.size from Bh HBQ.out Jb.size);have yI:=Ap b4 b5;clear e4 e5 e6 e7 HP Ij Jb hpn b4 b5;go_wp2_with fail
     have xP:=AX (show KN.row (w6.setCell ⟨p+1,0,none⟩ (.slice Ay' ys'.length Cy')) B (.slice A6 (ps.length+1) C6) (ps++[y]) from Ez MW.out λk hk=>Below.heap_setCell _ _ _ _ (λe=>by have h1:=BH MW.out k hk;have h2:=Jj.out;dsimp only at e;omega));go_roundg (xs'.length+ys'.length+1)
     case measure=>have h1:=HM.out;have h2:=QJ.out;simp at h1;omega
     case rel=>exact ⟨x::xs',ys',ps++[y],A6,C6,some ⟨gx,ox,none⟩,Cx,Ay',Cy',by simp;omega,by simp,by rw [Bc];exact xP.out,by rw [yG.out,List.cons_merge_cons,xO.out];simp,by have:=QL.out;simp at this |-;omega,by rw [Below.heap_setCell _ _ _ _ (by dsimp only;omega),QJ.1];exact yI.1,heap_set yI.2 0 _,HSA.out,fF.2,λi hi=>fE.1 i hi,λi hi=>fE.2 i (List.mem_cons_of_mem _ hi),Ik.out.setCell (.inr (by have:=Jj.out;dsimp only;omega)) _,by simpa [World.setCell] using HB6.out⟩
   ·have g2:decide (0<ys.length)=false:=decide_eq_false h2;have g2':¬(0:Int)<(ys.length:Int):=by omega
    have HMG:=AX (show List.merge a b (Vg K)=ps++xs++ys by
     have:ys = []:=List.length_eq_zero_iff.1 (by omega);rw [yG.out,this,List.append_assoc];congr 1;cases xs<;>simp)
    clear h1 h2;go_upto_region 8 with fail
    obtain ⟨Wd,hWd⟩:∃Wd,Wd=wr.drew:=⟨_,rfl⟩;have hD0:Bj [] wr Wd:=by rw [hWd];exact (Bj.refl _ _).drew
    have HC2:=AX (fC (AV c4 c5) hD0);have VG:=AX (HU.out.trans hD0);have KZ:=AX (show KN.row Wd B (.slice A ps.length C) ps from Bl Ja.out hD0 (by simp));have HBS:=AX (show B<=Wd.heap.size from Bh yH.out hD0.size);have HPN:=AX (show p∉blk (.slice A ps.length C)/\p+1∉blk (.slice A ps.length C) from ⟨λh=>by have:=BH Ja.out _ h;have:=Jj.out;omega,λh=>by have:=BH Ja.out _ h;have:=Jj.out;omega⟩);clear c4 c5 hD0;refine Bo.start [4,5] (λw'=>w'.cell? p=some (.slice Ax xs.length Cx)/\w'.cell? ⟨p+1,0,none⟩=some (.slice Ay ys.length Cy)) (by kernel_rfl) ?_ λhS=>?_
    ·exact by rw [<-hWd];exact HC2.out
    rw [<-hWd] at hS |-;clear hWd;refine' Bo.mx 0 50 ?_
    refine' Bo.ty 2 1 51 ?_
    refine' Bo.ty 2 3 53 ?_
    refine Bo.one (i:=2) (o:=⟨some 52,_,_,_,_,_⟩) rfl (by kernel_rfl) λK hK=>?_
    refine ER _ (by rfl) _ _ 163 (by rfl) B 3 i1 (.int .i64 0) 1 8 Tryz.underlying163 hi1 hy0 hy1 hy2 rfl (by decide) _ _ _ (by rfl) KZ.out _ xs.length (KN.all xs) (by rfl) (HSA.out.BF VG.out) (KN.DU xs) (by have:=HLEN.out;unfold maxLen;omega) (Ac HLEN) HBS.out ?_
    intro A5 C5 w5 HP;refine hK.out _ _ (λ_ h=>?_) ?_
    ·exact ⟨(HP.upd.cell (p:=⟨p,0,none⟩) (World.block_lt_of_cell? Wd _ h.1) HPN.1).trans h.1,(HP.upd.cell (p:=⟨p+1,0,none⟩) (World.block_lt_of_cell? Wd _ h.2) HPN.2).trans h.2⟩
    clear hK K;try simp only [Act.put,sA,sZ,sS]
    have GK:KN.row w5 B (.slice A5 (ps.length+xs.length) C5) (ps++xs):=by
     have:=HP.own;unfold Kind.row;rw [Kind.BZ,Bc];exact this
    have Nv:=AX (VG.out.trans' HP.upd (λk hk=>.inr (by have:=BH KZ.out k hk;have:=Jj.out;omega)));have yJ:=AX GK;have HB5:=AX (Bh HBS.out HP.upd.size);clear HP GK;refine Bo.one (i:=4) (o:=⟨some 54,_,_,_,_,_⟩) rfl (by kernel_rfl) λK hK=>?_
    refine ER _ (by rfl) _ _ 163 (by rfl) B 3 i1 (.int .i64 0) 1 8 Tryz.underlying163 hi1 hy0 hy1 hy2 rfl (by decide) _ _ _ (by rfl) (show w5.ownsRow B 3 1 (.slice A5 (ps.length+xs.length) C5) (ps.length+xs.length) (KN.all (ps++xs)) by have:=yJ.out;unfold Kind.row at this;rw [Bc] at this;exact this) _ ys.length (KN.all ys) (by rfl) (VF.out.BF Nv.out) (KN.DU ys) (by have:=HLEN.out;unfold maxLen;omega) (Ac HLEN) HB5.out ?_
    intro A6 C6 w6 HP;refine hK.out _ _ (λh=>(by cases h)) ?_
    clear hK K;try simp only [Act.put,sA,sZ,sS]
    have Ij:KN.row w6 B (.slice A6 (ps.length+xs.length+ys.length) C6) (ps++xs++ys):=by
     have:=HP.own;unfold Kind.row;rw [Kind.BZ,Bc,Bc];exact this
    have Ik:=AX (Nv.out.trans' HP.upd (λk hk=>.inr (by have:=BH yJ.out k hk;have:=Jj.out;omega)));have MW:=AX Ij;clear HP Ij;refine' Bo.mx 5 8 ?_
    refine Bo.done (by kernel_rfl) ?_
    have hln:((ps.length:Int)+(xs.length:Int)+(ys.length:Int))=(n:Int):=Ac QL;have PU:=AX hln;clear hln;go_wp2_with fail
    go_ret2
    exact ⟨A6,C6,by rw [<-QL.out];rfl,by rw [HMG.out,<-QL.out];exact See.BU MW.out,Ik.out,λk hk=>by have:=BH MW.out k (by cases A6<;>exact hk);have:=Jj.out;omega⟩
  ·have g1:decide (0<xs.length)=false:=decide_eq_false h1;have g1':¬(0:Int)<(xs.length:Int):=by omega
   have HMG:=AX (show List.merge a b (Vg K)=ps++xs++ys by
    have:xs = []:=List.length_eq_zero_iff.1 (by omega);rw [yG.out,this,List.append_assoc];congr 1;simp)
   clear h1;go_upto_region 8 with fail
   obtain ⟨Wd,hWd⟩:∃Wd,Wd=wr.drew:=⟨_,rfl⟩;have hD0:Bj [] wr Wd:=by rw [hWd];exact (Bj.refl _ _).drew
   have HC2:=AX (fC (AV c4 c5) hD0);have VG:=AX (HU.out.trans hD0);have KZ:=AX (show KN.row Wd B (.slice A ps.length C) ps from Bl Ja.out hD0 (by simp));have HBS:=AX (show B<=Wd.heap.size from Bh yH.out hD0.size);have HPN:=AX (show p∉blk (.slice A ps.length C)/\p+1∉blk (.slice A ps.length C) from ⟨λh=>by have:=BH Ja.out _ h;have:=Jj.out;omega,λh=>by have:=BH Ja.out _ h;have:=Jj.out;omega⟩);clear c4 c5 hD0;refine Bo.start [4,5] (λw'=>w'.cell? p=some (.slice Ax xs.length Cx)/\w'.cell? ⟨p+1,0,none⟩=some (.slice Ay ys.length Cy)) (by kernel_rfl) ?_ λhS=>?_
   ·exact by rw [<-hWd];exact HC2.out
   rw [<-hWd] at hS |-;clear hWd;refine' Bo.mx 0 50 ?_
   refine' Bo.ty 2 1 51 ?_
   refine' Bo.ty 2 3 53 ?_
   refine Bo.one (i:=2) (o:=⟨some 52,_,_,_,_,_⟩) rfl (by kernel_rfl) λK hK=>?_
   refine ER _ (by rfl) _ _ 163 (by rfl) B 3 i1 (.int .i64 0) 1 8 Tryz.underlying163 hi1 hy0 hy1 hy2 rfl (by decide) _ _ _ (by rfl) KZ.out _ xs.length (KN.all xs) (by rfl) (HSA.out.BF VG.out) (KN.DU xs) (by have:=HLEN.out;unfold maxLen;omega) (Ac HLEN) HBS.out ?_
   intro A5 C5 w5 HP;refine hK.out _ _ (λ_ h=>?_) ?_
   ·exact ⟨(HP.upd.cell (p:=⟨p,0,none⟩) (World.block_lt_of_cell? Wd _ h.1) HPN.1).trans h.1,(HP.upd.cell (p:=⟨p+1,0,none⟩) (World.block_lt_of_cell? Wd _ h.2) HPN.2).trans h.2⟩
   clear hK K;try simp only [Act.put,sA,sZ,sS]
   have GK:KN.row w5 B (.slice A5 (ps.length+xs.length) C5) (ps++xs):=by
    have:=HP.own;unfold Kind.row;rw [Kind.BZ,Bc];exact this
   have Nv:=AX (VG.out.trans' HP.upd (λk hk=>.inr (by have:=BH KZ.out k hk;have:=Jj.out;omega)));have yJ:=AX GK;have HB5:=AX (Bh HBS.out HP.upd.size);clear HP GK;refine Bo.one (i:=4) (o:=⟨some 54,_,_,_,_,_⟩) rfl (by kernel_rfl) λK hK=>?_
   refine ER _ (by rfl) _ _ 163 (by rfl) B 3 i1 (.int .i64 0) 1 8 Tryz.underlying163 hi1 hy0 hy1 hy2 rfl (by decide) _ _ _ (by rfl) (show w5.ownsRow B 3 1 (.slice A5 (ps.length+xs.length) C5) (ps.length+xs.length) (KN.all (ps++xs)) by have:=yJ.out;unfold Kind.row at this;rw [Bc] at this;exact this) _ ys.length (KN.all ys) (by rfl) (VF.out.BF Nv.out) (KN.DU ys) (by have:=HLEN.out;unfold maxLen;omega) (Ac HLEN) HB5.out ?_
   intro A6 C6 w6 HP;refine hK.out _ _ (λh=>(by cases h)) ?_
   clear hK K;try simp only [Act.put,sA,sZ,sS]
   have Ij:KN.row w6 B (.slice A6 (ps.length+xs.length+ys.length) C6) (ps++xs++ys):=by
    have:=HP.own;unfold Kind.row;rw [Kind.BZ,Bc,Bc];exact this
   have Ik:=AX (Nv.out.trans' HP.upd (λk hk=>.inr (by have:=BH yJ.out k hk;have:=Jj.out;omega)));have MW:=AX Ij;clear HP Ij;refine' Bo.mx 5 8 ?_
   refine Bo.done (by kernel_rfl) ?_
   have hln:((ps.length:Int)+(xs.length:Int)+(ys.length:Int))=(n:Int):=Ac QL;have PU:=AX hln;clear hln;go_wp2_with fail
   go_ret2
   exact ⟨A6,C6,by rw [<-QL.out];rfl,by rw [HMG.out,<-QL.out];exact See.BU MW.out,Ik.out,λk hk=>by have:=BH MW.out k (by cases A6<;>exact hk);have:=Jj.out;omega⟩
def Jk (n:Nat) (f:Nat->Nat):List Nat:=(List.range n).map f
theorem Gw (n:Nat) (f:Nat->Nat):(Jk n f).length=n:=by simp [Jk]
theorem LU {n:Nat} {f:Nat->Nat} {i:Nat} (h:i<n):(Jk n f)[i]? = some (f i):=by
 unfold Jk;rw [List.getElem?_map,List.getElem?_range h];rfl
theorem TG {n:Nat} {f g:Nat->Nat} (h:∀i,i<n->f i=g i):Jk n f=Jk n g:=by
 unfold Jk;exact List.map_congr_left λi hi=>h i (List.mem_range.1 hi)
theorem qp (n:Nat) (f:Nat->Nat) (k b:Nat):(Jk n f).set k b=Jk n (λi=>if i=k then b else f i):=by
 refine List.ext_getElem? λi=>?_
 rw [List.getElem?_set];by_cases hk:k=i
 ·subst hk;rw [if_pos rfl];by_cases hn:k<n
  ·rw [if_pos (by rw [Gw];exact hn),LU hn,if_pos rfl]
  ·rw [if_neg (by rw [Gw];exact hn),List.getElem?_eq_none (by rw [Gw];omega)]
 ·rw [if_neg hk];by_cases hn:i<n
  ·rw [LU hn,LU hn,if_neg (Ne.symm hk)]
  ·rw [List.getElem?_eq_none (by rw [Gw];omega),List.getElem?_eq_none (by rw [Gw];omega)]
theorem ZU (l:List Nat):KN.all l=l.map λ(x:Nat)=>(.int .i64 (x:Int):Value):=by
 induction l with
 |nil=>rfl
 |cons x l ih=>rw [List.map_cons,<-ih];rfl
theorem yK {w':World} {base g n:Nat} (h:w'.ownsRow base 3 1 (.slice (some ⟨g,0,none⟩) n n) n (madeCells #[.int .i64 0] (n*1)).toList):KN.row w' base (.slice (some ⟨g,0,none⟩) n n) (Jk n (λ_=>0)):=by
 unfold Kind.row;rw [Gw,ZU];rw [Nat.mul_one,toList_madeCells_one] at h
 have e:((Jk n λ_=>0).map λ(x:Nat)=>(.int .i64 (x:Int):Value))=List.replicate n (.int .i64 0):=by
  refine List.ext_getElem? λi=>?_
  rw [List.getElem?_map,List.getElem?_replicate];by_cases hi:i<n
  ·rw [LU hi,if_pos hi];rfl
  ·rw [List.getElem?_eq_none (by rw [Gw];omega),if_neg hi];rfl
 rw [e];exact h
theorem jM {w:World} {base g n:Nat} {f:Nat->Nat} (h:KN.row w base (.slice (some ⟨g,0,none⟩) n n) (Jk n f)) (k b:Nat) :
 KN.row (w.setCell ⟨g,k,none⟩ (.int .i64 (b:Int))) base (.slice (some ⟨g,0,none⟩) n n) (Jk n (λi=>if i=k then b else f i)):=by
 have hl:=Gw n f
 have h':w.ownsRow base 3 1 (.slice (some ⟨g,0,none⟩) n n) n (KN.all (Jk n f)):=by
  have h2:=h;unfold Kind.row at h2;rw [hl] at h2;exact h2
 have:=(World.ownsRow.stored h' k (.int .i64 (b:Int))).1;unfold Kind.row;rw [Gw,<-qp,ZU,List.map_set,<-ZU];exact this
def qw (w:World) (n:Nat) (e:Ending) (w':World):Prop:=∃A C,e=.returned (.slice A n C)/\See KN w' (.slice A n C) (List.range n)/\Bj [] w w'/\∀k∈blk (.slice A n C),w.heap.size<=k
theorem yL (n:Nat) (w:World) (hn:n<10000000):Calls Tryz.prog 220 #[.int .i64 0,(n:Int)] w (qw w n):=by
 obtain ⟨i1,hi1,hy0,hy1,hy2⟩:=info_parts MV;unfold qw;obtain ⟨w1,hmk,ho,hg⟩:=run_make_full (P:=Tryz.prog) w w.heap.size 163 3 i1 (.int .i64 0) 1 Tryz.underlying163 hi1 hy0 hy1 .i64 .i64 n (by rw [hy2];omega) (by unfold maxLen;omega) (Nat.le_refl _);have hrow:=yK ho;have hu1:Bj [] w w1:=(Bj.refl _ _).grown hg (by simp);have hz1:w.heap.size<w1.heap.size:=BJ ho w.heap.size (by simp [blk]);have hnb:(n:Int)<10000000:=by omega
 have HR:=Aq hrow hu1 hz1;clear hrow hu1 hz1 ho hg hn;go_enter Tryz.func220,Tryz.ntmps220
 go_wp2_with fail
 go_loopg [11] n (λm s11 wr=>∃k,m+k=n/\s11=.int .i64 (k:Int)/\KN.row wr w.heap.size (.slice (some ⟨w.heap.size,0,none⟩) n n) (Jk n λi=>if i<k then i else 0)/\Bj [] w wr)
 case atStart=>exact ⟨0,rfl,rfl,by have:=HR.1;simpa using this,HR.2.1⟩
 case round=>
  obtain ⟨k,hk,rfl,hrw,hu⟩:=hrel;have b0:(0:Int)<=(k:Int):=AY _;have HK:=AX hk;by_cases hlt:k<n
  ·have b1:(k:Int)<(n:Int):=by omega
   obtain ⟨gq,hgq,-,eq1,eqf⟩:=rowAt (K:=KN) hrw (LU (f:=λi=>if i<k then i else 0) hlt);rw [if_neg (by omega)] at eq1
   cases hgq
   have q0:wr.cell? ⟨w.heap.size,k,none⟩=some (.int .i64 0):=by
    have:=eq1 0 _ rfl;simpa [KN] using this
   have qf:=eqf k;have hst:=jM hrw k k
   have e:(Jk n λi=>if i=k then k else if i<k then i else 0)=Jk n λi=>if i<k+1 then i else 0:=TG λi _=>by
    by_cases h1:i=k
    ·rw [if_pos h1,if_pos (by omega),h1]
    ·rw [if_neg h1];by_cases h2:i<k
     ·rw [if_pos h2,if_pos (by omega)]
     ·rw [if_neg h2,if_neg (by omega)]
   rw [e] at hst;have HST:=AX hst;have HU:=AX (hu.setCell (p:=⟨w.heap.size,k,none⟩) (.inr (Nat.le_refl _)) (.int .i64 (k:Int)));have JO:=AX hlt;clear hst e hrw hu eq1 eqf hlt hk;go_wp2_with fail
   go_roundg (n - (k+1))
   case measure=>have:=HK.out;have:=JO.out;omega
   case rel=>exact ⟨k+1,Ad HK JO,by go_num,HST.out,HU.out⟩
  ·have e:(Jk n λi=>if i<k then i else 0)=List.range n:=by
    have:(Jk n λi=>if i<k then i else 0)=Jk n id:=TG λi hi=>by rw [if_pos (by omega)];rfl
    rw [this];unfold Jk;simp
   rw [e] at hrw;have hs:See KN wr (.slice (some ⟨w.heap.size,0,none⟩) n n) (List.range n):=See.BU hrw;have HS:=Ap hs hu;clear hrw hs hu e hk;go_wp2_with fail
   go_ret
   exact ⟨_,_,rfl,HS.1,HS.2,λk hk=>by simp [blk] at hk;omega⟩
theorem yM {w:World} {A:Option Addr} {n C:Nat} {l:List Nat} (h:See KN w (.slice A n C) l) (k:Nat) (hk:k<=l.length) :
 ∃A' C',(∀w',(Instr.slice 163 (.slice A n C) none (some (.int .i64 (k:Int))) (some (.int .i64 (k:Int)))).run Tryz.prog w'=.ok (.slice A' k C') w')/\See KN w (.slice A' k C') (l.take k):=by
 obtain ⟨i1,hi1,hy0,hy1,hy2⟩:=info_parts MV;have hel:Tryz.prog.elem 163=3:=by simp [Program.elem,Tryz.underlying163]
 have hlen:(l.take k).length=k:=by rw [Bf];omega
 rcases h.2 with ⟨e1,e2⟩ | ⟨b,o,s,cap,e1,e2,e3,e4,e5⟩
 ·cases e1
  have hk0:k=0:=by omega
  subst hk0;refine ⟨none,0,λw'=>?_,?_⟩
  ·rw [run_slice_hm w' 163 none 0 0 (G6 Tryz.underlying163) .i64 .i64 _ _ (by omega) (by omega) (by omega)];simp [hel,sizeOf,typeInfo,hi1,sliced]
  ·exact ⟨by simp [Kind.all],.inl ⟨rfl,by simp⟩⟩
 ·cases e1
  refine ⟨some ⟨b,o,s⟩,k,λw'=>?_,?_⟩
  ·rw [run_slice_hm w' 163 _ l.length C (G6 Tryz.underlying163) .i64 .i64 _ _ (by omega) (by omega) (by omega)];simp [hel,sizeOf,typeInfo,hi1,sliced,Addr.add]
  ·unfold See;rw [hlen];refine ⟨by rw [KN.Gm,hlen],.inr ⟨b,o,s,k,rfl,λhp=>e2 (by omega),Nat.le_refl _,by omega,λj u hu=>?_⟩⟩
   rw [Kind.Iw,List.getElem?_take] at hu;split at hu
   ·exact e5 j u hu
   ·cases hu
theorem yN {w:World} {A:Option Addr} {n C:Nat} {l:List Nat} (h:See KN w (.slice A n C) l) (k:Nat) (hk:k<=l.length) :
 ∃A' C',(∀w',(Instr.slice 163 (.slice A n C) (some (.int .i64 (k:Int))) none none).run Tryz.prog w'=.ok (.slice A' (l.length - k) C') w')/\See KN w (.slice A' (l.length - k) C') (l.drop k):=by
 obtain ⟨A0,C0,e⟩:=h.form;injection e with e1 e2 e3;subst e1 e2 e3;obtain ⟨i1,hi1,hy0,hy1,hy2⟩:=info_parts MV;obtain ⟨A',C',r1,r2,-⟩:=Jw (P:=Tryz.prog) Tryz.underlying163 hi1 hy1 h k hk;refine ⟨A',C',r1,?_⟩
 have:=r2 w h;unfold See;rw [Kind.Js,List.length_drop];exact this
def MX (v:Value) (w:World) (K:List (Int×Nat)) (l:List Nat) (e:Ending) (w':World):Prop:=
 ∃A C M,∃wr:Nat,e=.returned (.tuple #[.slice A l.length C,(wr:Int)])/\See KN w' (.slice A l.length C) M/\M.Perm l/\M.Pairwise (λi j=>Vg K i j=true)/\wr<=l.length*l.length/\Bj [] w w'/\∀k∈blk (.slice A l.length C),k∈blk v\/w.heap.size<=k
theorem ZV {h m:Nat} (hh:1<=h) (hm:1<=m):h*h+m*m+(h+m)<=(h+m)*(h+m):=by
 have e:(h+m)*(h+m)=h*h+m*m+(h*m+h*m):=by
  rw [Nat.add_mul,Nat.mul_add,Nat.mul_add,Nat.mul_comm m h];omega
 have h1:h<=h*m:=Nat.le_mul_of_pos_right h hm;have h2:m<=h*m:=Nat.le_mul_of_pos_left m hh;omega
theorem qC (vk:Value) (K:List (Int×Nat)) (pk:Nat):∀(d:Nat) (l:List Nat) (v:Value) (w:World),l.length<=d->w.cell? pk=some vk->See KK w vk K->See KN w v l->(∀i∈l,i<K.length)->l.length<1000000->
 Calls Tryz.prog 218 #[.func (.func 219) #[] #[.pointer (some pk)],v] w (MX v w K l):=by
 intro d;induction d with
 |zero=>
  intro l v w hd hc hK hl hi hn;have e:l = []:=List.length_eq_zero_iff.1 (by omega);subst e;obtain ⟨A,C,rfl⟩:=hl.form;unfold MX;have HL:=AX hl;clear hc hK hl hi hn hd;go_enter Tryz.func218,Tryz.ntmps218
  go_wp2_with fail
  go_ret2
  exact ⟨A,C,[],0,rfl,HL.out,List.Perm.refl _,List.Pairwise.nil,by simp,Bj.refl _ _,λk hk=>.inl hk⟩
 |succ d ih=>
  intro l v w hd hc hK hl hi hn;obtain ⟨A,C,rfl⟩:=hl.form;unfold MX;obtain ⟨n,hn'⟩:=AU l.length;obtain ⟨h,hh⟩:=AU (n / 2);have HHV:=AX (show (n:Int) / 2=(h:Int) by omega);have n0:(0:Int)<=(n:Int):=AY _;have Ry:=AX (show (n:Int)<1000000 by omega);have h0:(0:Int)<=(h:Int):=AY _;by_cases hz:h=0
  ·subst hz
   have hs:l.Pairwise (λi j=>Vg K i j=true):=by
    match l,hn' with
    | [],_=>exact List.Pairwise.nil
    | [x],_=>exact List.pairwise_singleton _ _
    |x::y::r,e=>simp at e;omega
   have HL:=Ap hl hs;rw [hn'] at HL |-;clear hc hK hl hi hn hd hs hn' hh;have n1:=Ry.out;go_enter Tryz.func218,Tryz.ntmps218
   go_upto_region 2 with fail
   rw [HHV.out];clear n1;go_wp2_with fail
   go_ret2
   exact ⟨A,C,l,0,rfl,HL.1,List.Perm.refl _,HL.2,by simp,Bj.refl _ _,λk hk=>.inl hk⟩
  ·have hz1:((h:Int)==0)=false:=by simp;omega
   have hz2:¬(h:Int)=0:=by omega
   have hz3:¬h=0:=hz;obtain ⟨A1,C1,t1,s1⟩:=yM hl h (by omega);obtain ⟨A2,C2,t2,s2⟩:=yN hl h (by omega);have l1:(l.take h).length=h:=by rw [Bf];omega
   have l2:(l.drop h).length=l.length - h:=by rw [List.length_drop]
   have i1:∀i∈l.take h,i<K.length:=λi hi'=>hi i (List.mem_of_mem_take hi')
   have i2:∀i∈l.drop h,i<K.length:=λi hi'=>hi i (List.mem_of_mem_drop hi')
   have hpk:pk<w.heap.size:=World.block_lt_of_cell? w _ hc;have o1:=λw1 (hu:Bj [] w w1)=>ih (l.take h) (.slice A1 h C1) w1 (by omega) ((hu.cell (p:=⟨pk,0,none⟩) hpk (by simp)).trans hc) (hK.BF hu) (s1.BF hu) i1 (by omega)
   have o2:=λw1 (hu:Bj [] w w1)=>ih (l.drop h) (.slice A2 (l.length - h) C2) w1 (by omega) ((hu.cell (p:=⟨pk,0,none⟩) hpk (by simp)).trans hc) (hK.BF hu) (s2.BF hu) i2 (by omega)
   unfold MX at o1 o2;rw [l1] at o1;rw [l2] at o2
   have HM:=AX (show ∀(a b:List Nat) (va vb:Value) (w1:World),Bj [] w w1->See KN w1 va a->See KN w1 vb b->a.Perm (l.take h)->b.Perm (l.drop h)->Calls Tryz.prog 258 #[.func (.func 219) #[] #[.pointer (some pk)],va,vb] w1 (RN w1 (List.merge a b (Vg K)) (a.length+b.length)) from λa b va vb w1 hu ha hb pa pb=>
    yF vk va vb K pk a b w1 ((hu.cell (p:=⟨pk,0,none⟩) hpk (by simp)).trans hc) (hK.BF hu) ha hb (λi hi'=>i1 i (pa.mem_iff.1 hi')) (λi hi'=>i2 i (pb.mem_iff.1 hi')) (by have:=pa.length_eq;have:=pb.length_eq;omega))
   rw [hn'] at t1 t2 o2 l2 |-;obtain ⟨m,hm⟩:=AU (n - h);rw [hm] at t2 o2 l2;have hs:=ZV (h:=h) (m:=m) (by omega) (by omega);have b1:h*h<=1000000*1000000:=Nat.mul_le_mul (by omega) (by omega);have b2:m*m<=1000000*1000000:=Nat.mul_le_mul (by omega) (by omega);have HO1:=AX o1;have HO2:=AX o2;have HS:=Au hs b1 b2 (show h+m=n by omega);have ZW:=Ap l1 l2;clear o1 o2 hs b1 b2 hc hK hl hi hn hd s1 s2 i1 i2 hpk l1 l2 hh hm hn' hz ih;have n1:=Ry.out;go_enter Tryz.func218,Tryz.ntmps218
   go_upto_region 2 with fail
   rw [HHV.out];clear n1;go_wp2_with fail
   go_fit (HO1.out _ (Bj.refl _ _))
   rintro e w1 ⟨Aa,Ca,Ma,wa,rfl,sa,pa,qa,ba,hu1,-⟩;have H1:=Aw sa pa qa ba hu1;have c1:(wa:Int)<=1000000000000:=Ac HS.2.1;have c0:(0:Int)<=(wa:Int):=AY _;clear sa pa qa ba hu1;go_wp2_with fail
   go_fit (HO2.out _ H1.2.2.2.2)
   rintro e w2 ⟨Ab,Cb,Mb,wb,rfl,sb,pb,qb,bb,hu2,-⟩;have hmg:=HM.out Ma Mb (.slice Aa h Ca) (.slice Ab m Cb) w2 (H1.2.2.2.2.trans hu2) (H1.1.BF hu2) sb H1.2.1 pb;have e1:Ma.length=h:=H1.2.1.length_eq.trans ZW.1;have e2:Mb.length=m:=pb.length_eq.trans ZW.2;unfold RN at hmg;rw [e1,e2,HS.2.2.2] at hmg;have HMG:=AX hmg;have H2:=Au pb qb bb (H1.2.2.2.2.trans hu2);have c2:(wb:Int)<=1000000000000:=Ac HS.2.2.1;have c3:(0:Int)<=(wb:Int):=AY _;have n1:=Ry.out;clear sb pb qb bb hu2 hmg e1 e2;go_wp2_with fail
   go_fit HMG.out
   rintro e w3 ⟨A3,C3,rfl,s3,hu3,hk3⟩;have H3:=Aq s3 (H2.2.2.2.trans hu3) (show ∀k∈blk (.slice A3 n C3),w.heap.size<=k from λk hk=>Bh H2.2.2.2.size (hk3 k hk));clear s3 hu3 hk3;go_wp2_with fail
   go_ret2
   refine ⟨A3,C3,List.merge Ma Mb (Vg K),wa+wb+n,rfl,H3.1,?_,?_,?_,H3.2.1,λk hk=>.inr (H3.2.2 k hk)⟩
   ·have h1:(List.merge Ma Mb (Vg K)).Perm (Ma++Mb):=List.merge_perm_append _;have h2:=h1.trans (H1.2.1.append H2.1);rw [List.take_append_drop] at h2;exact h2
   ·exact List.pairwise_merge (jK K) (jL K) _ _ H1.2.2.1 H2.2.1
   ·have h1:=H1.2.2.2.1;have h2:=H2.2.2.1;have h3:=HS.1;rw [HS.2.2.2] at h3;omega
def Yl (w:World) (K:List (Int×Nat)) (e:Ending) (w':World):Prop:=
 ∃A C M,∃wr:Nat,e=.returned (.tuple #[.slice A K.length C,(wr:Int),.int .i64 0])/\See KN w' (.slice A K.length C) M/\M.Perm (List.range K.length)/\M.Pairwise (λi j=>Vg K i j=true)/\Bj [] w w'/\∀k∈blk (.slice A K.length C),w.heap.size<=k
theorem VH (vk:Value) (K:List (Int×Nat)) (w:World) (hK:See KK w vk K) (hn:K.length<1000000) :
 Calls Tryz.prog 149 #[vk] w (Yl w K):=by
 obtain ⟨A,C,rfl⟩:=hK.form;unfold Yl;have hu0:Bj [] w (w.alloc (.cells #[.slice A K.length C] 216)):=(Bj.refl _ _).alloc _;have hc0:(w.alloc (.cells #[.slice A K.length C] 216)).cell? w.heap.size=some (.slice A K.length C):=by rw [World.cell?_alloc_at _ _ _ _ rfl];rfl
 have hpl:=yL K.length (w.alloc (.cells #[.slice A K.length C] 216)) (by omega);have hz:w.heap.size<(w.alloc (.cells #[.slice A K.length C] 216)).heap.size:=by simp
 have HO:=AX (show ∀(v:Value) (w1:World),Bj [] (w.alloc (.cells #[.slice A K.length C] 216)) w1->See KN w1 v (List.range K.length)->Calls Tryz.prog 218 #[.func (.func 219) #[] #[.pointer (some w.heap.size)],v] w1 (MX v w1 K (List.range K.length)) from λv w1 hu hs=>
  qC (.slice A K.length C) K w.heap.size K.length (List.range K.length) v w1 (by simp) ((hu.cell (p:=⟨w.heap.size,0,none⟩) hz (by simp)).trans hc0) (hK.BF (hu0.trans hu)) hs (λi hi=>List.mem_range.1 hi) (by simpa using hn))
 have n0:decide ((17179869184:Int)<(K.length:Int))=false:=decide_eq_false (by omega);have n1:¬(17179869184:Int)<(K.length:Int):=by omega
 have nK:=AX hpl;have Gu:=AX hu0;clear hpl hu0 hc0 hz hK hn;go_enter Tryz.func149,Tryz.ntmps149
 go_wp2_with fail
 go_fit nK.out
 rintro e w1 ⟨A1,C1,rfl,s1,hu1,hk1⟩;have ho:=HO.out (.slice A1 K.length C1) w1 hu1 s1;unfold MX at ho;rw [List.length_range] at ho;have HOO:=AX ho;have DJ:=AX (Gu.out.trans hu1);have nP:=AX (show ∀k∈blk (.slice A1 K.length C1),w.heap.size<=k from λk hk=>Bh Gu.out.size (hk1 k hk));clear ho s1 hu1 hk1;go_wp2_with fail
 go_fit HOO.out
 rintro e w2 ⟨A2,C2,M,wr,rfl,s2,p2,q2,-,hu2,hk2⟩;have H2:=Aw s2 p2 q2 (DJ.out.trans hu2) (show ∀k∈blk (.slice A2 K.length C2),w.heap.size<=k from λk hk=>(hk2 k hk).elim (nP.out k) (Bh DJ.out.size));clear s2 p2 q2 hu2 hk2;go_wp2_with fail
 go_ret3
 exact ⟨A2,C2,M,wr,rfl,H2.1,H2.2.1,H2.2.2.1,H2.2.2.2.1,H2.2.2.2.2⟩
