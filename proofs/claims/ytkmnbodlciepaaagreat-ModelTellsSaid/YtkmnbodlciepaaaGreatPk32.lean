/- The document's model: asked of points where others count, and asked of all kinds. Printed by mkrefmg.py. -/
import Derived.Test.YtkmnbodlciepaaaGreatPk31
import Derived.Test.YtkmnbodlciepaaaGreatPk5
set_option maxHeartbeats 16000000
set_option maxRecDepth 100000
namespace Go.Proofs.YtkmnbodlciepaaaGreat
open Go.RowKit
theorem one_new (w:World) (a:Array Value) (t:TypeId):∃W,W=w.alloc (.cells a t)∧Upd [] w W∧HpC W w.heap.size a t:=
 ⟨_,rfl,(Upd.refl _ _).alloc _,heap_alloc_new w _⟩
def betB (a b:Int) (p:Pt):Bool:=!decide (p.x<a)&&!decide (b<p.x)
theorem rasked13 {w:World} {r:Nat} {m:Md} {AP AS AB:Option Addr} {CP CS CB:Nat} (h:RMd w r m AP CP AS CS AB CB) (hl:m.ps.length<1000000) (px py:Int) (pi:Nat) (oa ob occ od:Int) (oi:Nat) :
 Calls Tryz.prog 59 #[.pointer (some ⟨r,0,none⟩),.agg #[.int .i64 px,.int .i64 py,.int .u32 (pi:Int)],.agg #[.int .u8 13,.int .i64 oa,.int .i64 ob,.int .i64 occ,.int .i64 od,.int .u32 (oi:Int)]] w fun e w'=>e=.returned (.bool (betB oa ob ⟨px,py,pi⟩&&(m.ps.all fun q=>!(betB oa ob q&&lowB q ⟨px,py,pi⟩))))∧Upd [] w w':=by
 obtain ⟨R,hR⟩:∃b,(betB oa ob ⟨px,py,pi⟩&&(m.ps.all fun q=>!(betB oa ob q&&lowB q ⟨px,py,pi⟩)))=b:=⟨_,rfl⟩
 rw [hR]
 obtain ⟨t,ht⟩:∃b,betB oa ob ⟨px,py,pi⟩=b:=⟨_,rfl⟩
 rw [ht] at hR
 have hx:(t=true∧decide (px<oa)=false∧decide (ob<px)=false)∨(t=false∧decide (px<oa)=true)∨(t=false∧decide (px<oa)=false∧decide (ob<px)=true):=by
  rw [←ht]
  unfold betB
  dsimp only
  cases decide (px<oa)<;>cases decide (ob<px)<;>simp
 clear ht
 have hn:=h.ps
 obtain ⟨l,hM⟩:∃l,m.ps=l:=⟨_,rfl⟩
 obtain ⟨n,hnn⟩:∃n,m.ps.length=n:=⟨_,rfl⟩
 have hcl:=h.cells.2.1
 rw [hnn] at hl hn hcl
 rw [hM] at hR hn hnn
 have HR:=Lib.hid hR
 have HM:=Lib.hid (And.intro hn (And.intro hcl hnn))
 have n0:(0:Int)≤(n:Int):=Int.natCast_nonneg _
 have n1:(n:Int)<1000000:=by omega
 clear hR hn hcl hnn hM hl h
 obtain ⟨W,hW,hu,hs,hb⟩:=two_new w #[.int .i64 px,.int .i64 py,.int .u32 (pi:Int)] #[.int .u8 13,.int .i64 oa,.int .i64 ob,.int .i64 occ,.int .i64 od,.int .u32 (oi:Int)] 62 43
 have HW:=Lib.hid hW
 have HU:=Lib.hid hu
 have HS:=Lib.hid hs
 have HB:=Lib.hid hb
 clear hW hu hs hb
 go_enter Tryz.func59,Tryz.ntmps59
 go_upto_region 1 with fail
 rw [←HW.out]
 clear HW
 generalize w.heap.size+1=q1 at HB ⊢
 generalize w.heap.size=q0 at HS ⊢
 obtain ⟨c0,c1,c2⟩:=HS.out.cells3
 obtain ⟨o0,o1,o2,o3,o4,o5⟩:=HB.out.cells6
 go_cut [7] (fun s7 we=>s7=.bool t∧W=we)
 case first=>
  rcases hx with ⟨rfl,d1,d2⟩ | ⟨rfl,d1⟩ | ⟨rfl,d1,d2⟩<;>
  (go_wp2_with fail
   go_meet
   case rel=>exact ⟨rfl,rfl⟩)
 obtain ⟨rfl,rfl⟩:=hcut
 clear hx
 go_wp2_with fail
 go_loopg [8] n (fun mm s8 wr=>∃i:Nat,mm+i=n∧s8=.int .i64 (i:Int)∧Upd [] W wr∧∀(j:Nat) q,j<i→l[j]? = some q→(betB oa ob q&&lowB q ⟨px,py,pi⟩)=false)
 case atStart=>exact ⟨0,rfl,rfl,Upd.refl _ _,by intro j q hj;omega⟩
 case round=>
  obtain ⟨i,hi,rfl,hup,hp⟩:=hrel
  have HI:=Lib.hid (And.intro hi (And.intro hup hp))
  have i0:(0:Int)≤(i:Int):=Int.natCast_nonneg _
  have i3:(i:Int)<2000000:=by omega
  have cx:=((HU.out.trans hup).cell (World.block_lt_of_cell? _ _ HM.out.2.1) (by simp)).trans HM.out.2.1
  by_cases hlt:i<n
  ·obtain ⟨q,hq⟩:∃x,l[i]? = some x:=⟨_,List.getElem?_eq_getElem (by rw [HM.out.2.2];exact hlt)⟩
   obtain ⟨g,o,rfl,-,-,e0,e1,e2⟩:=KPt.at (HM.out.1.upd0 (HU.out.trans hup)) hq
   have b1:(i:Int)<(n:Int):=by omega
   have b2:decide (i<n)=true:=decide_eq_true hlt
   have HQ:=Lib.hid hq
   obtain ⟨qx,qy,qi⟩:=q
   dsimp only at e0 e1 e2
   have hby:=fun w=>rby2 ⟨qx,qy,qi⟩ ⟨px,py,pi⟩ w
   dsimp only at hby
   obtain ⟨z1,hz1⟩:∃b,lowB ⟨qx,qy,qi⟩ ⟨px,py,pi⟩=b:=⟨_,rfl⟩
   obtain ⟨z2,hz2⟩:∃b,lowB ⟨px,py,pi⟩ ⟨qx,qy,qi⟩=b:=⟨_,rfl⟩
   simp only [hz1,hz2] at hby
   obtain ⟨b3,hb3⟩:∃b,decide (qx<oa)=b:=⟨_,rfl⟩
   obtain ⟨b4,hb4⟩:∃b,decide (ob<qx)=b:=⟨_,rfl⟩
   have hF:(betB oa ob ⟨qx,qy,qi⟩&&lowB ⟨qx,qy,qi⟩ ⟨px,py,pi⟩)=(!b3&&!b4&&z1):=by unfold betB;dsimp only;rw [hb3,hb4,hz1]
   have HF:=Lib.hid hF
   have HBY:=Lib.hid hby
   clear hF hby hz1 hz2 hi hup hp hq hlt
   obtain ⟨W2,hW2,hu2,hq2⟩:=one_new wr #[.int .i64 qx,.int .i64 qy,.int .u32 (qi:Int)] 62
   have HW2:=Lib.hid hW2
   have HU2:=Lib.hid (HI.out.2.1.trans hu2)
   clear hW2
   go_upto_region 17 with fail
   rw [←HW2.out]
   clear HW2 cx e0 e1 e2
   generalize wr.heap.size=q3 at hq2 ⊢
   have HQ2:=Lib.hid hq2
   obtain ⟨e0,e1,e2⟩:=hq2.cells3
   obtain ⟨c0,c1,c2⟩:=(HS.out.upd HU2.out (by simp)).cells3
   obtain ⟨o0,o1,o2,o3,o4,o5⟩:=(HB.out.upd HU2.out (by simp)).cells6
   clear hq2 hu2
   have HNX:=Lib.hid (show (!b3&&!b4&&z1)=false→∀(j:Nat) q,j<i+1→l[j]? = some q→(betB oa ob q&&lowB q ⟨px,py,pi⟩)=false from fun hF j q hj hq=>by
    by_cases e:j=i
    ·subst e;rw [HQ.out] at hq;cases hq;rw [HF.out];exact hF
    ·exact HI.out.2.2 j q (by omega) hq)
   have HNO:=Lib.hid (show (!b3&&!b4&&z1)=true→R=false from fun hF=>by
    rw [←HR.out,Bool.and_eq_false_iff];right
    rw [List.all_eq_false]
    exact ⟨_,List.mem_of_getElem? HQ.out,by rw [HF.out,hF];simp⟩)
   cases b3 with
   |true=>
    go_wp2_with fail
    go_roundg (n - (i+1))
    case measure=>have:=HI.out.1;omega
    case rel=>exact ⟨i+1,by have:=HI.out.1;omega,by go_num,HU2.out,HNX.out rfl⟩
   |false=>
    cases b4 with
    |true=>
     go_wp2_with fail
     go_roundg (n - (i+1))
     case measure=>have:=HI.out.1;omega
     case rel=>exact ⟨i+1,by have:=HI.out.1;omega,by go_num,HU2.out,HNX.out rfl⟩
    |false=>
     go_wp2_with fail
     (with_reducible refine (HBY.out _).mono ?_)
     rintro e w3 ⟨rfl,hu3⟩
     have HU3:=Lib.hid (HU2.out.trans hu3)
     clear hu3
     cases z1 with
     |true=>
      go_wp2_with fail
      go_ret
      exact ⟨by rw [HNO.out rfl];rfl,HU.out.trans HU3.out⟩
     |false=>
      cases z2<;>
      (go_wp2_with fail
       go_roundg (n - (i+1))
       case measure=>have:=HI.out.1;omega
       case rel=>exact ⟨i+1,by have:=HI.out.1;omega,by go_num,HU3.out,HNX.out rfl⟩)
  ·have b2:decide (i<n)=false:=decide_eq_false hlt
   have hall:(l.all fun q=>!(betB oa ob q&&lowB q ⟨px,py,pi⟩))=true:=by
    rw [List.all_eq_true]
    intro q hq
    obtain ⟨j,hj⟩:=List.getElem?_of_mem hq
    rw [hp j q (by have:=(List.getElem?_eq_some_iff.1 hj).1;have:=HM.out.2.2;omega) hj];rfl
   have HA:=Lib.hid hall
   clear hi hup hp hlt hall
   go_wp2_with fail
   go_ret
   exact ⟨by rw [←HR.out,HA.out,Bool.and_true];rfl,HU.out.trans HI.out.2.1⟩
theorem rasked14 {w:World} {r:Nat} {m:Md} {AP AS AB:Option Addr} {CP CS CB:Nat} (h:RMd w r m AP CP AS CS AB CB) (hl:m.ps.length<1000000) (px py:Int) (pi:Nat) (oa ob occ od:Int) (oi:Nat) :
 Calls Tryz.prog 59 #[.pointer (some ⟨r,0,none⟩),.agg #[.int .i64 px,.int .i64 py,.int .u32 (pi:Int)],.agg #[.int .u8 14,.int .i64 oa,.int .i64 ob,.int .i64 occ,.int .i64 od,.int .u32 (oi:Int)]] w fun e w'=>e=.returned (.bool (m.ps.all fun q=>!(overB q ⟨px,py,pi⟩)))∧Upd [] w w':=by
 obtain ⟨R,hR⟩:∃b,(m.ps.all fun q=>!(overB q ⟨px,py,pi⟩))=b:=⟨_,rfl⟩
 rw [hR]
 have hn:=h.ps
 obtain ⟨l,hM⟩:∃l,m.ps=l:=⟨_,rfl⟩
 obtain ⟨n,hnn⟩:∃n,m.ps.length=n:=⟨_,rfl⟩
 have hcl:=h.cells.2.1
 rw [hnn] at hl hn hcl
 rw [hM] at hR hn hnn
 have HR:=Lib.hid hR
 have HM:=Lib.hid (And.intro hn (And.intro hcl hnn))
 have n0:(0:Int)≤(n:Int):=Int.natCast_nonneg _
 have n1:(n:Int)<1000000:=by omega
 clear hR hn hcl hnn hM hl h
 obtain ⟨W,hW,hu,hs,hb⟩:=two_new w #[.int .i64 px,.int .i64 py,.int .u32 (pi:Int)] #[.int .u8 14,.int .i64 oa,.int .i64 ob,.int .i64 occ,.int .i64 od,.int .u32 (oi:Int)] 62 43
 have HW:=Lib.hid hW
 have HU:=Lib.hid hu
 have HS:=Lib.hid hs
 have HB:=Lib.hid hb
 clear hW hu hs hb
 go_enter Tryz.func59,Tryz.ntmps59
 go_upto_region 1 with fail
 rw [←HW.out]
 clear HW
 generalize w.heap.size+1=q1 at HB ⊢
 generalize w.heap.size=q0 at HS ⊢
 obtain ⟨c0,c1,c2⟩:=HS.out.cells3
 obtain ⟨o0,o1,o2,o3,o4,o5⟩:=HB.out.cells6
 go_cut [7] (fun s7 we=>∃t,s7=.bool t∧W=we)
 case first=>
  obtain ⟨g1,hg1⟩:∃b,decide (px<oa)=b:=⟨_,rfl⟩
  obtain ⟨g2,hg2⟩:∃b,decide (ob<px)=b:=⟨_,rfl⟩
  cases g1<;>cases g2<;>
  (go_wp2_with fail
   go_meet
   case rel=>exact ⟨_,rfl,rfl⟩)
 obtain ⟨t7,rfl,rfl⟩:=hcut
 go_wp2_with fail
 go_loopg [10] n (fun mm s8 wr=>∃i:Nat,mm+i=n∧s8=.int .i64 (i:Int)∧Upd [] W wr∧∀(j:Nat) q,j<i→l[j]? = some q→overB q ⟨px,py,pi⟩=false)
 case atStart=>exact ⟨0,rfl,rfl,Upd.refl _ _,by intro j q hj;omega⟩
 case round=>
  obtain ⟨i,hi,rfl,hup,hp⟩:=hrel
  have HI:=Lib.hid (And.intro hi (And.intro hup hp))
  have i0:(0:Int)≤(i:Int):=Int.natCast_nonneg _
  have i3:(i:Int)<2000000:=by omega
  have cx:=((HU.out.trans hup).cell (World.block_lt_of_cell? _ _ HM.out.2.1) (by simp)).trans HM.out.2.1
  by_cases hlt:i<n
  ·obtain ⟨q,hq⟩:∃x,l[i]? = some x:=⟨_,List.getElem?_eq_getElem (by rw [HM.out.2.2];exact hlt)⟩
   obtain ⟨g,o,rfl,-,-,e0,e1,e2⟩:=KPt.at (HM.out.1.upd0 (HU.out.trans hup)) hq
   have b1:(i:Int)<(n:Int):=by omega
   have b2:decide (i<n)=true:=decide_eq_true hlt
   have HQ:=Lib.hid hq
   have hby:=fun (x:QW wr)=>rover2 q ⟨px,py,pi⟩ x.w
   dsimp only at hby
   obtain ⟨z1,hF⟩:∃b,overB q ⟨px,py,pi⟩=b:=⟨_,rfl⟩
   simp only [hF] at hby
   have HF:=Lib.hid hF
   have HBY:=Lib.hid hby
   have E:=Lib.hid (And.intro e0 (And.intro e1 e2))
   have CX:=Lib.hid cx
   have y0:∀x:QW wr,x.w.cell? ⟨r,1,none⟩=some (.slice (some ⟨g,o,none⟩) n CP):=fun x=>(x.up.cell (World.block_lt_of_cell? _ _ CX.out) (by simp)).trans CX.out
   have y1:∀x:QW wr,x.w.cell? ⟨g,o+i*3,none⟩=some (.int .i64 q.x):=fun x=>(x.up.cell (World.block_lt_of_cell? _ _ E.out.1) (by simp)).trans E.out.1
   have y2:∀x:QW wr,x.w.cell? ⟨g,o+i*3+1,none⟩=some (.int .i64 q.y):=fun x=>(x.up.cell (World.block_lt_of_cell? _ _ E.out.2.1) (by simp)).trans E.out.2.1
   have y3:∀x:QW wr,x.w.cell? ⟨g,o+i*3+2,none⟩=some (.int .u32 (q.id:Int)):=fun x=>(x.up.cell (World.block_lt_of_cell? _ _ E.out.2.2) (by simp)).trans E.out.2.2
   have y4:∀x:QW wr,x.w.cell? ⟨q0,0,none⟩=some (.int .i64 px):=fun x=>(HS.out.upd (HI.out.2.1.trans x.up) (by simp)).cells3.1
   have y5:∀x:QW wr,x.w.cell? ⟨q0,1,none⟩=some (.int .i64 py):=fun x=>(HS.out.upd (HI.out.2.1.trans x.up) (by simp)).cells3.2.1
   have y6:∀x:QW wr,x.w.cell? ⟨q0,2,none⟩=some (.int .u32 (pi:Int)):=fun x=>(HS.out.upd (HI.out.2.1.trans x.up) (by simp)).cells3.2.2
   clear hF hby hi hup hp hq hlt e0 e1 e2
   go_upto_region 23 with fail
   clear cx
   refine wp_region_quietU (by kernel_rfl) (by kernel_rfl) ?_
   repeat (go_big_quiet_step (with_reducible exact Calls.quietU (HBY.out _)))
   refine wpQuiet_nil ?_
   intro wq hw'
   obtain ⟨⟨wy,hwq⟩,hw''⟩:=hw'
   dsimp only at hw''
   subst hw''
   have HU3:=Lib.hid (HI.out.2.1.trans hwq)
   clear hwq y0 y1 y2 y3 y4 y5 y6
   cases z1 with
   |true=>
    go_wp2_with fail
    go_ret
    refine ⟨?_,HU.out.trans HU3.out⟩
    rw [show R=false from by
     rw [←HR.out,List.all_eq_false]
     exact ⟨q,List.mem_of_getElem? HQ.out,by rw [HF.out];simp⟩]
    rfl
   |false=>
    go_wp2_with fail
    go_roundg (n - (i+1))
    case measure=>have:=HI.out.1;omega
    case rel=>
     refine ⟨i+1,by have:=HI.out.1;omega,by go_num,HU3.out,fun j q hj hq=>?_⟩
     by_cases e:j=i
     ·subst e;rw [HQ.out] at hq;cases hq;exact HF.out
     ·exact HI.out.2.2 j q (by omega) hq
  ·have b2:decide (i<n)=false:=decide_eq_false hlt
   have hall:(l.all fun q=>!overB q ⟨px,py,pi⟩)=true:=by
    rw [List.all_eq_true]
    intro q hq
    obtain ⟨j,hj⟩:=List.getElem?_of_mem hq
    rw [hp j q (by have:=(List.getElem?_eq_some_iff.1 hj).1;have:=HM.out.2.2;omega) hj];rfl
   have HA:=Lib.hid hall
   clear hi hup hp hlt hall
   go_wp2_with fail
   go_ret
   exact ⟨by rw [←HR.out,HA.out];rfl,HU.out.trans HI.out.2.1⟩
theorem ask7 {l:List Pt} {k:Nat} (hk:k=7∨k=8) (p:Pt) (a b c d:Int) (i:Nat):askP l ⟨k,a,b,c,d,i⟩ p=(((!decide (p.x<a)&&!decide (b<p.x))&&!decide (p.y<c))&&!decide (d<p.y)):=by
 unfold askP inBM stabBM
 dsimp only
 rw [if_pos hk,lt_flip,lt_flip,lt_flip,lt_flip,Bool.and_assoc,Bool.and_assoc,Bool.and_assoc]
theorem ask9 {l:List Pt} {k:Nat} (hk:k=9∨k=10) (p:Pt) (hp:z64 p.y) (a b c d:Int) (i:Nat):askP l ⟨k,a,b,c,d,i⟩ p=((!decide (p.x<a)&&!decide (b<p.x))&&!decide (c<p.y)):=by
 unfold askP inBM stabBM
 dsimp only
 rw [if_neg (by omega),if_pos hk,lt_flip,lt_flip,lt_flip,lt_flip,show decide (p.y < -9223372036854775808)=false from decide_eq_false (by have:=hp.1;omega),Bool.not_false,Bool.true_and]
theorem ask11 {l:List Pt} {k:Nat} (hk:k=11∨k=12) (p:Pt) (a b c d:Int) (i:Nat):askP l ⟨k,a,b,c,d,i⟩ p=cornB p a b c:=by
 unfold askP
 dsimp only
 rw [if_neg (by omega),if_neg (by omega),if_pos hk]
theorem bet_in (a b:Int) (p:Pt) (hp:z64 p.y):inBM ⟨a,b,-9223372036854775808,9223372036854775807,0⟩ p.x p.y=betB a b p:=by
 unfold inBM stabBM betB
 dsimp only
 rw [lt_flip,lt_flip,show decide (-9223372036854775808≤p.y)=true from decide_eq_true hp.1,show decide (p.y≤9223372036854775807)=true from decide_eq_true hp.2,Bool.and_true,Bool.and_true]
theorem names_all {l:List Pt} {f:Pt→Bool}:(namesM Pt.id l f).isEmpty=l.all fun q=>!f q:=by
 rw [Bool.eq_iff_iff,names_empty,List.all_eq_true]
 simp
theorem ask13 {l:List Pt} (hl:∀q∈l,z64 q.y) (p:Pt) (hp:z64 p.y) (a b c d:Int) (i:Nat):askP l ⟨13,a,b,c,d,i⟩ p=(betB a b p&&l.all fun q=>!(betB a b q&&lowB q p)):=by
 unfold askP
 dsimp only
 rw [if_neg (by omega),if_neg (by omega),if_neg (by omega),if_pos rfl,bet_in a b p hp,names_all]
 congr 1
 rw [Bool.eq_iff_iff,List.all_eq_true,List.all_eq_true]
 constructor
 ·intro h q hq;have:=h q hq;rwa [bet_in a b q (hl q hq)] at this
 ·intro h q hq;have:=h q hq;rwa [bet_in a b q (hl q hq)]
theorem ask14 {l:List Pt} (p:Pt) (a b c d:Int) (i:Nat):askP l ⟨14,a,b,c,d,i⟩ p=l.all fun q=>!overB q p:=by
 unfold askP
 dsimp only
 rw [if_neg (by omega),if_neg (by omega),if_neg (by omega),if_neg (by omega),names_all]
theorem raskedC {w:World} {r:Nat} {m:Md} {AP AS AB:Option Addr} {CP CS CB:Nat} (h:RMd w r m AP CP AS CS AB CB) (hl:m.ps.length<1000000) (h64:∀q∈m.ps,z64 q.y) {p:Pt} (hp:z64 p.y) (o:OpP) (h7:7≤o.code) (h14:o.code≤14) :
 Calls Tryz.prog 59 #[.pointer (some ⟨r,0,none⟩),ptV p,opV o] w fun e w'=>e=.returned (.bool (askP m.ps o p))∧Upd [] w w':=by
 obtain ⟨px,py,pi⟩:=p
 obtain ⟨k,a,b,c,d,i⟩:=o
 unfold ptV opV
 dsimp only at h7 h14 hp ⊢
 have hk:(k=7∨k=8)∨(k=9∨k=10)∨(k=11∨k=12)∨k=13∨k=14:=by omega
 rcases hk with hk | hk | hk | rfl | rfl
 ·rw [ask7 hk];exact rasked7 r px py pi a b c d i w (by omega)
 ·rw [ask9 hk _ hp];exact rasked9 r px py pi a b c d i w (by omega)
 ·rw [ask11 hk];exact rasked11 r px py pi a b c d i w (by omega)
 ·rw [ask13 h64 _ hp];exact rasked13 h hl px py pi a b c d i
 ·rw [ask14];exact rasked14 h hl px py pi a b c d i
end Go.Proofs.YtkmnbodlciepaaaGreat
