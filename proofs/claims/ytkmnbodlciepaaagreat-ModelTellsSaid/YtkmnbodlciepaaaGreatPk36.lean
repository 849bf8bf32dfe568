/- cells.Held: some box covers the cell. cells.lines: the lines of the boxes that count, each once, rising. cells.Blocks: the lines, and which blocks are covered. cells.Blocks: the walk. -/
import Derived.Deep.LoopGhost
import Derived.Deep.DeepCutAuto
import Derived.Deep.CutBlock
import Derived.Test.YtkmnbodlciepaaaGreatPk6
import Derived.Test.YtkmnbodlciepaaaGreatPk35
import Derived.Test.YtkmnbodlciepaaaGreatPk17
import Derived.Test.YtkmnbodlciepaaaGreatPk4
set_option maxHeartbeats 4000000
set_option maxRecDepth 100000
namespace Go.Proofs.YtkmnbodlciepaaaGreat
open Go.RowKit
theorem heldFn (b:Bx) (px py:Nat) (x y:Int) (w:World) (cx:w.cell? ⟨px,0,none⟩=some (.int .i64 x)) (cy:w.cell? ⟨py,0,none⟩=some (.int .i64 y)) :
 Calls Tryz.prog 182 #[bxV b,.pointer (some ⟨px,0,none⟩),.pointer (some ⟨py,0,none⟩)] w fun e w'=>e=.returned (.bool (b.cell x y))∧Upd [] w w':=by
 have hcell:=fun w=>cellC b x y w
 obtain ⟨s,hs⟩:∃s,b.cell x y=s:=⟨_,rfl⟩
 rw [hs]
 simp only [hs] at hcell
 obtain ⟨x1,x2,y1,y2,bi⟩:=b
 unfold bxV at hcell ⊢
 dsimp only at hcell ⊢
 have HC:=Lib.hid hcell
 have lx:px<w.heap.size:=World.block_lt_of_cell? w _ cx
 have ly:py<w.heap.size:=World.block_lt_of_cell? w _ cy
 have ex:px≠w.heap.size:=by omega
 have ey:py≠w.heap.size:=by omega
 clear hcell hs
 have hu:Upd [] w (w.alloc (.cells #[.int .i64 x1,.int .i64 x2,.int .i64 y1,.int .i64 y2,.int .u32 (bi:Int)] 59)):=(Upd.refl _ _).alloc _
 have cx':=(hu.cell (p:=⟨px,0,none⟩) lx (by simp)).trans cx
 have cy':=(hu.cell (p:=⟨py,0,none⟩) ly (by simp)).trans cy
 have HU:=Lib.hid hu
 clear hu lx ly
 go_enter Tryz.func182,Tryz.ntmps182
 go_wp2_with fail
 (with_reducible refine (HC.out _).mono ?_)
 rintro e w1 ⟨rfl,hu1⟩
 have HU1:=Lib.hid (HU.out.trans hu1)
 clear hu1
 go_wp2_with fail
 go_ret
 exact ⟨rfl,HU1.out⟩
def IdxPost (s:Bool) (w:World) (e:Ending) (w':World):Prop:=∃z:Int,e=.returned (.int .i64 z)∧decide (0≤z)=s∧Upd [] w w'
theorem covB_take (l:List Bx) (x y:Int) {k:Nat} {b:Bx} (hb:l[k]? = some b):covB (l.take (k+1)) x y=(covB (l.take k) x y||b.cell x y):=by
 unfold covB
 rw [List.take_add_one,hb]
 simp
theorem cov_hit {l:List Bx} {x y:Int} {k:Nat} {b:Bx} (hb:l[k]? = some b) (hc:b.cell x y=true):covB l x y=true:=by
 unfold covB
 rw [List.any_eq_true]
 exact ⟨b,List.mem_of_getElem? hb,hc⟩
theorem indexHeld (v:Value) (l:List Bx) (px py:Nat) (x y:Int) (w:World) (hs:See KBx w v l) (cx:w.cell? ⟨px,0,none⟩=some (.int .i64 x)) (cy:w.cell? ⟨py,0,none⟩=some (.int .i64 y)) (hl:l.length<1000000000) :
 Calls Tryz.prog 207 #[v,.func (.func 182) #[] #[.pointer (some ⟨px,0,none⟩),.pointer (some ⟨py,0,none⟩)]] w (IdxPost (covB l x y) w):=by
 obtain ⟨A,C,rfl⟩:=hs.form
 unfold IdxPost
 have lx:px<w.heap.size:=World.block_lt_of_cell? w _ cx
 have ly:py<w.heap.size:=World.block_lt_of_cell? w _ cy
 obtain ⟨s,hss⟩:∃s,covB l x y=s:=⟨_,rfl⟩
 rw [hss]
 have HSS:=Lib.hid hss
 have HS:=Lib.hid hs
 have HXY:=Lib.hid (And.intro (And.intro lx cx) (And.intro ly cy))
 clear hs hss cx cy lx ly
 go_enter Tryz.func207,Tryz.ntmps207
 go_wp2_with fail
 go_loopg [8] l.length (fun m i wr=>∃k,m+k=l.length∧i=.int .i64 (k:Int)∧covB (l.take k) x y=false∧Upd [] w wr)
 case atStart=>exact ⟨0,rfl,rfl,rfl,Upd.refl _ _⟩
 case round=>
  obtain ⟨k,hk,rfl,hcv,hu⟩:=hrel
  have b0:(0:Int)≤(k:Int):=Int.natCast_nonneg _
  by_cases hlt:k<l.length
  ·obtain ⟨b,hb⟩:∃b,l[k]? = some b:=⟨_,List.getElem?_eq_getElem hlt⟩
   obtain ⟨bl,ol,hA,-,-,l0,l1,l2,l3,l4⟩:=KBx.at (HS.out.upd0 hu) hb
   subst hA
   have hfn:=heldFn b px py x y wr ((hu.cell (p:=⟨px,0,none⟩) HXY.out.1.1 (by simp)).trans HXY.out.1.2) ((hu.cell (p:=⟨py,0,none⟩) HXY.out.2.1 (by simp)).trans HXY.out.2.2)
   have htk:=covB_take l x y hb
   rw [hcv,Bool.false_or] at htk
   have hhit:=fun h=>cov_hit (x:=x) (y:=y) hb h
   obtain ⟨c,hc⟩:∃c,b.cell x y=c:=⟨_,rfl⟩
   rw [hc] at hfn htk hhit
   unfold bxV at hfn
   have b1:(k:Int)<(l.length:Int):=by omega
   have b2:(k:Int)<1000000000:=by omega
   have HFN:=Lib.hid hfn
   have HTK:=Lib.hid htk
   have HHIT:=Lib.hid hhit
   have HU:=Lib.hid hu
   have HK:=Lib.hid hk
   have HLT:=Lib.hid hlt
   clear hfn htk hhit hu hk hlt hcv hc hb hl
   go_wp2_with fail
   (with_reducible refine HFN.out.mono ?_)
   rintro e w1 ⟨rfl,hu1⟩
   have HU1:=Lib.hid (HU.out.trans hu1)
   clear hu1
   cases c
   ·go_wp2_with fail
    go_roundg (gk - 1)
    case measure=>have:=HK.out;have:=HLT.out;omega
    case rel=>exact ⟨k+1,by have:=HK.out;have:=HLT.out;omega,by go_num,HTK.out,HU1.out⟩
   ·go_wp2_with fail
    go_ret
    exact ⟨(k:Int),rfl,by rw [←HSS.out,HHIT.out trivial];simp,HU1.out⟩
  ·have hcl:covB l x y=false:=by rw [List.take_of_length_le (by omega)] at hcv;exact hcv
   have HU:=Lib.hid hu
   have HCL:=Lib.hid hcl
   clear hu hcl hcv hk hl
   go_wp2_with fail
   go_ret
   exact ⟨-1,rfl,by rw [←HSS.out,HCL.out];rfl,HU.out⟩
theorem heldC (v:Value) (l:List Bx) (x y:Int) (w:World) (hs:See KBx w v l) (hl:l.length<1000000000) :
 Calls Tryz.prog 151 #[v,.int .i64 x,.int .i64 y] w fun e w'=>e=.returned (.bool (covB l x y))∧Upd [] w w':=by
 have hu:Upd [] w ((w.alloc (.cells #[.int .i64 x] 2)).alloc (.cells #[.int .i64 y] 2)):=((Upd.refl _ _).alloc _).alloc _
 have c1:((w.alloc (.cells #[.int .i64 x] 2)).alloc (.cells #[.int .i64 y] 2)).cell? ⟨w.heap.size,0,none⟩=some (.int .i64 x):=by
  rw [World.cell?_alloc_past _ _ _ (by simp),World.cell?_alloc_at _ _ _ _ rfl];rfl
 have c2:((w.alloc (.cells #[.int .i64 x] 2)).alloc (.cells #[.int .i64 y] 2)).cell? ⟨w.heap.size+1,0,none⟩=some (.int .i64 y):=by
  rw [World.cell?_alloc_at _ _ _ _ (by simp)];rfl
 have hx:=indexHeld v l w.heap.size (w.heap.size+1) x y _ (hs.upd0 hu) c1 c2 hl
 obtain ⟨A,C,rfl⟩:=hs.form
 have HX:=Lib.hid hx
 have HU:=Lib.hid hu
 clear hx hu c1 c2 hs hl
 have hcf:Calls Tryz.prog 181 #[.slice A l.length C,.func (.func 182) #[] #[.pointer (some ⟨w.heap.size,0,none⟩),.pointer (some ⟨w.heap.size+1,0,none⟩)]]
  ((w.alloc (.cells #[.int .i64 x] 2)).alloc (.cells #[.int .i64 y] 2)) fun e w'=>e=.returned (.bool (covB l x y))∧Upd [] w w':=by
  obtain ⟨s,hss⟩:∃s,covB l x y=s:=⟨_,rfl⟩
  rw [hss] at HX ⊢
  go_enter Tryz.func181,Tryz.ntmps181
  go_wp2_with fail
  (with_reducible refine HX.out.mono ?_)
  rintro e w1 ⟨z,rfl,hz,hu1⟩
  have HU1:=Lib.hid (HU.out.trans hu1)
  clear hu1
  go_wp2_with fail
  go_ret
  exact ⟨rfl,HU1.out⟩
 obtain ⟨s,hss⟩:∃s,covB l x y=s:=⟨_,rfl⟩
 rw [hss] at hcf ⊢
 have HCF:=Lib.hid hcf
 clear hcf hss
 go_enter Tryz.func151,Tryz.ntmps151
 go_wp2_with fail
 (with_reducible refine HCF.out.mono ?_)
 rintro e w1 ⟨rfl,hu1⟩
 have HU1:=Lib.hid hu1
 clear hu1
 go_wp2_with fail
 go_ret
 exact ⟨rfl,HU1.out⟩
structure Two (B:Nat) (w:World) (vx:Value) (X:List Int) (vy:Value) (Y:List Int):Prop where
 rx:KL.row w B vx X
 ry:KL.row w B vy Y
 ap:∀k∈blk vx,k∉blk vy
section
variable {B:Nat} {w w':World} {vx vy:Value} {X Y:List Int}
theorem Two.upd {F:List Nat} (h:Two B w vx X vy Y) (hu:Upd F w w') (hx:∀k∈blk vx,k∉F) (hy:∀k∈blk vy,k∉F):Two B w' vx X vy Y:=⟨own_upd h.rx hu hx,own_upd h.ry hu hy,h.ap⟩
theorem Two.upd0 (h:Two B w vx X vy Y) (hu:Upd [] w w'):Two B w' vx X vy Y:=h.upd hu (by simp) (by simp)
theorem Two.alloc (h:Two B w vx X vy Y) (o:Obj):Two B (w.alloc o) vx X vy Y:=h.upd0 ((Upd.refl _ _).alloc o)
theorem Two.ltx (h:Two B w vx X vy Y):∀k∈blk vx,k<w.heap.size:=own_lt h.rx
theorem Two.lty (h:Two B w vx X vy Y):∀k∈blk vy,k<w.heap.size:=own_lt h.ry
theorem Two.gex (h:Two B w vx X vy Y):∀k∈blk vx,B≤k:=own_ge h.rx
theorem Two.gey (h:Two B w vx X vy Y):∀k∈blk vy,B≤k:=own_ge h.ry
theorem Two.appX (h:Two B w vx X vy Y) {a b:Int} {A:Option Addr} {C:Nat} (HP:AppPost w w' B 2 1 vx X.length (KL.all X) 2 [.int .i64 a,.int .i64 b] A C) (_hB:B≤w.heap.size) :
 Two B w' (.slice A (X.length+2) C) (X++[a,b]) vy Y:=by
 refine ⟨?_,own_upd h.ry HP.upd (fun k hk hc=>h.ap k hc hk),?_⟩
 ·have:=HP.own
  unfold Kind.row
  rw [Kind.all_app,List.length_append]
  exact this
 ·intro k hk hc
  rcases HP.at with h1 | h1
  ·rw [h1] at hk;exact h.ap k hk hc
  ·rw [h1] at hk;have:=h.lty k hc;simp at hk;omega
theorem Two.appY (h:Two B w vx X vy Y) {a b:Int} {A:Option Addr} {C:Nat} (HP:AppPost w w' B 2 1 vy Y.length (KL.all Y) 2 [.int .i64 a,.int .i64 b] A C) (_hB:B≤w.heap.size) :
 Two B w' vx X (.slice A (Y.length+2) C) (Y++[a,b]):=by
 refine ⟨own_upd h.rx HP.upd (fun k hk hc=>h.ap k hk hc),?_,?_⟩
 ·have:=HP.own
  unfold Kind.row
  rw [Kind.all_app,List.length_append]
  exact this
 ·intro k hk hc
  rcases HP.at with h1 | h1
  ·rw [h1] at hc;exact h.ap k hk hc
  ·rw [h1] at hc;have:=h.ltx k hk;simp at hc;omega
end
theorem keepBx {F:List Nat} {w w':World} {q:Nat} {v0 v1 v2 v3:Value} (h:w.cell? ⟨q,0,none⟩=some v0∧w.cell? ⟨q,1,none⟩=some v1∧w.cell? ⟨q,2,none⟩=some v2∧w.cell? ⟨q,3,none⟩=some v3) (hu:Upd F w w') (hq:q∉F) :
 w'.cell? ⟨q,0,none⟩=some v0∧w'.cell? ⟨q,1,none⟩=some v1∧w'.cell? ⟨q,2,none⟩=some v2∧w'.cell? ⟨q,3,none⟩=some v3:=by
 have hl:=World.block_lt_of_cell? w _ h.1
 have e:∀j,w'.cell? ⟨q,j,none⟩=w.cell? ⟨q,j,none⟩:=fun j=>hu.cell (p:=⟨q,j,none⟩) hl hq
 rw [e,e,e,e]
 exact h
theorem counts_cell (b:Bx):b.cell b.x1 b.y1=b.counts:=by
 unfold Bx.cell Bx.counts
 rw [Bool.eq_iff_iff]
 simp only [decide_eq_true_eq]
 omega
theorem linX_len (l:List Bx):(linX l).length≤2*l.length:=by
 unfold linX
 induction l with
 |nil=>simp
 |cons b l ih=>
  rw [List.filter_cons]
  split
  ·simp only [List.flatMap_cons,List.length_append,List.length_cons,List.length_nil] at *;omega
  ·simp only [List.length_cons];omega
theorem linY_len (l:List Bx):(linY l).length≤2*l.length:=by
 unfold linY
 induction l with
 |nil=>simp
 |cons b l ih=>
  rw [List.filter_cons]
  split
  ·simp only [List.flatMap_cons,List.length_append,List.length_cons,List.length_nil] at *;omega
  ·simp only [List.length_cons];omega
theorem lin_take (l:List Bx) {k:Nat} {b:Bx} (hb:l[k]? = some b):linX (l.take (k+1))=linX (l.take k)++(if b.counts=true then [b.x1,b.x2] else [])∧linY (l.take (k+1))=linY (l.take k)++(if b.counts=true then [b.y1,b.y2] else []):=by
 unfold linX linY
 rw [List.take_add_one,hb]
 by_cases h:b.counts=true<;>simp [List.filter_append,h]
theorem info_int64E:(Tryz.prog.info? 2).map (fun i=>(i.zero,i.size,i.bytes))=some (some (.int .i64 0),1,8):=by kernel_rfl
def LinPost (w:World) (X Y:List Int) (e:Ending) (w':World):Prop:=
 ∃A C A' C',e=.returned (.tuple #[.slice A X.length C,.slice A' Y.length C'])∧Two w.heap.size w' (.slice A X.length C) X (.slice A' Y.length C') Y∧Upd [] w w'
theorem linesC (v:Value) (l:List Bx) (w:World) (hs:See KBx w v l) (hl:l.length<1000000) :
 Calls Tryz.prog 149 #[v] w (LinPost w (sqz (linX l)) (sqz (linY l))):=by
 obtain ⟨A,C,rfl⟩:=hs.form
 obtain ⟨i1,hi1,hy0,hy1,hy2⟩:=info_parts info_int64E
 unfold LinPost
 obtain ⟨B,hB⟩:∃B,w.heap.size=B:=⟨_,rfl⟩
 have HS:=Lib.hid hs
 have HL:=Lib.hid hl
 have HBB:=Lib.hid hB
 have hll:(l.length:Int)<1000000:=by omega
 clear hs hl
 rw [hB]
 clear hB
 go_enter Tryz.func149,Tryz.ntmps149
 go_wp2_with fail
 go_loopg [4,5,10] l.length (fun m s4 s5 s10 wr=>∃k vx vy,m+k=l.length∧s4=vx∧s5=vy∧s10=.int .i64 (k:Int)∧Two B wr vx (linX (l.take k)) vy (linY (l.take k))∧Upd [] w wr)
 case atStart=>exact ⟨0,_,_,rfl,rfl,rfl,rfl,⟨World.ownsRow_nil _ _ _ _,World.ownsRow_nil _ _ _ _,by simp [blk]⟩,Upd.refl _ _⟩
 case round=>
  obtain ⟨k,vx,vy,hk,rfl,rfl,rfl,ht,hu⟩:=hrel
  have b0:(0:Int)≤(k:Int):=Int.natCast_nonneg _
  by_cases hlt:k<l.length
  ·obtain ⟨b,hb⟩:∃b,l[k]? = some b:=⟨_,List.getElem?_eq_getElem hlt⟩
   obtain ⟨bl,ol,hA,-,-,l0,l1,l2,l3,l4⟩:=KBx.at (HS.out.upd0 hu) hb
   subst hA
   have hlk:=lin_take l hb
   have hcc:=fun w=>cellC b b.x1 b.y1 w
   simp only [counts_cell] at hcc
   have hlx:=linX_len (l.take k)
   have hly:=linY_len (l.take k)
   have htl:(l.take k).length≤l.length:=by rw [List.length_take];omega
   obtain ⟨c,hc⟩:∃c,b.counts=c:=⟨_,rfl⟩
   rw [hc] at hlk
   simp only [hc] at hcc
   obtain ⟨x1,x2,y1,y2,bi⟩:=b
   unfold bxV at hcc
   dsimp only at hcc hlk l0 l1 l2 l3 l4
   obtain ⟨X,hX⟩:∃X,linX (l.take k)=X:=⟨_,rfl⟩
   obtain ⟨Y,hY⟩:∃Y,linY (l.take k)=Y:=⟨_,rfl⟩
   rw [hX] at hlk ht hlx
   rw [hY] at hlk ht hly
   obtain ⟨Ax,Cx,rfl⟩:=own_form ht.rx
   obtain ⟨Ay,Cy,rfl⟩:=own_form ht.ry
   have b1:(k:Int)<(l.length:Int):=by omega
   have HLX:=Lib.hid (show X.length≤2000000 by have:=HL.out;omega)
   have HLY:=Lib.hid (show Y.length≤2000000 by have:=HL.out;omega)
   have HLL:=Lib.hid hlk
   have HCC:=Lib.hid hcc
   have HT:=Lib.hid ht
   have HU:=Lib.hid hu
   have HK:=Lib.hid hk
   have HLT:=Lib.hid hlt
   have hql:wr.heap.size<(wr.alloc (.cells #[.int .i64 x1,.int .i64 x2,.int .i64 y1,.int .i64 y2,.int .u32 (bi:Int)] 59)).heap.size:=by simp
   have hbx:(wr.alloc (.cells #[.int .i64 x1,.int .i64 x2,.int .i64 y1,.int .i64 y2,.int .u32 (bi:Int)] 59)).heap[wr.heap.size]? = some (.cells #[.int .i64 x1,.int .i64 x2,.int .i64 y1,.int .i64 y2,.int .u32 (bi:Int)] 59 (0,0)):=heap_alloc_new _ _
   have HBX:=Lib.hid hbx
   have HQL:=Lib.hid hql
   clear hlk hcc ht hu hk hlt hX hY hlx hly htl hc hb hbx hql
   go_wp2_with fail
   (with_reducible refine (HCC.out _).mono ?_)
   rintro e W ⟨rfl,hu1⟩
   have h6:=(hu1.block wr.heap.size HQL.out (by simp)).trans HBX.out
   obtain ⟨c0,c1,c2,c3⟩:W.cell? ⟨wr.heap.size,0,none⟩=some (.int .i64 x1)∧W.cell? ⟨wr.heap.size,1,none⟩=some (.int .i64 x2)∧W.cell? ⟨wr.heap.size,2,none⟩=some (.int .i64 y1)∧W.cell? ⟨wr.heap.size,3,none⟩=some (.int .i64 y2):=by
    refine ⟨?_,?_,?_,?_⟩<;>simp [World.cell?,h6]
   have hu2:Upd [] wr W:=((Upd.refl _ _).alloc _).trans hu1
   have HT00:=Lib.hid (HT.out.upd0 hu2)
   have HU40:=Lib.hid (HU.out.trans hu2)
   obtain ⟨W2,hW2⟩:∃W2,W2=W.drew:=⟨_,rfl⟩
   have HT0:=Lib.hid (show Two B W2 _ _ _ _ by rw [hW2];exact HT00.out.upd0 ((Upd.refl [] W).drew))
   have HU4:=Lib.hid (show Upd [] w W2 by rw [hW2];exact HU40.out.drew)
   have HC4:=Lib.hid (show W2.cell? ⟨wr.heap.size,0,none⟩=some (.int .i64 x1)∧W2.cell? ⟨wr.heap.size,1,none⟩=some (.int .i64 x2)∧W2.cell? ⟨wr.heap.size,2,none⟩=some (.int .i64 y1)∧W2.cell? ⟨wr.heap.size,3,none⟩=some (.int .i64 y2) by rw [hW2];exact ⟨c0,c1,c2,c3⟩)
   have HQ:=Lib.hid (show wr.heap.size<W2.heap.size∧(∀j∈blk (.slice Ax X.length Cx),j<wr.heap.size) from ⟨by rw [hW2];exact Nat.lt_of_lt_of_le HQL.out hu1.size,HT.out.ltx⟩)
   have HB:=Lib.hid (show B≤W2.heap.size∧B≤wr.heap.size from ⟨by have:=HU4.out.size;rw [HBB.out] at this;exact this,by have:=HU.out.size;rw [HBB.out] at this;exact this⟩)
   obtain ⟨q,hq⟩:∃q,wr.heap.size=q:=⟨_,rfl⟩
   rw [hq] at HC4 HQ ⊢
   clear hu1 hu2 h6 c0 c1 c2 c3 l0 l1 l2 l3 l4 hq
   cases c
   ·have e1:X++(if (false:Bool)=true then [x1,x2] else [])=X:=by simp
    have e2:Y++(if (false:Bool)=true then [y1,y2] else [])=Y:=by simp
    rw [e1,e2] at HLL
    clear e1 e2
    go_wp2_with fail
    go_roundg (gk - 1)
    case measure=>have:=HK.out;have:=HLT.out;omega
    case rel=>exact ⟨k+1,_,_,by have:=HK.out;have:=HLT.out;omega,rfl,rfl,by go_num,by rw [HLL.out.1,HLL.out.2];exact HT00.out,HU40.out⟩
   ·have e1:X++(if (true:Bool)=true then [x1,x2] else [])=X++[x1,x2]:=by simp
    have e2:Y++(if (true:Bool)=true then [y1,y2] else [])=Y++[y1,y2]:=by simp
    rw [e1,e2] at HLL
    clear e1 e2
    go_upto_region 6 with fail
    refine GoT.start [13,14,15] (fun w'=>w'.cell? ⟨q,0,none⟩=some (.int .i64 x1)∧w'.cell? ⟨q,1,none⟩=some (.int .i64 x2)∧w'.cell? ⟨q,2,none⟩=some (.int .i64 y1)∧w'.cell? ⟨q,3,none⟩=some (.int .i64 y2)) (by kernel_rfl) ?_ fun hS=>?_
    ·rw [←hW2];exact HC4.out
    rw [←hW2] at hS ⊢
    clear hW2
    refine' GoT.mv (i:=0) (oi:=⟨some 20,_,_,_,_,_⟩) rfl (by rfl) ?y6_0 ?_
    case y6_0=>intro w;go_simp<;>with_reducible rfl
    simp only [Act.put,sA,sZ,sS]
    refine' GoT.mv (i:=1) (oi:=⟨some 21,_,_,_,_,_⟩) rfl (by rfl) ?y6_1 ?_
    case y6_1=>intro w;go_simp<;>with_reducible rfl
    simp only [Act.put,sA,sZ,sS]
    refine' GoT.tk 3 (i:=2) (oi:=⟨some 22,_,_,_,_,_⟩) rfl (by rfl) ?y6_2 ?_
    case y6_2=>intro w hSw;go_simp<;>with_reducible rfl
    simp only [Act.put,sA,sZ,sS]
    refine' GoT.mv (i:=3) (oi:=⟨some 23,_,_,_,_,_⟩) rfl (by rfl) ?y6_3 ?_
    case y6_3=>intro w;go_simp<;>with_reducible rfl
    simp only [Act.put,sA,sZ,sS]
    refine' GoT.tk 3 (i:=4) (oi:=⟨some 24,_,_,_,_,_⟩) rfl (by rfl) ?y6_4 ?_
    case y6_4=>intro w hSw;go_simp<;>with_reducible rfl
    simp only [Act.put,sA,sZ,sS]
    refine' GoT.mv (i:=7) (oi:=⟨some 27,_,_,_,_,_⟩) rfl (by rfl) ?y6_7 ?_
    case y6_7=>intro w;go_simp<;>with_reducible rfl
    simp only [Act.put,sA,sZ,sS]
    refine' GoT.mv (i:=8) (oi:=⟨some 28,_,_,_,_,_⟩) rfl (by rfl) ?y6_8 ?_
    case y6_8=>intro w;go_simp<;>with_reducible rfl
    simp only [Act.put,sA,sZ,sS]
    refine' GoT.tk 3 (i:=9) (oi:=⟨some 29,_,_,_,_,_⟩) rfl (by rfl) ?y6_9 ?_
    case y6_9=>intro w hSw;go_simp<;>with_reducible rfl
    simp only [Act.put,sA,sZ,sS]
    refine' GoT.mv (i:=10) (oi:=⟨some 30,_,_,_,_,_⟩) rfl (by rfl) ?y6_10 ?_
    case y6_10=>intro w;go_simp<;>with_reducible rfl
    simp only [Act.put,sA,sZ,sS]
    refine' GoT.tk 3 (i:=11) (oi:=⟨some 31,_,_,_,_,_⟩) rfl (by rfl) ?y6_11 ?_
    case y6_11=>intro w hSw;go_simp<;>with_reducible rfl
    simp only [Act.put,sA,sZ,sS]
    refine GoT.pair (i:=5) (o:=⟨some 25,_,_,_,_,_⟩) (k:=12) (o':=⟨some 32,_,_,_,_,_⟩) rfl rfl (by kernel_rfl) (fun K hK=>?_) (fun K hK=>?_)
    ·skip
     go_simp
     refine hK.out _ _ (fun _ h=>?_) ?_
     ·exact keepBx h ((Upd.refl [] _).alloc _) (by simp)
     clear hK K
     try simp only [Act.put,sA,sZ,sS]
     refine GoT.pair (i:=6) (o:=⟨some 26,_,_,_,_,_⟩) (k:=12) (o':=⟨some 32,_,_,_,_,_⟩) rfl rfl (by kernel_rfl) (fun K hK=>?_) (fun K hK=>?_)
     ·skip
      refine step_app _ (by rfl) _ _ 82 (by rfl) B 2 i1 (.int .i64 0) 1 8 Tryz.underlying82 hi1 hy0 hy1 hy2 rfl (by decide) _ _ _ (by rfl) (HT0.out.alloc _).rx _ 2 [.int .i64 x1,.int .i64 x2] (by rfl) (sees_lit _ #[.int .i64 x1,.int .i64 x2] 2 1 2 rfl (by decide)) (by simp [Value.oneCell']) (by have:=HLX.out;unfold maxLen;omega) (by have:=HLX.out;omega) (by have:=HB.out.1;simp;omega) ?_
      intro A1 C1 w1 HP1
      refine hK.out _ _ (fun _ h=>?_) ?_
      ·exact keepBx h HP1.upd (fun hq=>by have:=HQ.out.2 _ hq;omega)
      clear hK K
      try simp only [Act.put,sA,sZ,sS]
      have T1:=Lib.hid ((HT0.out.alloc _).appX HP1 (by have:=HB.out.1;simp;omega))
      have U1:=Lib.hid ((HU4.out.alloc _).trans' HP1.upd (fun k hk=>.inr (by rw [HBB.out];exact HT0.out.gex k hk)))
      refine GoT.one (i:=12) (o:=⟨some 32,_,_,_,_,_⟩) rfl (by kernel_rfl) fun K hK=>?_
      go_simp
      refine hK.out _ _ (fun _ h=>?_) ?_
      ·exact keepBx h ((Upd.refl [] _).alloc _) (by simp)
      clear hK K
      try simp only [Act.put,sA,sZ,sS]
      refine GoT.one (i:=13) (o:=⟨some 33,_,_,_,_,_⟩) rfl (by kernel_rfl) fun K hK=>?_
      refine step_app _ (by rfl) _ _ 82 (by rfl) B 2 i1 (.int .i64 0) 1 8 Tryz.underlying82 hi1 hy0 hy1 hy2 rfl (by decide) _ _ _ (by rfl) (T1.out.alloc _).ry _ 2 [.int .i64 y1,.int .i64 y2] (by rfl) (sees_lit _ #[.int .i64 y1,.int .i64 y2] 2 1 2 rfl (by decide)) (by simp [Value.oneCell']) (by have:=HLY.out;unfold maxLen;omega) (by have:=HLY.out;omega) (by have h1:=U1.out.size;have h2:=HBB.out;simp;omega) ?_
      intro A2 C2 w2 HP2
      refine hK.out _ _ (fun h=>(by cases h)) ?_
      clear hK K
      try simp only [Act.put,sA,sZ,sS]
      have T2:=Lib.hid ((T1.out.alloc _).appY HP2 (by have h1:=U1.out.size;have h2:=HBB.out;simp;omega))
      have U2:=Lib.hid ((U1.out.alloc _).trans' HP2.upd (fun k hk=>.inr (by rw [HBB.out];exact HT0.out.gey k hk)))
      refine' GoT.mv (i:=14) (oi:=⟨some 4,_,_,_,_,_⟩) rfl (by rfl) ?y6aa_14 ?_
      case y6aa_14=>intro w;go_simp<;>with_reducible rfl
      simp only [Act.put,sA,sZ,sS]
      refine' GoT.mv (i:=15) (oi:=⟨some 5,_,_,_,_,_⟩) rfl (by rfl) ?y6aa_15 ?_
      case y6aa_15=>intro w;go_simp<;>with_reducible rfl
      simp only [Act.put,sA,sZ,sS]
      refine GoT.done (by kernel_rfl) ?_
      have HT2:=Lib.hid (T2.out)
      have HU2:=Lib.hid U2.out
      clear T2 U2 T1 U1 HP1 HP2
      go_wp2_with fail
      go_roundg (gk - 1)
      case measure=>have:=HK.out;have:=HLT.out;omega
      case rel=>exact ⟨k+1,_,_,by have:=HK.out;have:=HLT.out;omega,rfl,rfl,by go_num,by rw [HLL.out.1,HLL.out.2];exact HT2.out,HU2.out⟩
     ·skip
      go_simp
      refine hK.out _ _ (fun _ h=>?_) ?_
      ·exact keepBx h ((Upd.refl [] _).alloc _) (by simp)
      clear hK K
      try simp only [Act.put,sA,sZ,sS]
      refine GoT.one (i:=6) (o:=⟨some 26,_,_,_,_,_⟩) rfl (by kernel_rfl) fun K hK=>?_
      refine step_app _ (by rfl) _ _ 82 (by rfl) B 2 i1 (.int .i64 0) 1 8 Tryz.underlying82 hi1 hy0 hy1 hy2 rfl (by decide) _ _ _ (by rfl) ((HT0.out.alloc _).alloc _).rx _ 2 [.int .i64 x1,.int .i64 x2] (by rfl) (sees_upd ((sees_lit _ #[.int .i64 x1,.int .i64 x2] 2 1 2 rfl (by decide))) ((Upd.refl [] _).alloc _) (by simp)) (by simp [Value.oneCell']) (by have:=HLX.out;unfold maxLen;omega) (by have:=HLX.out;omega) (by have:=HB.out.1;simp;omega) ?_
      intro A1 C1 w1 HP1
      refine hK.out _ _ (fun _ h=>?_) ?_
      ·exact keepBx h HP1.upd (fun hq=>by have:=HQ.out.2 _ hq;omega)
      clear hK K
      try simp only [Act.put,sA,sZ,sS]
      have T1:=Lib.hid (((HT0.out.alloc _).alloc _).appX HP1 (by have:=HB.out.1;simp;omega))
      have U1:=Lib.hid (((HU4.out.alloc _).alloc _).trans' HP1.upd (fun k hk=>.inr (by rw [HBB.out];exact HT0.out.gex k hk)))
      have hsy:=sees_upd (sees_lit (W2.alloc (.cells #[.int .i64 x1,.int .i64 x2] 2)) #[.int .i64 y1,.int .i64 y2] 2 1 2 rfl (by decide)) HP1.upd (fun _ k hk _ hc=>by have:=HT0.out.ltx _ hc;simp [blk] at hk;omega)
      simp only [World.size_alloc] at hsy
      refine GoT.one (i:=13) (o:=⟨some 33,_,_,_,_,_⟩) rfl (by kernel_rfl) fun K hK=>?_
      refine step_app _ (by rfl) _ _ 82 (by rfl) B 2 i1 (.int .i64 0) 1 8 Tryz.underlying82 hi1 hy0 hy1 hy2 rfl (by decide) _ _ _ (by rfl) T1.out.ry _ 2 [.int .i64 y1,.int .i64 y2] (by rfl) hsy (by simp [Value.oneCell']) (by have:=HLY.out;unfold maxLen;omega) (by have:=HLY.out;omega) (by have h1:=U1.out.size;have h2:=HBB.out;simp;omega) ?_
      intro A2 C2 w2 HP2
      refine hK.out _ _ (fun h=>(by cases h)) ?_
      clear hK K
      try simp only [Act.put,sA,sZ,sS]
      have T2:=Lib.hid (T1.out.appY HP2 (by have h1:=U1.out.size;have h2:=HBB.out;simp;omega))
      have U2:=Lib.hid (U1.out.trans' HP2.upd (fun k hk=>.inr (by rw [HBB.out];exact HT0.out.gey k hk)))
      refine' GoT.mv (i:=14) (oi:=⟨some 4,_,_,_,_,_⟩) rfl (by rfl) ?y6ab_14 ?_
      case y6ab_14=>intro w;go_simp<;>with_reducible rfl
      simp only [Act.put,sA,sZ,sS]
      refine' GoT.mv (i:=15) (oi:=⟨some 5,_,_,_,_,_⟩) rfl (by rfl) ?y6ab_15 ?_
      case y6ab_15=>intro w;go_simp<;>with_reducible rfl
      simp only [Act.put,sA,sZ,sS]
      refine GoT.done (by kernel_rfl) ?_
      have HT2:=Lib.hid (T2.out)
      have HU2:=Lib.hid U2.out
      clear T2 U2 T1 U1 HP1 HP2
      go_wp2_with fail
      go_roundg (gk - 1)
      case measure=>have:=HK.out;have:=HLT.out;omega
      case rel=>exact ⟨k+1,_,_,by have:=HK.out;have:=HLT.out;omega,rfl,rfl,by go_num,by rw [HLL.out.1,HLL.out.2];exact HT2.out,HU2.out⟩
    ·skip
     go_simp
     refine hK.out _ _ (fun _ h=>?_) ?_
     ·exact keepBx h ((Upd.refl [] _).alloc _) (by simp)
     clear hK K
     try simp only [Act.put,sA,sZ,sS]
     refine GoT.one (i:=5) (o:=⟨some 25,_,_,_,_,_⟩) rfl (by kernel_rfl) fun K hK=>?_
     go_simp
     refine hK.out _ _ (fun _ h=>?_) ?_
     ·exact keepBx h ((Upd.refl [] _).alloc _) (by simp)
     clear hK K
     try simp only [Act.put,sA,sZ,sS]
     have hsx:=sees_lit (W2.alloc (.cells #[.int .i64 y1,.int .i64 y2] 2)) #[.int .i64 x1,.int .i64 x2] 2 1 2 rfl (by decide)
     simp only [World.size_alloc] at hsx
     refine GoT.one (i:=6) (o:=⟨some 26,_,_,_,_,_⟩) rfl (by kernel_rfl) fun K hK=>?_
     refine step_app _ (by rfl) _ _ 82 (by rfl) B 2 i1 (.int .i64 0) 1 8 Tryz.underlying82 hi1 hy0 hy1 hy2 rfl (by decide) _ _ _ (by rfl) ((HT0.out.alloc _).alloc _).rx _ 2 [.int .i64 x1,.int .i64 x2] (by rfl) hsx (by simp [Value.oneCell']) (by have:=HLX.out;unfold maxLen;omega) (by have:=HLX.out;omega) (by have:=HB.out.1;simp;omega) ?_
     intro A1 C1 w1 HP1
     refine hK.out _ _ (fun _ h=>?_) ?_
     ·exact keepBx h HP1.upd (fun hq=>by have:=HQ.out.2 _ hq;omega)
     clear hK K
     try simp only [Act.put,sA,sZ,sS]
     have T1:=Lib.hid (((HT0.out.alloc _).alloc _).appX HP1 (by have:=HB.out.1;simp;omega))
     have U1:=Lib.hid (((HU4.out.alloc _).alloc _).trans' HP1.upd (fun k hk=>.inr (by rw [HBB.out];exact HT0.out.gex k hk)))
     have hsy:=sees_upd (sees_upd (sees_lit W2 #[.int .i64 y1,.int .i64 y2] 2 1 2 rfl (by decide)) ((Upd.refl [] _).alloc (.cells #[.int .i64 x1,.int .i64 x2] 2)) (by simp)) HP1.upd (fun _ k hk _ hc=>by have:=HT0.out.ltx _ hc;simp [blk] at hk;omega)
     refine GoT.one (i:=13) (o:=⟨some 33,_,_,_,_,_⟩) rfl (by kernel_rfl) fun K hK=>?_
     refine step_app _ (by rfl) _ _ 82 (by rfl) B 2 i1 (.int .i64 0) 1 8 Tryz.underlying82 hi1 hy0 hy1 hy2 rfl (by decide) _ _ _ (by rfl) T1.out.ry _ 2 [.int .i64 y1,.int .i64 y2] (by rfl) hsy (by simp [Value.oneCell']) (by have:=HLY.out;unfold maxLen;omega) (by have:=HLY.out;omega) (by have h1:=U1.out.size;have h2:=HBB.out;simp;omega) ?_
     intro A2 C2 w2 HP2
     refine hK.out _ _ (fun h=>(by cases h)) ?_
     clear hK K
     try simp only [Act.put,sA,sZ,sS]
     have T2:=Lib.hid (T1.out.appY HP2 (by have h1:=U1.out.size;have h2:=HBB.out;simp;omega))
     have U2:=Lib.hid (U1.out.trans' HP2.upd (fun k hk=>.inr (by rw [HBB.out];exact HT0.out.gey k hk)))
     refine' GoT.mv (i:=14) (oi:=⟨some 4,_,_,_,_,_⟩) rfl (by rfl) ?y6b_14 ?_
     case y6b_14=>intro w;go_simp<;>with_reducible rfl
     simp only [Act.put,sA,sZ,sS]
     refine' GoT.mv (i:=15) (oi:=⟨some 5,_,_,_,_,_⟩) rfl (by rfl) ?y6b_15 ?_
     case y6b_15=>intro w;go_simp<;>with_reducible rfl
     simp only [Act.put,sA,sZ,sS]
     refine GoT.done (by kernel_rfl) ?_
     have HT2:=Lib.hid (T2.out)
     have HU2:=Lib.hid U2.out
     clear T2 U2 T1 U1 HP1 HP2
     go_wp2_with fail
     go_roundg (gk - 1)
     case measure=>have:=HK.out;have:=HLT.out;omega
     case rel=>exact ⟨k+1,_,_,by have:=HK.out;have:=HLT.out;omega,rfl,rfl,by go_num,by rw [HLL.out.1,HLL.out.2];exact HT2.out,HU2.out⟩
  ·have hX:linX (l.take k)=linX l:=by rw [List.take_of_length_le (by omega)]
   have hY:linY (l.take k)=linY l:=by rw [List.take_of_length_le (by omega)]
   rw [hX,hY] at ht
   have hlx:=linX_len l
   have hly:=linY_len l
   obtain ⟨X,hX⟩:∃X,linX l=X:=⟨_,rfl⟩
   obtain ⟨Y,hY⟩:∃Y,linY l=Y:=⟨_,rfl⟩
   rw [hX] at ht hlx
   rw [hY] at ht hly
   have HXY:=Lib.hid (And.intro hX hY)
   have hsq:=squeezeC _ X wr (See.of_row ht.rx) (by have:=HL.out;omega)
   have hsq2:=fun w2 (hu2:Upd [] wr w2)=>squeezeC _ Y w2 (See.of_row (ht.upd0 hu2).ry) (by have:=HL.out;omega)
   have HSQ:=Lib.hid hsq
   have HSQ2:=Lib.hid hsq2
   have HU:=Lib.hid hu
   clear hsq hsq2 hu hX hY hlx hly ht hk
   go_wp2_with fail
   (with_reducible refine HSQ.out.mono ?_)
   rintro e w1 ⟨A1,C1,rfl,hr1,hu1⟩
   have H1:=Lib.hid (HSQ2.out w1 hu1)
   have HR1:=Lib.hid hr1
   have HU1:=Lib.hid (HU.out.trans hu1)
   clear hr1 hu1
   go_wp2_with fail
   (with_reducible refine H1.out.mono ?_)
   rintro e w2 ⟨A2,C2,rfl,hr2,hu2⟩
   have hsz:=HU1.out.size
   have hsz0:=HU.out.size
   rw [HBB.out] at hsz hsz0
   have HT2:=Lib.hid (show Two B w2 (.slice A1 (sqz X).length C1) (sqz X) (.slice A2 (sqz Y).length C2) (sqz Y) from ⟨own_base (own_upd HR1.out hu2 (by simp)) hsz0,own_base hr2 hsz,fun j hj hc=>by have h1:=own_lt HR1.out j hj;have h2:=own_ge hr2 j hc;omega⟩)
   have HU2:=Lib.hid (HU1.out.trans hu2)
   clear hr2 hu2 hsz hsz0
   go_wp2_with fail
   go_ret2
   rw [HXY.out.1,HXY.out.2]
   exact ⟨A1,C1,A2,C2,rfl,HT2.out,HU2.out⟩
def nth (l:List Int) (i:Nat):Int:=l[i]?.getD 0
theorem nth_get {l:List Int} {i:Nat} (h:i<l.length):l[i]? = some (nth l i):=by
 unfold nth
 rw [List.getElem?_eq_getElem h];rfl
def colB (l:List Bx) (X Y:List Int) (i:Nat):List Bool:=rowL (Y.length - 1) fun k=>covB l (nth X i) (nth Y k)
def colsB (l:List Bx) (X Y:List Int):List (List Bool):=(List.range (X.length - 1)).map (colB l X Y)
theorem colsB_len (l:List Bx) (X Y:List Int):(colsB l X Y).length=X.length - 1:=by simp [colsB]
theorem colsB_get {l:List Bx} {X Y:List Int} {i:Nat} (h:i<X.length - 1):(colsB l X Y)[i]? = some (colB l X Y i):=by
 unfold colsB;rw [List.getElem?_map,List.getElem?_range h];rfl
theorem colsB_take {l:List Bx} {X Y:List Int} {i:Nat} (h:i<X.length - 1):(colsB l X Y).take (i+1)=(colsB l X Y).take i++[colB l X Y i]:=by
 rw [List.take_add_one,colsB_get h];rfl
def SeeRows (w:World) (v:Value) (ll:List (List Bool)):Prop:=
 ∃vs:List Value,Sees w 1 v ll.length vs∧∀(i:Nat) (u:Value) (l:List Bool),vs[i]? = some u→ll[i]? = some l→See KB w u l
theorem SeeRows.upd0 {w w':World} {v:Value} {ll:List (List Bool)} (h:SeeRows w v ll) (hu:Upd [] w w'):SeeRows w' v ll:=by
 obtain ⟨vs,h1,h2⟩:=h
 exact ⟨vs,sees_upd h1 hu (by simp),fun i u l hv hl=>(h2 i u l hv hl).upd0 hu⟩
theorem SeeRows.form {w:World} {v:Value} {ll:List (List Bool)} (h:SeeRows w v ll):∃A C,v=.slice A ll.length C:=by
 obtain ⟨vs,h1,-⟩:=h
 exact sees_form h1
theorem SeeRows.at {w:World} {A:Option Addr} {n C:Nat} {ll:List (List Bool)} (h:SeeRows w (.slice A n C) ll) {k:Nat} {l:List Bool} (hl:ll[k]? = some l) :
 ∃b o Ak Ck,A=some ⟨b,o,none⟩∧w.cell? ⟨b,o+k,none⟩=some (.slice Ak l.length Ck)∧See KB w (.slice Ak l.length Ck) l:=by
 obtain ⟨vs,h1,h2⟩:=h
 obtain ⟨hk,-⟩:=List.getElem?_eq_some_iff.1 hl
 have hlen:=h1.1
 rw [Nat.mul_one] at hlen
 have hv:vs[k]? = some (vs[k]'(by rw [hlen];exact hk)):=List.getElem?_eq_getElem _
 have hs:=h2 k _ l hv hl
 obtain ⟨Ak,Ck,hf⟩:=hs.form
 rcases h1.2 with ⟨e1,e2⟩ | ⟨b,o,s,cap,e1,e2,e3,e4,e5⟩
 ·omega
 ·cases e1
  have:=e2 (by omega)
  subst this
  refine ⟨b,o,Ak,Ck,rfl,?_,by rw [←hf];exact hs⟩
  rw [e5 k _ hv,hf]
structure ColsAt (B:Nat) (w:World) (v:Value) (vs:List Value) (ll:List (List Bool)):Prop where
 own:w.ownsRow B 181 1 v vs.length vs
 len:vs.length=ll.length
 rows:∀(i:Nat) (u:Value) (l:List Bool),vs[i]? = some u→ll[i]? = some l→See KB w u l
 away:∀u∈vs,∀k∈blk u,k∉blk v∧k<w.heap.size
theorem ColsAt.upd0 {B:Nat} {w w':World} {v:Value} {vs:List Value} {ll:List (List Bool)} (h:ColsAt B w v vs ll) (hu:Upd [] w w'):ColsAt B w' v vs ll:=
 ⟨own_upd h.own hu (by simp),h.len,fun i u l a b=>(h.rows i u l a b).upd0 hu,fun u hu' k hk=>⟨(h.away u hu' k hk).1,Nat.lt_of_lt_of_le (h.away u hu' k hk).2 hu.size⟩⟩
theorem ColsAt.nil (B:Nat) (w:World):ColsAt B w (.slice none 0 0) [] []:=⟨World.ownsRow_nil _ _ _ _,rfl,by simp,by simp⟩
theorem ColsAt.push {B:Nat} {w w':World} {v:Value} {vs:List Value} {ll:List (List Bool)} (h:ColsAt B w v vs ll) {u:Value} {l:List Bool} (hs:See KB w u l) (hn:∀k∈blk u,k∉blk v∧k<w.heap.size)
 {A:Option Addr} {C:Nat} (HP:AppPost w w' B 181 1 v vs.length vs 1 [u] A C):ColsAt B w' (.slice A (vs.length+1) C) (vs++[u]) (ll++[l]):=by
 have hup:=HP.upd
 refine ⟨by simpa using HP.own,by simp [h.len],?_,?_⟩
 ·intro i t m ht hm
  rcases Nat.lt_or_ge i vs.length with hi | hi
  ·rw [List.getElem?_append_left hi] at ht
   rw [List.getElem?_append_left (by rw [←h.len];exact hi)] at hm
   exact (h.rows i t m ht hm).upd hup fun _ k hk _ hc=>(h.away t (List.mem_of_getElem? ht) k hk).1 hc
  ·rw [List.getElem?_append_right hi] at ht
   rw [List.getElem?_append_right (by rw [←h.len];exact hi),←h.len] at hm
   have h1:=List.mem_of_getElem? ht
   have h2:=List.mem_of_getElem? hm
   simp at h1 h2
   subst h1 h2
   exact hs.upd hup fun _ k hk _ hc=>(hn k hk).1 hc
 ·intro t ht k hk
  have hold:k∉blk v∧k<w.heap.size:=by
   rcases List.mem_append.1 ht with ht | ht
   ·exact h.away t ht k hk
   ·simp at ht;subst ht;exact hn k hk
  refine ⟨fun hc=>?_,Nat.lt_of_lt_of_le hold.2 hup.size⟩
  rcases HP.at with h1 | h1
  ·rw [h1] at hc;exact hold.1 hc
  ·rw [h1] at hc;simp at hc;omega
theorem ColsAt.see {B:Nat} {w:World} {v:Value} {vs:List Value} {ll:List (List Bool)} (h:ColsAt B w v vs ll):SeeRows w v ll:=by
 refine ⟨vs,?_,h.rows⟩
 rw [←h.len]
 exact sees_of_own h.own
theorem info_bools:(Tryz.prog.info? 181).map (fun i=>(i.zero,i.size,i.bytes))=some (some (.slice none 0 0),1,24):=by kernel_rfl
theorem info_boolE:(Tryz.prog.info? 4).map (fun i=>(i.zero,i.size,i.bytes))=some (some (.bool false),1,1):=by kernel_rfl
theorem blockFn (vl vx vy:Value) (l:List Bx) (X Y:List Int) (pl px pi py i k:Nat) (w:World) (hl:See KBx w vl l) (hX:See KL w vx X) (hY:See KL w vy Y) (hll:l.length<1000000000)
 (cl:w.cell? ⟨pl,0,none⟩=some vl) (cx:w.cell? ⟨px,0,none⟩=some vx) (ci:w.cell? ⟨pi,0,none⟩=some (.int .i64 (i:Int))) (cy:w.cell? ⟨py,0,none⟩=some vy) (hi:i<X.length) (hk:k<Y.length) :
 Calls Tryz.prog 150 #[.int .i64 (k:Int),.pointer (some ⟨pl,0,none⟩),.pointer (some ⟨px,0,none⟩),.pointer (some ⟨pi,0,none⟩),.pointer (some ⟨py,0,none⟩)] w fun e w'=>e=.returned (.bool (covB l (nth X i) (nth Y k)))∧Upd [] w w':=by
 obtain ⟨Al,Cl,rfl⟩:=hl.form
 obtain ⟨Ax,Cx,rfl⟩:=hX.form
 obtain ⟨Ay,Cy,rfl⟩:=hY.form
 obtain ⟨bx,ox,rfl,-,-,lx⟩:=KL.at hX (nth_get hi)
 obtain ⟨by',oy,rfl,-,-,ly⟩:=KL.at hY (nth_get hk)
 have hh:=fun (z:QW w)=>heldC (.slice Al l.length Cl) l (nth X i) (nth Y k) z.w (hl.upd0 z.up) hll
 obtain ⟨x,hx⟩:∃x,nth X i=x:=⟨_,rfl⟩
 obtain ⟨y,hy⟩:∃y,nth Y k=y:=⟨_,rfl⟩
 rw [hx] at lx
 rw [hy] at ly
 simp only [hx,hy] at hh
 rw [hx,hy]
 obtain ⟨c,hc⟩:∃c,covB l x y=c:=⟨_,rfl⟩
 simp only [hc] at hh
 rw [hc]
 have q1:∀z:QW w,z.w.cell? ⟨pl,0,none⟩=some (.slice Al l.length Cl):=fun z=>(z.up.cell (p:=⟨pl,0,none⟩) (World.block_lt_of_cell? w _ cl) (by simp)).trans cl
 have q2:∀z:QW w,z.w.cell? ⟨px,0,none⟩=some (.slice (some ⟨bx,ox,none⟩) X.length Cx):=fun z=>(z.up.cell (p:=⟨px,0,none⟩) (World.block_lt_of_cell? w _ cx) (by simp)).trans cx
 have q3:∀z:QW w,z.w.cell? ⟨pi,0,none⟩=some (.int .i64 (i:Int)):=fun z=>(z.up.cell (p:=⟨pi,0,none⟩) (World.block_lt_of_cell? w _ ci) (by simp)).trans ci
 have q4:∀z:QW w,z.w.cell? ⟨py,0,none⟩=some (.slice (some ⟨by',oy,none⟩) Y.length Cy):=fun z=>(z.up.cell (p:=⟨py,0,none⟩) (World.block_lt_of_cell? w _ cy) (by simp)).trans cy
 have q5:∀z:QW w,z.w.cell? ⟨bx,ox+i,none⟩=some (.int .i64 x):=fun z=>(z.up.cell (p:=⟨bx,ox+i,none⟩) (World.block_lt_of_cell? w _ lx) (by simp)).trans lx
 have q6:∀z:QW w,z.w.cell? ⟨by',oy+k,none⟩=some (.int .i64 y):=fun z=>(z.up.cell (p:=⟨by',oy+k,none⟩) (World.block_lt_of_cell? w _ ly) (by simp)).trans ly
 have i0:(0:Int)≤(i:Int):=Int.natCast_nonneg _
 have i1:(i:Int)<(X.length:Int):=by omega
 have k0:(0:Int)≤(k:Int):=Int.natCast_nonneg _
 have k1:(k:Int)<(Y.length:Int):=by omega
 have HH:=Lib.hid hh
 clear hh hl hX hY hll cl cx ci cy hx hy hc lx ly hi hk
 go_enter Tryz.func150,Tryz.ntmps150
 go_wp2_with fail
 refine wp_region_quietU (by kernel_rfl) (by kernel_rfl) ?_
 repeat (go_big_quiet_step ((with_reducible exact Calls.quietU (HH.out _))))
 refine wpQuiet_nil ?_
 intro _ hw'
 obtain ⟨⟨wq,hwq⟩,hw''⟩:=hw'
 dsimp only at hw''
 subst hw''
 go_wp2_with fail
 go_ret
 exact ⟨rfl,hwq⟩
def BlkPost (w:World) (l:List Bx) (X Y:List Int) (e:Ending) (w':World):Prop:=
 ∃A C A' C' A'' C'',e=.returned (.tuple #[.slice A X.length C,.slice A' Y.length C',.slice A'' (X.length - 1) C''])∧See KL w' (.slice A X.length C) X∧See KL w' (.slice A' Y.length C') Y∧SeeRows w' (.slice A'' (X.length - 1) C'') (colsB l X Y)∧Upd [] w w'
theorem two_lines {l:List Bx} (h:sqz (linX l)≠[]):2≤(sqz (linY l)).length:=by
 have h1:linX l≠[]:=fun e=>h (by rw [e];exact sqz_nil)
 have h2:∃b∈l,b.counts=true:=by
  refine Classical.byContradiction fun hc=>h1 ?_
  unfold linX
  rw [List.flatMap_eq_nil_iff]
  intro b hb
  have hb':=List.mem_filter.1 hb
  exact absurd ⟨b,hb'.1,hb'.2⟩ hc
 obtain ⟨b,hb,hc⟩:=h2
 have m1:=mem_sqz (mem_linY hb hc).1
 have m2:=mem_sqz (mem_linY hb hc).2
 have hlt:b.y1<b.y2:=by
  unfold Bx.counts at hc
  simp only [decide_eq_true_eq] at hc
  exact hc.2
 rcases hL:sqz (linY l) with _ | ⟨a,_ | ⟨c,r⟩⟩
 ·rw [hL] at m1;simp at m1
 ·rw [hL] at m1 m2;simp at m1 m2;omega
 ·simp
theorem blocksC (v:Value) (l:List Bx) (w:World) (hs:See KBx w v l) (hl:l.length<1000000) :
 Calls Tryz.prog 121 #[v] w (BlkPost w l (sqz (linX l)) (sqz (linY l))):=by
 obtain ⟨i0,hi0,hz0,hz1,hz2⟩:=info_parts info_bools
 obtain ⟨i1,hi1,hy0,hy1,hy2⟩:=info_parts info_boolE
 obtain ⟨A,C,rfl⟩:=hs.form
 unfold BlkPost
 have hu0:Upd [] w (w.alloc (.cells #[.slice A l.length C] 31)):=(Upd.refl _ _).alloc _
 have hlin:=linesC (.slice A l.length C) l _ (hs.upd0 hu0) hl
 have htw:=two_lines (l:=l)
 have hlx:(sqz (linX l)).length≤2000000:=Nat.le_trans (sqz_len _) (by have:=linX_len l;omega)
 have hly:(sqz (linY l)).length≤2000000:=Nat.le_trans (sqz_len _) (by have:=linY_len l;omega)
 obtain ⟨X,hX⟩:∃X,sqz (linX l)=X:=⟨_,rfl⟩
 obtain ⟨Y,hY⟩:∃Y,sqz (linY l)=Y:=⟨_,rfl⟩
 rw [hX] at hlin htw hlx ⊢
 rw [hY] at hlin htw hly ⊢
 have c1:(w.alloc (.cells #[.slice A l.length C] 31)).cell? ⟨w.heap.size,0,none⟩=some (.slice A l.length C):=by rw [World.cell?_alloc_at _ _ _ _ rfl];rfl
 have HLIN:=Lib.hid hlin
 have HTW:=Lib.hid htw
 have HL:=Lib.hid hl
 have HS:=Lib.hid hs
 have HU0:=Lib.hid hu0
 have HC1:=Lib.hid (And.intro c1 (show w.heap.size<(w.alloc (.cells #[.slice A l.length C] 31)).heap.size by simp))
 have HLX:=Lib.hid hlx
 have HLY:=Lib.hid hly
 clear hlin htw hl hs hu0 c1 hlx hly hX hY
 go_enter Tryz.func121,Tryz.ntmps121
 go_wp2_with fail
 (with_reducible refine HLIN.out.mono ?_)
 rintro e w1 ⟨A1,C1,A2,C2,rfl,htwo,hu1⟩
 have hw1:Upd [] w ((w1.alloc (.cells #[.slice A1 X.length C1] 82)).alloc (.cells #[.slice A2 Y.length C2] 82)):=((HU0.out.trans hu1).alloc _).alloc _
 have hup:Upd [] w1 ((w1.alloc (.cells #[.slice A1 X.length C1] 82)).alloc (.cells #[.slice A2 Y.length C2] 82)):=((Upd.refl _ _).alloc _).alloc _
 have k1:=(hup.cell (p:=⟨w.heap.size,0,none⟩) (Nat.lt_of_lt_of_le HC1.out.2 hu1.size) (by simp)).trans ((hu1.cell (p:=⟨w.heap.size,0,none⟩) HC1.out.2 (by simp)).trans HC1.out.1)
 have k2:((w1.alloc (.cells #[.slice A1 X.length C1] 82)).alloc (.cells #[.slice A2 Y.length C2] 82)).cell? ⟨w1.heap.size,0,none⟩=some (.slice A1 X.length C1):=by
  rw [World.cell?_alloc_past _ _ _ (by simp),World.cell?_alloc_at _ _ _ _ rfl];rfl
 have k3:((w1.alloc (.cells #[.slice A1 X.length C1] 82)).alloc (.cells #[.slice A2 Y.length C2] 82)).cell? ⟨w1.heap.size+1,0,none⟩=some (.slice A2 Y.length C2):=by
  rw [World.cell?_alloc_at _ _ _ _ (by simp)];rfl
 have kz:w1.heap.size+1<((w1.alloc (.cells #[.slice A1 X.length C1] 82)).alloc (.cells #[.slice A2 Y.length C2] 82)).heap.size∧w.heap.size<((w1.alloc (.cells #[.slice A1 X.length C1] 82)).alloc (.cells #[.slice A2 Y.length C2] 82)).heap.size:=by
  have h1:=hu1.size
  have h2:=HC1.out.2
  simp at h1 h2 ⊢
  omega
 have htwo':=htwo.upd0 hup
 have HK:=Lib.hid (And.intro k1 (And.intro k2 (And.intro k3 kz)))
 have HX:=Lib.hid (And.intro (See.of_row htwo'.rx) (See.of_row htwo'.ry))
 have HW1:=Lib.hid hw1
 clear k1 k2 k3 kz htwo htwo' hup hw1 hu1
 obtain ⟨W0,hW0⟩:∃W0,((w1.alloc (.cells #[.slice A1 X.length C1] 82)).alloc (.cells #[.slice A2 Y.length C2] 82))=W0:=⟨_,rfl⟩
 rw [hW0] at HK HX HW1
 have g2:=HK.out.2.1
 have hxl:(X.length:Int)≤2000000:=by have:=HLX.out;omega
 have hx0:(0:Int)≤(X.length:Int):=Int.natCast_nonneg _
 obtain ⟨n,hn⟩:∃n:Nat,X.length - 1=n:=⟨_,rfl⟩
 have hmx:Value.int .i64 (max ((X.length:Int) - 1) 0)=Value.int .i64 (n:Int):=by congr 1;omega
 have HN:=Lib.hid hn
 have HNB:=Lib.hid (show n≤2000000 by have:=HLX.out;omega)
 clear hn
 obtain ⟨p1,hp1⟩:∃p,w.heap.size=p:=⟨_,rfl⟩
 obtain ⟨p2,hp2⟩:∃p,w1.heap.size=p:=⟨_,rfl⟩
 rw [hp1,hp2] at HK
 rw [hp2] at g2
 go_upto_block 0 with fail
 clear hW0 hp1 hp2
 go_wp2_with fail
 clear hmx
 go_loopg [7,21] n (fun m s7 s21 wr=>∃k v vs,m+k=n∧s7=v∧s21=.int .i64 (k:Int)∧ColsAt W0.heap.size wr v vs ((colsB l X Y).take k)∧Upd [] W0 wr)
 case atStart=>exact ⟨0,_,[],by omega,rfl,rfl,ColsAt.nil _ _,Upd.refl _ _⟩
 case round=>
  obtain ⟨k,v,vs,hk,hv7,rfl,hcs,hu⟩:=hrel
  obtain ⟨Av,Cv,rfl⟩:=own_form hcs.own
  subst hv7
  have b0:(0:Int)≤(k:Int):=Int.natCast_nonneg _
  by_cases hlt:k<n
  ·have b1:(k:Int)<(n:Int):=by omega
   have b2:(k:Int)<2000000:=by have:=HNB.out;omega
   obtain ⟨wo,rfl⟩:∃wo:World,wo=wr:=⟨_,rfl⟩
   obtain ⟨W1,hW1⟩:∃W1,wo.alloc (.cells #[.int .i64 (k:Int)] 3)=W1:=⟨_,rfl⟩
   have huo:Upd [] wo W1:=by rw [←hW1];exact (Upd.refl _ _).alloc _
   have hu1:Upd [] W0 W1:=hu.trans huo
   have e0:W1.cell? ⟨wo.heap.size,0,none⟩=some (.int .i64 (k:Int)):=by rw [←hW1,World.cell?_alloc_at _ _ _ _ rfl];rfl
   have ez:wo.heap.size<W1.heap.size:=by rw [←hW1];simp
   have e1:=(hu1.cell (p:=⟨p1,0,none⟩) HK.out.2.2.2.2 (by simp)).trans HK.out.1
   have e2:=(hu1.cell (p:=⟨p2,0,none⟩) (Nat.lt_of_succ_lt HK.out.2.2.2.1) (by simp)).trans HK.out.2.1
   have e3:=(hu1.cell (p:=⟨p2+1,0,none⟩) HK.out.2.2.2.1 (by simp)).trans HK.out.2.2.1
   have hy2':2≤Y.length:=HTW.out (by intro e;have:=HN.out;rw [e] at this;simp at this;omega)
   obtain ⟨m,hm⟩:∃m:Nat,Y.length - 1=m:=⟨_,rfl⟩
   have hmY:(Y.length:Int) - 1=(m:Int):=by omega
   have hmb:m≤2000000:=by have:=HLY.out;omega
   obtain ⟨w3,hmk,ho,hg⟩:=run_make_full (P:=Tryz.prog) W1 W1.heap.size 181 4 i1 (.bool false) 1 Tryz.underlying181 hi1 hy0 hy1 .i64 .i64 m (by rw [hy2];omega) (by unfold maxLen;omega) (Nat.le_refl _)
   have hmk':(Instr.makeSlice 181 (.int .i64 ((Y.length:Int) - 1)) (.int .i64 ((Y.length:Int) - 1))).run Tryz.prog W1=.ok (.slice (some ⟨W1.heap.size,0,none⟩) m m) w3:=by
    rw [hmY];exact hmk
   have hrow:=KB_row_made ho
   have hu3:Upd [] W1 w3:=(Upd.refl _ _).grown hg (by simp)
   have hz3:W1.heap.size<w3.heap.size:=own_lt ho W1.heap.size (by simp [blk])
   have hy0':(0:Int)≤(Y.length:Int):=Int.natCast_nonneg _
   have hyl:(Y.length:Int)≤2000000:=by have:=HLY.out;omega
   have HCS:=Lib.hid (hcs.upd0 huo)
   have HR3:=Lib.hid (And.intro hrow (And.intro hu3 hz3))
   have HU1:=Lib.hid hu1
   have HM:=Lib.hid (And.intro hm (And.intro hy2' hmb))
   have HKK:=Lib.hid hk
   have HLT:=Lib.hid hlt
   have HE:=Lib.hid (And.intro e0 (And.intro e1 (And.intro e2 (And.intro e3 (And.intro ez (And.intro (Nat.lt_of_lt_of_le HK.out.2.2.2.2 hu1.size) (Nat.lt_of_lt_of_le HK.out.2.2.2.1 hu1.size)))))))
   have HOLD:=Lib.hid (show ∀u∈blk (.slice Av vs.length Cv),u<wo.heap.size from fun u hu'=>own_lt hcs.own u hu')
   clear hrow hu3 hz3 hu1 hm hy2' hmb hk hlt hmk ho hg huo hcs hu hmY
   obtain ⟨q,hq⟩:∃q,wo.heap.size=q:=⟨_,rfl⟩
   obtain ⟨c,hc⟩:∃c,W1.heap.size=c:=⟨_,rfl⟩
   rw [hq] at e0 HE ez HOLD
   rw [hc] at hmk' HR3 ez HE
   have HCW:=Lib.hid hc
   go_upto_block 2 with fail
   clear hW1 hq hmk' hc
   go_wp2_with fail
   clear e0 e1 e2 e3
   go_loopg [31] m (fun j s31 wr=>∃t,j+t=m∧s31=.int .i64 (t:Int)∧KB.row wr c (.slice (some ⟨c,0,none⟩) m m) (rowL m fun i=>if i<t then covB l (nth X k) (nth Y i) else false)∧Upd [] W1 wr)
   case atStart=>exact ⟨0,by omega,rfl,by have:=HR3.out.1;simpa using this,HR3.out.2.1⟩
   case round=>
    obtain ⟨t,ht,rfl,hrw,hu⟩:=hrel
    have t0:(0:Int)≤(t:Int):=Int.natCast_nonneg _
    have HT:=Lib.hid ht
    by_cases hlt2:t<m
    ·have huw:Upd [] w wr:=(HW1.out.trans HU1.out).trans hu
     have f1:=(hu.cell (p:=⟨p1,0,none⟩) (by rw [HCW.out];exact HE.out.2.2.2.2.2.1) (by simp)).trans HE.out.2.1
     have f2:=(hu.cell (p:=⟨p2,0,none⟩) (by rw [HCW.out];exact Nat.lt_of_succ_lt HE.out.2.2.2.2.2.2) (by simp)).trans HE.out.2.2.1
     have f3:=(hu.cell (p:=⟨p2+1,0,none⟩) (by rw [HCW.out];exact HE.out.2.2.2.2.2.2) (by simp)).trans HE.out.2.2.2.1
     have f0:=(hu.cell (p:=⟨q,0,none⟩) (by rw [←HCW.out] at ez;exact ez) (by simp)).trans HE.out.1
     have hfn:=blockFn (.slice A l.length C) (.slice A1 X.length C1) (.slice A2 Y.length C2) l X Y p1 p2 q (p2+1) k t wr (HS.out.upd0 huw) (HX.out.1.upd0 (HU1.out.trans hu)) (HX.out.2.upd0 (HU1.out.trans hu)) (by have:=HL.out;omega) f1 f2 f0 f3 (by have:=HLT.out;have:=HN.out;omega) (by have:=HM.out.1;omega)
     obtain ⟨b,hb⟩:∃b,covB l (nth X k) (nth Y t)=b:=⟨_,rfl⟩
     rw [hb] at hfn
     have t1:(t:Int)<(m:Int):=by omega
     have t2:(t:Int)<2000000:=by have:=HM.out.2.2;omega
     have HFN:=Lib.hid hfn
     have HB:=Lib.hid hb
     have HU:=Lib.hid hu
     have HRW:=Lib.hid hrw
     have HLT2:=Lib.hid hlt2
     clear hfn hb hu hrw hlt2 ht huw f0 f1 f2 f3
     go_wp2_with fail
     (with_reducible refine HFN.out.mono ?_)
     rintro e w5 ⟨rfl,hu5⟩
     have hr5:KB.row w5 c (.slice (some ⟨c,0,none⟩) m m) (rowL m fun i=>if i<t then covB l (nth X k) (nth Y i) else false):=own_upd HRW.out hu5 (by simp)
     obtain ⟨gq,hgq,-,eq1,eqf⟩:=rowAt (K:=KB) hr5 (rowL_get (p:=fun i=>if i<t then covB l (nth X k) (nth Y i) else false) HLT2.out)
     obtain ⟨bb,hbb⟩:∃bb,(if t<t then covB l (nth X k) (nth Y t) else false)=bb:=⟨_,rfl⟩
     rw [hbb] at eq1
     cases hgq
     have q0:w5.cell? ⟨c,t,none⟩=some (.bool bb):=by
      have:=eq1 0 _ rfl
      simpa [KB] using this
     have qf:=eqf t
     have hst:=KB_row_stored hr5 t b
     have e:(rowL m fun i=>if i=t then b else if i<t then covB l (nth X k) (nth Y i) else false)=rowL m fun i=>if i<t+1 then covB l (nth X k) (nth Y i) else false:=rowL_congr fun i _=>by
      by_cases h1:i=t
      ·rw [if_pos h1,if_pos (by omega),h1,HB.out]
      ·rw [if_neg h1]
       by_cases h2:i<t
       ·rw [if_pos h2,if_pos (by omega)]
       ·rw [if_neg h2,if_neg (by omega)]
     rw [e] at hst
     have HST:=Lib.hid hst
     have HU5:=Lib.hid ((HU.out.trans hu5).setCell (p:=⟨c,t,none⟩) (.inr (by rw [HCW.out];exact Nat.le_refl _)) (.bool b))
     clear hst e hr5 hu5 eq1 eqf hbb
     go_wp2_with fail
     go_roundg (m - (t+1))
     case measure=>have:=HT.out;omega
     case rel=>exact ⟨t+1,by have:=HT.out;have:=HLT2.out;omega,by go_num,HST.out,HU5.out⟩
    ·have htm:t=m:=by omega
     have e:(rowL m fun i=>if i<t then covB l (nth X k) (nth Y i) else false)=colB l X Y k:=by
      unfold colB
      rw [HM.out.1]
      exact rowL_congr fun i hi=>by rw [if_pos (by omega)]
     rw [e] at hrw
     have hlen:(colB l X Y k).length=m:=by unfold colB;rw [rowL_len,HM.out.1]
     have hsee:See KB wr (.slice (some ⟨c,0,none⟩) m m) (colB l X Y k):=by
      have:=See.of_row hrw
      exact this
     have hcsr:=HCS.out.upd0 hu
     have hvl:vs.length=k:=by
      have:=hcsr.len
      rw [List.length_take,colsB_len,HN.out] at this
      have:=HLT.out
      omega
     have HSEE:=Lib.hid hsee
     have HCSR:=Lib.hid hcsr
     have HU:=Lib.hid (HU1.out.trans hu)
     have HBK:=Lib.hid (show c<wr.heap.size from own_lt hrw c (by simp [blk]))
     have HVL:=Lib.hid hvl
     have hbase:W0.heap.size≤wr.heap.size:=(HU1.out.trans hu).size
     clear hrw e hlen hsee hcsr hu htm ht hvl
     go_wp2_with (at_builtin;refine wpList_app _ rfl _ _ 178 rfl W0.heap.size 181 i0 (.slice none 0 0) 1 24 Tryz.underlying178 hi0 hz0 hz1 hz2 rfl (by decide) _ _ vs rfl (own_upd HCSR.out.own ((Upd.refl [] _).alloc _) (by simp)) _ 1 [.slice (some ⟨c,0,none⟩) m m] rfl (sees_lit wr #[.slice (some ⟨c,0,none⟩) m m] 181 1 1 rfl (by decide)) (by simp [Value.oneCell']) (by unfold maxLen;have:=HVL.out;have:=HNB.out;have:=HLT.out;omega) (by have:=HVL.out;have:=HNB.out;have:=HLT.out;omega) (by simp;omega) ?_)
     intro A6 C6 w6 HP
     have hnew:=(HCSR.out.upd0 ((Upd.refl [] wr).alloc (.cells #[.slice (some ⟨c,0,none⟩) m m] 181))).push (HSEE.out.upd0 ((Upd.refl [] wr).alloc _)) (fun j hj=>by
      simp [blk] at hj
      subst hj
      refine ⟨fun hc=>?_,by have:=HBK.out;simp;omega⟩
      have h1:=HOLD.out _ hc
      have h2:=HE.out.2.2.2.2.1
      omega) HP
     rw [←colsB_take (l:=l) (X:=X) (Y:=Y) (i:=k) (by have:=HN.out;have:=HLT.out;omega)] at hnew
     have hun:Upd [] W0 w6:=(HU.out.alloc (.cells #[.slice (some ⟨c,0,none⟩) m m] 181)).trans' HP.upd (fun j hj=>.inr (own_ge HCSR.out.own j hj))
     have HNEW:=Lib.hid (And.intro hnew hun)
     clear hnew hun HP
     go_wp2_with fail
     go_roundg (n - (k+1))
     case measure=>have:=HKK.out;omega
     case rel=>exact ⟨k+1,_,_,by have:=HKK.out;have:=HLT.out;omega,rfl,by go_num,HNEW.out.1,HNEW.out.2⟩
  ·have hkn:k=n:=by omega
   have e:(colsB l X Y).take k=colsB l X Y:=List.take_of_length_le (by rw [colsB_len];have:=HN.out;omega)
   rw [e] at hcs
   have hvl:vs.length=X.length - 1:=by have:=hcs.len;rw [colsB_len] at this;exact this
   have hsr:=hcs.see
   have h2:=(hu.cell (p:=⟨p2,0,none⟩) (Nat.lt_of_succ_lt HK.out.2.2.2.1) (by simp)).trans HK.out.2.1
   have h3:=(hu.cell (p:=⟨p2+1,0,none⟩) HK.out.2.2.2.1 (by simp)).trans HK.out.2.2.1
   have HSR:=Lib.hid (And.intro hsr (And.intro hvl hu))
   clear hsr hvl hu hcs hkn hk e
   go_wp2_with fail
   go_quiet (fail)
   go_wp2_with fail
   go_ret3
   refine ⟨A1,C1,A2,C2,Av,Cv,?_,HX.out.1.upd0 (HSR.out.2.2.drewN _),HX.out.2.upd0 (HSR.out.2.2.drewN _),?_,(HW1.out.trans HSR.out.2.2).drewN _⟩
   ·rw [←HSR.out.2.1];rfl
   ·have:=HSR.out.1.upd0 ((Upd.refl [] _).drewN nq)
    rw [HSR.out.2.1] at this
    exact this
end Go.Proofs.YtkmnbodlciepaaaGreat
