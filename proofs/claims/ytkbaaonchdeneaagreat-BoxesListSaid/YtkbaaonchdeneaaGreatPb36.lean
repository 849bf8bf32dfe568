/- pool.kids: the iterator over a node's kids. pool.may at an inner node. append onto an owned row, -/
import Derived.RangeFuncNested
import Derived.RangeFuncBound
import Derived.Shelf.RegionOpen
import Derived.OwnWalkIn
import Derived.LoopNIn
import Derived.LoopIn
import Derived.Test.YtkbaaonchdeneaaGreatRows
import Derived.Test.YtkbaaonchdeneaaGreatPb1
set_option maxHeartbeats 1000000
set_option maxRecDepth 100000
namespace Go.Proofs.YtkbaaonchdeneaaGreat
open Go.RowKit Go.Shelf
attribute [local go_sem] Oper.semAt_some
def Y7 (bk:Nat) (A B:World):Prop:=B.cell? ⟨bk,2,none⟩=A.cell? ⟨bk,2,none⟩
theorem V8 {bk:Nat} {A B C:World} (h:Y7 bk A B) (k:Y7 bk B C):Y7 bk A C:=Eq.trans k h
theorem V9 {bk:Nat} {w:World} (hb:bk<w.heap.size) (W:World) (l:Nat) (o o':Obj) (hl:w.heap.size≤l) (h:W.heap[l]? = some o) (h1:o.isCells=false) (h2:o.isWalk=false):Y7 bk W (W.putObj l o'):=
 (belowK_b (w:=w) (Nat.le_refl _) W l o o' hl h h1 h2).cell (p:=⟨bk,2,none⟩) hb
theorem Y8 (F:Fence) (n:Nat) (hF:F.fn 346) (hro:F.round=none) (bk:Nat) (w:World) (hb:bk<w.heap.size) (h1:w.cell? ⟨bk,1,none⟩=some (.int .i64 (-1))) (h2:w.cell? ⟨bk,2,none⟩=some (.int .i64 (-1))) :
 SeqStopsK F n Tryz.prog 346 #[.pointer (some ⟨bk,0,none⟩)] (fun x:Int=>#[Value.int .i64 x]) (Y7 bk) (fun xs=>xs = []) (fun _=>False) 0 w:=fun l J Jx W hW hJ hJx hY h0=>by
 have g1:=(hW.cell (p:=⟨bk,1,none⟩) hb).trans h1;have g2:=(hW.cell (p:=⟨bk,2,none⟩) hb).trans h2;refine callsIn_of_wp Tryz.func346 rfl hF ?_ hro
 simp only [Tryz.ntmps346,List.size_toArray,List.length_cons,List.length_nil,Nat.reduceAdd,Nat.reduceSub,Array.replicate_succ,Array.replicate_zero,List.push_toArray,List.append_toArray,List.nil_append,List.cons_append];gi_wp2
 refine ⟨fun _ h=>(by cases h),?_⟩
 gi_wp2
 go_end0
 exact ⟨⟨_,rfl⟩,.inl ⟨[],rfl,h0⟩⟩
theorem Y9 (F:Fence) (n:Nat) (hF:F.fn 346) (hro:F.round=none) (hn:1≤n) (bk:Nat) (L R:Nat) (w:World) (hb:bk<w.heap.size) (h1:w.cell? ⟨bk,1,none⟩=some (.int .i64 (L:Int))) (h2:w.cell? ⟨bk,2,none⟩=some (.int .i64 (R:Int))) :
 SeqStopsK F n Tryz.prog 346 #[.pointer (some ⟨bk,0,none⟩)] (fun x:Bool=>#[Value.int .i64 ((cond x R L:Nat):Int)]) (Y7 bk) (fun xs=>xs = [false,true]) (fun pre=>pre = [false]∨pre = [false,true]) 2 w:=fun l J Jx W hW hJ hJx hY h0=>by
 have g1:=(hW.cell (p:=⟨bk,1,none⟩) hb).trans h1;have g2:=(hW.cell (p:=⟨bk,2,none⟩) hb).trans h2;have e1:((L:Int) != -1)=true:=by rw [bne_iff_ne];omega
 have e2:((R:Int) != -1)=true:=by rw [bne_iff_ne];omega
 have hbW:bk<W.heap.size:=Bc hb hW.size;refine callsIn_of_wp Tryz.func346 rfl hF ?_ hro
 simp only [Tryz.ntmps346,List.size_toArray,List.length_cons,List.length_nil,Nat.reduceAdd,Nat.reduceSub,Array.replicate_succ,Array.replicate_zero,List.push_toArray,List.append_toArray,List.nil_append,List.cons_append];obtain ⟨f1,t1,a1,b1,hy1,hR1⟩:=hY [] false W h0 (by simp);dsimp only [cond] at hy1;gi_wp2
 refine hR1.mono ?_
 rintro e W1 (⟨rfl,hJ1,hk1⟩ | ⟨rfl,hx1⟩)
 ·have g3:=hk1.trans g2;obtain ⟨f2,t2,a2,b2,hy2,hR2⟩:=hY [false] true W1 hJ1 (by simp);dsimp only [cond] at hy2;gi_wp2
  refine hR2.mono ?_
  rintro e W2 (⟨rfl,hJ2,_⟩ | ⟨rfl,hx2⟩)
  ·gi_wp2
   go_end0
   exact ⟨⟨_,rfl⟩,.inl ⟨_,rfl,hJ2⟩⟩
  ·gi_wp2
   go_end0
   exact ⟨⟨_,rfl⟩,.inr ⟨_,.inr rfl,hx2⟩⟩
 ·gi_wp2
  refine bodyPost_ret (results_none rfl _ _ _) rfl ?_
  exact ⟨⟨_,rfl⟩,.inr ⟨_,.inl rfl,hx1⟩⟩
theorem QL (nd:Array Value) (w:World):Calls Tryz.prog 337 #[.agg nd] w fun e w'=>e=.returned (.func (.func 346) #[] #[.pointer (some ⟨w.heap.size,0,none⟩)])∧w'=w.alloc (.cells nd 339):=by
 go_enter Tryz.func337,Tryz.ntmps337
 go_wp2
 go_ret
 exact ⟨rfl,rfl⟩
theorem yx (fr:Int) (Ak:Option Addr) (nk Ck:Nat) (to at_ it:Int) (w:World) :
 Calls Tryz.prog 326 #[.agg #[.int .u8 1,.int .i64 (-1),.int .i64 (-1),.int .i64 fr,.int .i64 to,.int .i64 at_,.int .i64 it],.slice Ak nk Ck] w fun e w'=>e=.returned (.bool true)∧Below w.heap.size w w':=by
 refine (callsIn_wide (n:=5)).1 ?_
 refine callsIn_of_wp_marks Tryz.func326 rfl trivial ?_ rfl
 simp only [Tryz.ntmps326,List.size_toArray,List.length_cons,List.length_nil,Nat.reduceAdd,Nat.reduceSub,Array.replicate_succ,Array.replicate_zero,List.push_toArray,List.append_toArray,List.nil_append,List.cons_append];gi_wp2_with (refine ⟨trivial,?_⟩;gi_at_call 337;refine (callsIn_wide.2 (QL _ _)).mono ?_;rintro e w' ⟨rfl,rfl⟩)
 generalize hW0:((((w.alloc (Obj.cells #[Value.int .u8 1,Value.int .i64 (-1),Value.int .i64 (-1),Value.int .i64 fr,Value.int .i64 to,Value.int .i64 at_,Value.int .i64 it] 339)).alloc (Obj.cells #[Value.slice Ak nk Ck] 162)).alloc (Obj.cells #[Value.bool false] 4)).alloc (Obj.cells #[Value.int .i64 0] 3))=W0;have hz0:W0.heap.size=w.heap.size+1+1+1+1:=by rw [←hW0];simp
 have hB0:Below w.heap.size w W0:=by rw [←hW0];exact ((((Below.refl _ _).alloc (Nat.le_refl _) _).alloc (by simp) _).alloc (by simp;omega) _).alloc (by simp;omega) _
 have c2:W0.cell? ⟨w.heap.size,0,none⟩=some (.int .u8 1):=by rw [←hW0,World.cell?_alloc_past _ _ _ (by simp;omega),World.cell?_alloc_past _ _ _ (by simp;omega),World.cell?_alloc_past _ _ _ (by simp),World.cell?_alloc_at _ _ _ _ rfl];rfl
 have c4:W0.cell? ⟨w.heap.size+1+1,0,none⟩=some (.bool false):=by rw [←hW0,World.cell?_alloc_past _ _ _ (by simp),World.cell?_alloc_at _ _ _ _ (by simp)];rfl
 have c5:W0.cell? ⟨w.heap.size+1+1+1,0,none⟩=some (.int .i64 0):=by rw [←hW0,World.cell?_alloc_at _ _ _ _ (by simp)];rfl
 have f4:W0.frozen? ⟨w.heap.size+1+1,0,none⟩=false:=by
  have h4:W0.heap[w.heap.size+1+1]? = some (.cells #[Value.bool false] 4 (0,0)):=by
   rw [←hW0];have:=heap_alloc_new ((w.alloc (Obj.cells #[Value.int .u8 1,Value.int .i64 (-1),Value.int .i64 (-1),Value.int .i64 fr,Value.int .i64 to,Value.int .i64 at_,Value.int .i64 it] 339)).alloc (Obj.cells #[Value.slice Ak nk Ck] 162)) (Obj.cells #[Value.bool false] 4);rw [Below.heap_alloc _ _ _ (by simp)];simpa using this
  exact frozen_of_row W0 _ 0 _ _ h4
 have hu0:Bf [] W0 (W0.alloc (Obj.cells #[Value.int .u8 1,Value.int .i64 (-1),Value.int .i64 (-1),Value.int .i64 fr,Value.int .i64 to,Value.int .i64 at_,Value.int .i64 it] 339)):=(Bf.refl _ _).alloc _;clear hW0
 refine wpIn_rangeFunc_ownG rfl (by omega) (gf:=346) (lb:=#[.pointer (some ⟨w.heap.size+1+1+1+1,0,none⟩)]) rfl trivial (enters_of Tryz.func346 (by kernel_rfl) rfl)
  (Y8 Fence.wide 4 trivial rfl (w.heap.size+1+1+1+1) _ (by simp;omega) (by rw [World.cell?_alloc_at _ _ _ _ hz0.symm];rfl) (by rw [World.cell?_alloc_at _ _ _ _ hz0.symm];rfl)) V8 (V9 (by simp;omega)) (Below.refl _ _) (fun _=>rfl)
  (fun pre W=>(pre=([]:List Int)∧W.cell? ⟨w.heap.size,0,none⟩=some (.int .u8 1)∧W.cell? ⟨w.heap.size+1+1,0,none⟩=some (.bool false)∧W.frozen? ⟨w.heap.size+1+1,0,none⟩=false∧W.cell? ⟨w.heap.size+1+1+1,0,none⟩=some (.int .i64 0))∧Below w.heap.size w W)
  (fun _ _ _=>False)
  (OwnFrom.and (Own.from (fun s A B row hs hg hr=>⟨hs.1,cell_kept hs.2.1 hg hr,cell_kept hs.2.2.1 hg hr,(frozen_kept hs.2.2.1 hg hr).trans hs.2.2.2.1,cell_kept hs.2.2.2.2 hg hr⟩) _) (ownFrom_below (Nat.le_refl _) (by simp;omega)))
  (fun _ _ _ _ _ hs _ _=>hs)
  ⟨⟨rfl,(hu0.cell (p:=⟨w.heap.size,0,none⟩) (show w.heap.size<_ by omega) (by simp)).trans c2,(hu0.cell (p:=⟨w.heap.size+1+1,0,none⟩) (show w.heap.size+1+1<_ by omega) (by simp)).trans c4,(hu0.frozen (p:=⟨w.heap.size+1+1,0,none⟩) (show w.heap.size+1+1<_ by omega) (by simp)).trans f4,(hu0.cell (p:=⟨w.heap.size+1+1+1,0,none⟩) (show w.heap.size+1+1+1<_ by omega) (by simp)).trans c5⟩,hB0.alloc (by omega) _⟩
  (fun x=>{ tmps:=#[.agg #[.int .u8 1,.int .i64 (-1),.int .i64 (-1),.int .i64 fr,.int .i64 to,.int .i64 at_,.int .i64 it],.slice Ak nk Ck,.pointer (some ⟨w.heap.size,0,none⟩),.pointer (some ⟨w.heap.size+1,0,none⟩),.pointer (some ⟨w.heap.size+1+1,0,none⟩),.pointer (some ⟨w.heap.size+1+1+1,0,none⟩),.int .i64 x,.agg #[.int .u8 1,.int .i64 (-1),.int .i64 (-1),.int .i64 fr,.int .i64 to,.int .i64 at_,.int .i64 it],.func (.func 346) #[] #[.pointer (some ⟨w.heap.size+1+1+1+1,0,none⟩)],.int .i64 x,undef,undef,undef,undef,undef,undef,undef,undef,undef,undef,undef,undef,undef,undef,undef,undef,undef,undef,undef,undef,undef,undef,undef,undef,undef,undef,undef,undef,undef,undef,undef,undef,undef],defers:=[] }) ?assign ?body ?done ?stop
 case assign=>
  intro l x W K hK;gi_wp2
  exact hK
 case body=>
  intro l pre x W _ hl;simp at hl
 case done=>
  rintro D ys W hD rfl ⟨⟨_,d2,d4,g4,d5⟩,hB⟩ hK;gi_wp2
  have hK2:=(KeepsOthers.setCell W ⟨w.heap.size+1+1,0,none⟩ (.bool true)).same D _ hK rfl;refine ⟨by simp,.inl ⟨_,_,rfl,run_takeDeferred hK2,?_⟩⟩
  have hr:=World.cell?_setCell_same' W ⟨w.heap.size+1+1,0,none⟩ (.bool true) (by rw [d4];rfl);have hr2:((W.setCell ⟨w.heap.size+1+1,0,none⟩ (.bool true)).putObj D (Obj.deferred none)).cell? ⟨w.heap.size+1+1,0,none⟩=some (.bool true):=cell_kept hr (grownBy_putObj' _ D (.deferred none)) (fun r e=>by cases e;exact ⟨_,hK2,rfl⟩);refine ⟨.bool true,?_,rfl,?_⟩
  ·simp [results,Tryz.results326,go_sem,hr2]
  ·exact (hB.setCell (p:=⟨w.heap.size+1+1,0,none⟩) (by show w.heap.size≤w.heap.size+1+1;omega) _).trans (belowK_b (w:=w) (Nat.le_refl _) _ D _ _ (by simp at hD;omega) hK2 rfl rfl)
 case stop=>
  rintro D c pre W _ hf;exact hf.elim
end Go.Proofs.YtkbaaonchdeneaaGreat
namespace Go.Proofs.YtkbaaonchdeneaaGreat
open Go.RowKit Go.Shelf
attribute [local go_sem] Oper.semAt_some
def a7Y (h bK oK nk Ck L R:Nat) (m:Nat) (W:World):Prop:=
 W.cell? ⟨h,0,none⟩=some (.int .u8 2)∧W.cell? ⟨h+1+1,0,none⟩=some (.bool false)∧W.frozen? ⟨h+1+1,0,none⟩=false∧W.cell? ⟨h+1+1+1,0,none⟩=some (.int .i64 (m:Int))∧W.frozen? ⟨h+1+1+1,0,none⟩=false∧W.cell? ⟨bK,oK+L,none⟩=some (.bool false)∧W.cell? ⟨bK,oK+R,none⟩=some (.bool false)∧W.cell? ⟨h,1,none⟩=some (.int .i64 (L:Int))∧W.cell? ⟨h,2,none⟩=some (.int .i64 (R:Int))∧W.cell? ⟨h+1,0,none⟩=some (.slice (some ⟨bK,oK,none⟩) nk Ck)
theorem yA (h bK oK nk Ck L R:Nat):Own (fun (pre:List Bool) W=>a7Y h bK oK nk Ck L R pre.length W):=by
 rintro s A B row ⟨h1,h2,h3,h4,h5,h6,h7,h8,h9,h10⟩ hg hr;exact ⟨cell_kept h1 hg hr,cell_kept h2 hg hr,(frozen_kept h2 hg hr).trans h3,cell_kept h4 hg hr,(frozen_kept h4 hg hr).trans h5,cell_kept h6 hg hr,cell_kept h7 hg hr,cell_kept h8 hg hr,cell_kept h9 hg hr,cell_kept h10 hg hr⟩
theorem yB (L R:Nat) (fr:Int) (bK oK:Nat) (nk Ck:Nat) (to at_ it:Int) (w:World) (hLn:L<nk) (hRn:R<nk) (hne:L≠R) (hbK:bK<w.heap.size) (hkL:w.cell? ⟨bK,oK+L,none⟩=some (.bool false)) (hkR:w.cell? ⟨bK,oK+R,none⟩=some (.bool false)) :
 Calls Tryz.prog 326 #[.agg #[.int .u8 2,.int .i64 (L:Int),.int .i64 (R:Int),.int .i64 fr,.int .i64 to,.int .i64 at_,.int .i64 it],.slice (some ⟨bK,oK,none⟩) nk Ck] w fun e w'=>e=.returned (.bool true)∧Below w.heap.size w w':=by
 refine (callsIn_wide (n:=9)).1 ?_
 refine callsIn_of_wp_marks Tryz.func326 rfl trivial ?_ rfl
 simp only [Tryz.ntmps326,List.size_toArray,List.length_cons,List.length_nil,Nat.reduceAdd,Nat.reduceSub,Array.replicate_succ,Array.replicate_zero,List.push_toArray,List.append_toArray,List.nil_append,List.cons_append];gi_wp2_with (refine ⟨trivial,?_⟩;gi_at_call 337;refine (callsIn_wide.2 (QL _ _)).mono ?_;rintro e w' ⟨rfl,rfl⟩)
 generalize hW0:((((w.alloc (Obj.cells #[Value.int .u8 2,Value.int .i64 (L:Int),Value.int .i64 (R:Int),Value.int .i64 fr,Value.int .i64 to,Value.int .i64 at_,Value.int .i64 it] 339)).alloc (Obj.cells #[Value.slice (some ⟨bK,oK,none⟩) nk Ck] 162)).alloc (Obj.cells #[Value.bool false] 4)).alloc (Obj.cells #[Value.int .i64 0] 3))=W0;have hz0:W0.heap.size=w.heap.size+1+1+1+1:=by rw [←hW0];simp
 have hB0:Below w.heap.size w W0:=by rw [←hW0];exact ((((Below.refl _ _).alloc (Nat.le_refl _) _).alloc (by simp) _).alloc (by simp;omega) _).alloc (by simp;omega) _
 have c2:W0.cell? ⟨w.heap.size,0,none⟩=some (.int .u8 2):=by rw [←hW0,World.cell?_alloc_past _ _ _ (by simp;omega),World.cell?_alloc_past _ _ _ (by simp;omega),World.cell?_alloc_past _ _ _ (by simp),World.cell?_alloc_at _ _ _ _ rfl];rfl
 have c21:W0.cell? ⟨w.heap.size,1,none⟩=some (.int .i64 (L:Int)):=by rw [←hW0,World.cell?_alloc_past _ _ _ (by simp;omega),World.cell?_alloc_past _ _ _ (by simp;omega),World.cell?_alloc_past _ _ _ (by simp),World.cell?_alloc_at _ _ _ _ rfl];rfl
 have c22:W0.cell? ⟨w.heap.size,2,none⟩=some (.int .i64 (R:Int)):=by rw [←hW0,World.cell?_alloc_past _ _ _ (by simp;omega),World.cell?_alloc_past _ _ _ (by simp;omega),World.cell?_alloc_past _ _ _ (by simp),World.cell?_alloc_at _ _ _ _ rfl];rfl
 have c3:W0.cell? ⟨w.heap.size+1,0,none⟩=some (.slice (some ⟨bK,oK,none⟩) nk Ck):=by rw [←hW0,World.cell?_alloc_past _ _ _ (by simp),World.cell?_alloc_past _ _ _ (by simp),World.cell?_alloc_at _ _ _ _ (by simp)];rfl
 have cL:W0.cell? ⟨bK,oK+L,none⟩=some (.bool false):=by rw [←hW0,World.cell?_alloc_past _ _ _ (by first | exact hbK | (simp;omega)),World.cell?_alloc_past _ _ _ (by first | exact hbK | (simp;omega)),World.cell?_alloc_past _ _ _ (by first | exact hbK | (simp;omega)),World.cell?_alloc_past _ _ _ (by first | exact hbK | (simp;omega))];exact hkL
 have cR:W0.cell? ⟨bK,oK+R,none⟩=some (.bool false):=by rw [←hW0,World.cell?_alloc_past _ _ _ (by first | exact hbK | (simp;omega)),World.cell?_alloc_past _ _ _ (by first | exact hbK | (simp;omega)),World.cell?_alloc_past _ _ _ (by first | exact hbK | (simp;omega)),World.cell?_alloc_past _ _ _ (by first | exact hbK | (simp;omega))];exact hkR
 have c4:W0.cell? ⟨w.heap.size+1+1,0,none⟩=some (.bool false):=by rw [←hW0,World.cell?_alloc_past _ _ _ (by simp),World.cell?_alloc_at _ _ _ _ (by simp)];rfl
 have c5:W0.cell? ⟨w.heap.size+1+1+1,0,none⟩=some (.int .i64 0):=by rw [←hW0,World.cell?_alloc_at _ _ _ _ (by simp)];rfl
 have f5:W0.frozen? ⟨w.heap.size+1+1+1,0,none⟩=false:=by
  have h5:W0.heap[w.heap.size+1+1+1]? = some (.cells #[Value.int .i64 0] 3 (0,0)):=by
   rw [←hW0];have:=heap_alloc_new (((w.alloc (Obj.cells #[Value.int .u8 2,Value.int .i64 (L:Int),Value.int .i64 (R:Int),Value.int .i64 fr,Value.int .i64 to,Value.int .i64 at_,Value.int .i64 it] 339)).alloc (Obj.cells #[Value.slice (some ⟨bK,oK,none⟩) nk Ck] 162)).alloc (Obj.cells #[Value.bool false] 4)) (Obj.cells #[Value.int .i64 0] 3);simpa using this
  exact frozen_of_row W0 _ 0 _ _ h5
 have f4:W0.frozen? ⟨w.heap.size+1+1,0,none⟩=false:=by
  have h4:W0.heap[w.heap.size+1+1]? = some (.cells #[Value.bool false] 4 (0,0)):=by
   rw [←hW0];have:=heap_alloc_new ((w.alloc (Obj.cells #[Value.int .u8 2,Value.int .i64 (L:Int),Value.int .i64 (R:Int),Value.int .i64 fr,Value.int .i64 to,Value.int .i64 at_,Value.int .i64 it] 339)).alloc (Obj.cells #[Value.slice (some ⟨bK,oK,none⟩) nk Ck] 162)) (Obj.cells #[Value.bool false] 4);rw [Below.heap_alloc _ _ _ (by simp)];simpa using this
  exact frozen_of_row W0 _ 0 _ _ h4
 have hu0:Bf [] W0 (W0.alloc (Obj.cells #[Value.int .u8 2,Value.int .i64 (L:Int),Value.int .i64 (R:Int),Value.int .i64 fr,Value.int .i64 to,Value.int .i64 at_,Value.int .i64 it] 339)):=(Bf.refl _ _).alloc _;clear hW0
 refine wpIn_rangeFunc_ownG rfl (by omega) (gf:=346) (lb:=#[.pointer (some ⟨w.heap.size+1+1+1+1,0,none⟩)]) rfl trivial (enters_of Tryz.func346 (by kernel_rfl) rfl)
  (Y9 Fence.wide 8 trivial rfl (by omega) (w.heap.size+1+1+1+1) L R _ (by simp;omega) (by rw [World.cell?_alloc_at _ _ _ _ hz0.symm];rfl) (by rw [World.cell?_alloc_at _ _ _ _ hz0.symm];rfl)) V8 (V9 (by simp;omega)) (Below.refl _ _) (fun _=>rfl)
  (fun (pre:List Bool) W=>a7Y w.heap.size bK oK nk Ck L R pre.length W∧Below w.heap.size w W)
  (fun _ _ _=>False)
  (OwnFrom.and (Own.from (yA _ _ _ _ _ _ _) _) (ownFrom_below (Nat.le_refl _) (by simp;omega)))
  (fun _ _ _ _ _ hs _ _=>hs)
  ⟨⟨(hu0.cell (p:=⟨w.heap.size,0,none⟩) (show w.heap.size<_ by omega) (by simp)).trans c2,(hu0.cell (p:=⟨w.heap.size+1+1,0,none⟩) (show w.heap.size+1+1<_ by omega) (by simp)).trans c4,(hu0.frozen (p:=⟨w.heap.size+1+1,0,none⟩) (show w.heap.size+1+1<_ by omega) (by simp)).trans f4,(hu0.cell (p:=⟨w.heap.size+1+1+1,0,none⟩) (show w.heap.size+1+1+1<_ by omega) (by simp)).trans c5,(hu0.frozen (p:=⟨w.heap.size+1+1+1,0,none⟩) (show w.heap.size+1+1+1<_ by omega) (by simp)).trans f5,(hu0.cell (p:=⟨bK,oK+L,none⟩) (show bK<_ by omega) (by simp)).trans cL,(hu0.cell (p:=⟨bK,oK+R,none⟩) (show bK<_ by omega) (by simp)).trans cR,(hu0.cell (p:=⟨w.heap.size,1,none⟩) (show w.heap.size<_ by omega) (by simp)).trans c21,(hu0.cell (p:=⟨w.heap.size,2,none⟩) (show w.heap.size<_ by omega) (by simp)).trans c22,(hu0.cell (p:=⟨w.heap.size+1,0,none⟩) (show w.heap.size+1<_ by omega) (by simp)).trans c3⟩,hB0.alloc (by omega) _⟩
  (fun x:Bool=>{ tmps:=#[.agg #[.int .u8 2,.int .i64 (L:Int),.int .i64 (R:Int),.int .i64 fr,.int .i64 to,.int .i64 at_,.int .i64 it],.slice (some ⟨bK,oK,none⟩) nk Ck,.pointer (some ⟨w.heap.size,0,none⟩),.pointer (some ⟨w.heap.size+1,0,none⟩),.pointer (some ⟨w.heap.size+1+1,0,none⟩),.pointer (some ⟨w.heap.size+1+1+1,0,none⟩),.int .i64 ((cond x R L:Nat):Int),.agg #[.int .u8 2,.int .i64 (L:Int),.int .i64 (R:Int),.int .i64 fr,.int .i64 to,.int .i64 at_,.int .i64 it],.func (.func 346) #[] #[.pointer (some ⟨w.heap.size+1+1+1+1,0,none⟩)],.int .i64 ((cond x R L:Nat):Int),undef,undef,undef,undef,undef,undef,undef,undef,undef,undef,undef,undef,undef,undef,undef,undef,undef,undef,undef,undef,undef,undef,undef,undef,undef,undef,undef,undef,undef,undef,undef,undef,undef],defers:=[] }) ?assign ?body ?done ?stop
 case assign=>
  intro l x W K hK;gi_wp2
  exact hK
 case body=>
  rintro l pre x W ⟨hI,hB⟩ hl
  obtain ⟨k,hkk,hk,e3⟩:∃k:Nat,cond x R L=k∧k<nk∧W.cell? ⟨bK,oK+k,none⟩=some (.bool false):=by
   cases x
   ·exact ⟨L,rfl,hLn,hI.2.2.2.2.2.1⟩
   ·exact ⟨R,rfl,hRn,hI.2.2.2.2.2.2.1⟩
  dsimp only;rw [hkk];have hp:pre.length<3:=by omega
  obtain ⟨d2,d4,g4,d5,g5,dL,dR,d21,d22,d3⟩:=hI;generalize hm:pre.length=m at *;have b1:((k:Int)<0)=False:=by simp
  gi_wp2
  have hr:=World.cell?_setCell_same' W ⟨w.heap.size+1+1+1,0,none⟩ (.int .i64 ((m:Int)+1)) (by rw [d5];rfl);have ho:∀p:Addr,p≠⟨w.heap.size+1+1+1,0,none⟩→(W.setCell ⟨w.heap.size+1+1+1,0,none⟩ (.int .i64 ((m:Int)+1))).cell? p=W.cell? p:=fun p hp=>World.cell?_setCell_other _ _ _ _ (Ne.symm hp)
  refine ⟨(KeepsOthers.setCell _ _ _).from _,ho _ (by simp),⟨(ho _ (by simp)).trans d2,(ho _ (by simp)).trans d4,(World.frozen?_setCell _ _ _ _).trans g4,?_,(World.frozen?_setCell _ _ _ _).trans g5,(ho _ (fun h=>by injection h with h _ _;omega)).trans dL,(ho _ (fun h=>by injection h with h _ _;omega)).trans dR,(ho _ (by simp)).trans d21,(ho _ (by simp)).trans d22,(ho _ (by simp)).trans d3⟩,hB.setCell (p:=⟨w.heap.size+1+1+1,0,none⟩) (by show w.heap.size≤w.heap.size+1+1+1;omega) _⟩
  rw [hr,AY,hm];rfl
 case done=>
  rintro D ys W hD rfl ⟨⟨d2,d4,g4,d5,g5,dL,dR,d21,d22,d3⟩,hB⟩ hK;have hb:((L:Int) != (R:Int))=true:=by rw [bne_iff_ne];omega
  gi_wp2
  have hK2:=(KeepsOthers.setCell W ⟨w.heap.size+1+1,0,none⟩ (.bool true)).same D _ hK rfl;refine ⟨by simp,.inl ⟨_,_,rfl,run_takeDeferred hK2,?_⟩⟩
  have hr:=World.cell?_setCell_same' W ⟨w.heap.size+1+1,0,none⟩ (.bool true) (by rw [d4];rfl);have hr2:((W.setCell ⟨w.heap.size+1+1,0,none⟩ (.bool true)).putObj D (Obj.deferred none)).cell? ⟨w.heap.size+1+1,0,none⟩=some (.bool true):=cell_kept hr (grownBy_putObj' _ D (.deferred none)) (fun r e=>by cases e;exact ⟨_,hK2,rfl⟩);refine ⟨.bool true,?_,rfl,?_⟩
  ·simp [results,Tryz.results326,go_sem,hr2]
  ·exact (hB.setCell (p:=⟨w.heap.size+1+1,0,none⟩) (by show w.heap.size≤w.heap.size+1+1;omega) _).trans (belowK_b (w:=w) (Nat.le_refl _) _ D _ _ (by simp at hD;omega) hK2 rfl rfl)
 case stop=>
  rintro D c pre W _ hf;exact fun h=>h.elim
open Go.RowKit
theorem TU {F:Fence} {fu:Nat} {P:Program} {w:World} {ops:Array Oper} {rest:List Oper} {o:Oper} {a:Act} {Q:Exit→Act→World→Prop} (hgd:o.guard=none) (s x:Operand) (t:TypeId)
 (ho:o.op=.call { callee:=.builtin .append,args:=#[s,x],argTypes:=#[t,t] })
 (base:Nat) (e:TypeId) (i:TypeInfo) (z:Value) (size bytes:Nat) (ht:P.underlying t=some (.slice e)) (hi:P.info? e=some i) (hz:i.zero=some z)
 (hsize:i.size=size) (hby:i.bytes=bytes) (hzs:z.cells.size=size) (hsz:0<size)
 (v:Value) (n:Nat) (xs:List Value) (hs:a.eval s=v) (hown:w.ownsRow base e size v n xs)
 (vx:Value) (m:Nat) (news:List Value) (hx:a.eval x=vx) (FD:Ed w size vx m news) (h1:∀u∈news,u.oneCell'=true)
 (h63:n+m≤maxLen) (hbytes:(n+m)*bytes≤140737488355328) (hbase:base≤w.heap.size)
 (h:∀A C w',DY w w' base e size v n xs m news A C→wpListIn F fu P ops Q rest (a.put o.dst (.slice A (n+m) C)) w'):wpListIn F fu P ops Q (o::rest) a w:=by
 refine wpListIn_plain hgd fun K hK'=>?_
 obtain ⟨A,C,w',hr,h2,h3,h4,h5⟩:=lH (P:=P) w base t o.type e i z size bytes ht hi hz hsize hby hzs hsz v n xs hown vx m news FD h1 h63 hbytes hbase;unfold Oper.wpIn;refine ⟨?_,?_⟩
 ·simp [Oper.about,ho,resolve,Target.leads,Sem.run_pure]
 ·rw [Oper.semAt_plain F _ _ (by rw [ho];intro c hc';cases hc')];simp [execOp,ho,resolve,invoke,builtin,hs,hx,hr,Result.andThen];exact hK' _ _ (h A C w' ⟨h2,h3,h4,h5⟩)
end Go.Proofs.YtkbaaonchdeneaaGreat
namespace Go.Proofs.YtkbaaonchdeneaaGreat
open Go.RowKit Go.Shelf
attribute [local go_sem] Oper.semAt_some
theorem XJ:(Tryz.prog.info? 4).map (fun i=>(i.zero,i.size,i.bytes))=some (some (.bool false),1,1):=by kernel_rfl
def a4T (w:World) (base n:Nat) (v:Value) (xs:List Value) (W:World):Prop:=
 W.ownsRow base 4 1 v n xs∧W.cell? ⟨w.heap.size+1,0,none⟩=some v∧Bf (blk v) w W
theorem eX {α:Type} (w:World) (base n:Nat) (v:Value) (hv:∀k∈blk v,k<w.heap.size) (f:α→List Value) (B:Nat) (hB:w.heap.size+1<B) :
 OwnFrom B (fun (pre:α) W=>a4T w base n v (f pre) W):=by
 rintro s W W' row ⟨h1,h2,h3⟩ hg hr;have hne:∀k,k<B→row≠some k:=fun k hk e=>by have:=(hr k e).1;omega
 refine ⟨FC h1 fun k hk=>?_,?_,h3.grown hg fun k e=>.inr ?_⟩
 ·have:=hv k hk;exact hg.block k (Bc this h3.size) (Ne.symm (hne k (by omega)))
 ·exact cell_kept h2 hg (fun r e=>(hr r e).2)
 ·have:=(hr k e).1;omega
theorem yC (fr to at_ it:Int) (v:Value) (n:Nat) (xs:List Value) (base:Nat) (w:World) (hown:w.ownsRow base 4 1 v n xs) (hb:base≤w.heap.size) (hn:n<2 ^ 40) :
 Calls Tryz.prog 327 #[.agg #[.int .u8 1,.int .i64 (-1),.int .i64 (-1),.int .i64 fr,.int .i64 to,.int .i64 at_,.int .i64 it],v] w fun e w'=>∃A C,e=.returned (.slice A (n+1) C)∧w'.ownsRow base 4 1 (.slice A (n+1) C) (n+1) (xs++[.bool false])∧Bf (blk v) w w'∧∀y∈blk (.slice A (n+1) C),y∈blk v∨w.heap.size≤y:=by
 obtain ⟨A0,C0,rfl⟩:=Kv (CW hown);have hv:=BK hown;obtain ⟨i0,hi,hy0,hy1,hy2⟩:=info_parts XJ;refine (callsIn_wide (n:=5)).1 ?_
 refine callsIn_of_wp_marks Tryz.func327 rfl trivial ?_ rfl
 simp only [Tryz.ntmps327,List.size_toArray,List.length_cons,List.length_nil,Nat.reduceAdd,Nat.reduceSub,Array.replicate_succ,Array.replicate_zero,List.push_toArray,List.append_toArray,List.nil_append,List.cons_append];gi_wp2_with (refine ⟨trivial,?_⟩;gi_at_call 337;refine (callsIn_wide.2 (QL _ _)).mono ?_;rintro e w' ⟨rfl,rfl⟩)
 generalize hW0:((w.alloc (Obj.cells #[Value.int .u8 1,Value.int .i64 (-1),Value.int .i64 (-1),Value.int .i64 fr,Value.int .i64 to,Value.int .i64 at_,Value.int .i64 it] 339)).alloc (Obj.cells #[Value.slice A0 n C0] 162))=W0;have hz0:W0.heap.size=w.heap.size+1+1:=by rw [←hW0];simp
 have hu:Bf (blk (.slice A0 n C0)) w W0:=by rw [←hW0];exact ((Bf.refl _ _).alloc _).alloc _
 have c3:W0.cell? ⟨w.heap.size+1,0,none⟩=some (.slice A0 n C0):=by rw [←hW0,World.cell?_alloc_at _ _ _ _ (by simp)];rfl
 have ho:W0.ownsRow base 4 1 (.slice A0 n C0) n xs:=FC hown fun k hk=>by
  rw [←hW0,Below.heap_alloc _ _ _ (by have:=hv k hk;simp;omega),Below.heap_alloc _ _ _ (hv k hk)]
 have hu0:Bf [] W0 (W0.alloc (Obj.cells #[Value.int .u8 1,Value.int .i64 (-1),Value.int .i64 (-1),Value.int .i64 fr,Value.int .i64 to,Value.int .i64 at_,Value.int .i64 it] 339)):=(Bf.refl _ _).alloc _;clear hW0
 refine wpIn_rangeFunc_ownG rfl (by omega) (gf:=346) (lb:=#[.pointer (some ⟨w.heap.size+1+1,0,none⟩)]) rfl trivial (enters_of Tryz.func346 (by kernel_rfl) rfl)
  (Y8 Fence.wide 4 trivial rfl (w.heap.size+1+1) _ (by simp;omega) (by rw [World.cell?_alloc_at _ _ _ _ hz0.symm];rfl) (by rw [World.cell?_alloc_at _ _ _ _ hz0.symm];rfl)) V8 (V9 (by simp;omega)) (Below.refl _ _) (fun _=>rfl)
  (fun (_:List Int) W=>a4T w base n (.slice A0 n C0) xs W)
  (fun _ _ _=>False)
  (eX w base n _ hv (fun _=>xs) _ (by simp;omega))
  (fun _ _ _ _ _ hs _ _=>hs)
  ⟨FC ho fun k hk=>hu0.block k (by have:=hv k hk;omega) (by simp),(hu0.cell (p:=⟨w.heap.size+1,0,none⟩) (show w.heap.size+1<_ by omega) (by simp)).trans c3,hu.alloc _⟩
  (fun x=>{ tmps:=#[.agg #[.int .u8 1,.int .i64 (-1),.int .i64 (-1),.int .i64 fr,.int .i64 to,.int .i64 at_,.int .i64 it],.slice A0 n C0,.pointer (some ⟨w.heap.size,0,none⟩),.pointer (some ⟨w.heap.size+1,0,none⟩),.slice none 0 0,.int .i64 x,.agg #[.int .u8 1,.int .i64 (-1),.int .i64 (-1),.int .i64 fr,.int .i64 to,.int .i64 at_,.int .i64 it],.func (.func 346) #[] #[.pointer (some ⟨w.heap.size+1+1,0,none⟩)],.int .i64 x,undef,undef,undef,undef,undef,undef],defers:=[] }) ?assign ?body ?done ?stop
 case assign=>
  intro l x W K hK;gi_wp2
  exact hK
 case body=>
  intro l pre x W _ hl;simp at hl
 case done=>
  rintro D ys W hD rfl ⟨d1,d2,d3⟩ hK;have hD2:w.heap.size+1<D:=by simp at hD;omega
  have hO:(W.alloc (.cells #[.bool false] 4)).ownsRow base 4 1 (.slice A0 n C0) n xs:=FC d1 fun k hk=>Below.heap_alloc _ _ _ (Bc (hv k hk) d3.size)
  have hS:Ed (W.alloc (.cells #[.bool false] 4)) 1 (.slice (some ⟨W.heap.size,0,none⟩) 1 1) 1 [.bool false]:=BM W #[.bool false] 4 1 1 rfl (by decide);have hM:n+1≤maxLen:=by unfold maxLen;omega
  have hZ:base≤(W.alloc (.cells #[.bool false] 4)).heap.size:=by have:=d3.size;simp;omega
  have h1:∀u∈[Value.bool false],u.oneCell'=true:=by simp [Value.oneCell']
  gi_wp2_with (gi_at_builtin;refine TU rfl _ _ 162 rfl base 4 i0 (.bool false) 1 1 Tryz.underlying162 hi hy0 hy1 hy2 rfl (by decide) _ n xs rfl hO _ 1 [.bool false] rfl hS h1 hM (by omega) hZ ?_;intro A C w1 HP)
  have hDW:D<W.heap.size:=(Array.getElem?_eq_some_iff.1 hK).1;have hDv:D∉blk (.slice A0 n C0):=fun h=>by have:=hv D h;omega
  have hK2:w1.heap[D]? = some (.deferred (some [])):=(HP.upd.block D (by simp;omega) hDv).trans ((Below.heap_alloc _ _ _ hDW).trans hK);have hg:=grownBy_putObj' w1 D (.deferred none);have hU:Bf (blk (.slice A0 n C0)) w w1:=(d3.alloc _).trans HP.upd;refine ⟨by simp,.inl ⟨_,_,rfl,run_takeDeferred hK2,?_⟩⟩
  refine ⟨.slice A (n+1) C,?_,A,C,rfl,FC HP.own fun k hk=>?_,hU.grown hg (fun k e=>.inr ?_),fun y hy=>?_⟩
  ·simp [results,Tryz.results327,go_sem]
  ·refine World.putObj_heap_other fun e=>?_
   rcases HP.at with h | h
   ·rw [h] at hk;have hk':=hv k hk;omega
   ·rw [h] at hk;simp at hk;omega
  ·cases e;omega
  ·rcases HP.at with h | h
   ·rw [h] at hy;exact .inl hy
   ·rw [h] at hy;have:=d3.size;simp at hy;exact .inr (by omega)
 case stop=>
  rintro D c pre W _ hf;exact hf.elim
end Go.Proofs.YtkbaaonchdeneaaGreat
namespace Go.Proofs.YtkbaaonchdeneaaGreat
open Go.RowKit Go.Shelf
attribute [local go_sem] Oper.semAt_some
def OD (L R:Nat) (xs:List Value) (pre:List Bool):List Value:=pre.foldl (fun s b=>s.set (cond b R L) (.bool true)) xs
theorem jW (L R:Nat) (xs:List Value) (pre:List Bool):(OD L R xs pre).length=xs.length:=by
 unfold OD;induction pre generalizing xs with
 |nil=>rfl
 |cons b p ih=>rw [List.foldl_cons,ih,List.length_set]
theorem eY (L R:Nat) (xs:List Value) (pre:List Bool) (b:Bool):OD L R xs (pre++[b])=(OD L R xs pre).set (cond b R L) (.bool true):=by simp [OD]
theorem yD (L R n:Nat) (hL:L<n) (hR:R<n) (fr to at_ it:Int) (v:Value) (xs:List Value) (base:Nat) (w:World) (hown:w.ownsRow base 4 1 v n xs) (hn:n<2 ^ 40) :
 Calls Tryz.prog 327 #[.agg #[.int .u8 2,.int .i64 (L:Int),.int .i64 (R:Int),.int .i64 fr,.int .i64 to,.int .i64 at_,.int .i64 it],v] w fun e w'=>∃A C,e=.returned (.slice A (n+1) C)∧w'.ownsRow base 4 1 (.slice A (n+1) C) (n+1) ((xs.set L (.bool true)).set R (.bool true)++[.bool false])∧Bf (blk v) w w'∧∀y∈blk (.slice A (n+1) C),y∈blk v∨w.heap.size≤y:=by
 obtain ⟨g,C0,rfl,_,b2w⟩:=World.ownsRow.form hown (by omega);have hxl:xs.length=n:=by have:=hown.1;simpa using this
 have hv:=BK hown;obtain ⟨i0,hi,hy0,hy1,hy2⟩:=info_parts XJ;refine (callsIn_wide (n:=9)).1 ?_
 refine callsIn_of_wp_marks Tryz.func327 rfl trivial ?_ rfl
 simp only [Tryz.ntmps327,List.size_toArray,List.length_cons,List.length_nil,Nat.reduceAdd,Nat.reduceSub,Array.replicate_succ,Array.replicate_zero,List.push_toArray,List.append_toArray,List.nil_append,List.cons_append];gi_wp2_with (refine ⟨trivial,?_⟩;gi_at_call 337;refine (callsIn_wide.2 (QL _ _)).mono ?_;rintro e w' ⟨rfl,rfl⟩)
 generalize hW0:((w.alloc (Obj.cells #[Value.int .u8 2,Value.int .i64 (L:Int),Value.int .i64 (R:Int),Value.int .i64 fr,Value.int .i64 to,Value.int .i64 at_,Value.int .i64 it] 339)).alloc (Obj.cells #[Value.slice (some ⟨g,0,none⟩) n C0] 162))=W0;have hz0:W0.heap.size=w.heap.size+1+1:=by rw [←hW0];simp
 have hu:Bf (blk (.slice (some ⟨g,0,none⟩) n C0)) w W0:=by rw [←hW0];exact ((Bf.refl _ _).alloc _).alloc _
 have c3:W0.cell? ⟨w.heap.size+1,0,none⟩=some (.slice (some ⟨g,0,none⟩) n C0):=by rw [←hW0,World.cell?_alloc_at _ _ _ _ (by simp)];rfl
 have ho:W0.ownsRow base 4 1 (.slice (some ⟨g,0,none⟩) n C0) n xs:=FC hown fun k hk=>by
  rw [←hW0,Below.heap_alloc _ _ _ (by have:=hv k hk;simp;omega),Below.heap_alloc _ _ _ (hv k hk)]
 have hu0:Bf [] W0 (W0.alloc (Obj.cells #[Value.int .u8 2,Value.int .i64 (L:Int),Value.int .i64 (R:Int),Value.int .i64 fr,Value.int .i64 to,Value.int .i64 at_,Value.int .i64 it] 339)):=(Bf.refl _ _).alloc _;clear hW0
 refine wpIn_rangeFunc_ownG rfl (by omega) (gf:=346) (lb:=#[.pointer (some ⟨w.heap.size+1+1,0,none⟩)]) rfl trivial (enters_of Tryz.func346 (by kernel_rfl) rfl)
  (Y9 Fence.wide 8 trivial rfl (by omega) (w.heap.size+1+1) L R _ (by simp;omega) (by rw [World.cell?_alloc_at _ _ _ _ hz0.symm];rfl) (by rw [World.cell?_alloc_at _ _ _ _ hz0.symm];rfl)) V8 (V9 (by simp;omega)) (Below.refl _ _) (fun _=>rfl)
  (fun (pre:List Bool) W=>a4T w base n (.slice (some ⟨g,0,none⟩) n C0) (OD L R xs pre) W)
  (fun _ _ _=>False)
  (eX w base n _ hv (OD L R xs) _ (by simp;omega))
  (fun _ _ _ _ _ hs _ _=>hs)
  ⟨FC ho fun k hk=>hu0.block k (by have:=hv k hk;omega) (by simp),(hu0.cell (p:=⟨w.heap.size+1,0,none⟩) (show w.heap.size+1<_ by omega) (by simp)).trans c3,hu.alloc _⟩
  (fun x:Bool=>{ tmps:=#[.agg #[.int .u8 2,.int .i64 (L:Int),.int .i64 (R:Int),.int .i64 fr,.int .i64 to,.int .i64 at_,.int .i64 it],.slice (some ⟨g,0,none⟩) n C0,.pointer (some ⟨w.heap.size,0,none⟩),.pointer (some ⟨w.heap.size+1,0,none⟩),.slice none 0 0,.int .i64 ((cond x R L:Nat):Int),.agg #[.int .u8 2,.int .i64 (L:Int),.int .i64 (R:Int),.int .i64 fr,.int .i64 to,.int .i64 at_,.int .i64 it],.func (.func 346) #[] #[.pointer (some ⟨w.heap.size+1+1,0,none⟩)],.int .i64 ((cond x R L:Nat):Int),undef,undef,undef,undef,undef,undef],defers:=[] }) ?assign ?body ?done ?stop
 case assign=>
  intro l x W K hK;gi_wp2
  exact hK
 case body=>
  rintro l pre x W ⟨d1,d2,d3⟩ hl
  obtain ⟨k,hkk,hk⟩:∃k:Nat,cond x R L=k∧k<n:=by
   cases x
   ·exact ⟨L,rfl,hL⟩
   ·exact ⟨R,rfl,hR⟩
  rw [hkk];have hlen:(OD L R xs pre).length=n:=by rw [jW];exact hxl
  have e1:W.cell? ⟨g,k,none⟩=some ((OD L R xs pre)[k]'(by omega)):=by rw [World.ownsRow.cellAt d1 k (by omega)];exact AX _
  have e2:=World.ownsRow.frozenAt d1 k;have hgv:g∈blk (.slice (some ⟨g,0,none⟩) n C0):=by simp [blk]
  have hgw:=hv g hgv;gi_wp2
  refine ⟨(KeepsOthers.setCell _ _ _).from _,World.cell?_setCell_other _ _ _ _ (fun h=>by injection h with h _ _;omega),?_,(World.cell?_setCell_other _ _ _ _ (fun h=>by injection h with h _ _;omega)).trans d2,d3.setCell (.inl hgv) _⟩
  rw [eY,hkk];exact (World.ownsRow.stored d1 k (.bool true)).1
 case done=>
  rintro D ys W hD rfl ⟨d1,d2,d3⟩ hK;have hD2:w.heap.size+1<D:=by simp at hD;omega
  have hO:(W.alloc (.cells #[.bool false] 4)).ownsRow base 4 1 (.slice (some ⟨g,0,none⟩) n C0) n ((xs.set L (.bool true)).set R (.bool true)):=FC d1 fun k hk=>Below.heap_alloc _ _ _ (Bc (hv k hk) d3.size)
  have hS:Ed (W.alloc (.cells #[.bool false] 4)) 1 (.slice (some ⟨W.heap.size,0,none⟩) 1 1) 1 [.bool false]:=BM W #[.bool false] 4 1 1 rfl (by decide);have hM:n+1≤maxLen:=by unfold maxLen;omega
  have hZ:base≤(W.alloc (.cells #[.bool false] 4)).heap.size:=by have:=d3.size;simp;omega
  have h1:∀u∈[Value.bool false],u.oneCell'=true:=by simp [Value.oneCell']
  gi_wp2_with (gi_at_builtin;refine TU rfl _ _ 162 rfl base 4 i0 (.bool false) 1 1 Tryz.underlying162 hi hy0 hy1 hy2 rfl (by decide) _ n _ rfl hO _ 1 [.bool false] rfl hS h1 hM (by omega) hZ ?_;intro A C w1 HP)
  have hDW:D<W.heap.size:=(Array.getElem?_eq_some_iff.1 hK).1;have hDv:D∉blk (.slice (some ⟨g,0,none⟩) n C0):=fun h=>by have:=hv D h;omega
  have hK2:w1.heap[D]? = some (.deferred (some [])):=(HP.upd.block D (by simp;omega) hDv).trans ((Below.heap_alloc _ _ _ hDW).trans hK);have hg:=grownBy_putObj' w1 D (.deferred none);have hU:Bf (blk (.slice (some ⟨g,0,none⟩) n C0)) w w1:=(d3.alloc _).trans HP.upd;refine ⟨by simp,.inl ⟨_,_,rfl,run_takeDeferred hK2,?_⟩⟩
  refine ⟨.slice A (n+1) C,?_,A,C,rfl,FC HP.own fun k hk=>?_,hU.grown hg (fun k e=>.inr ?_),fun y hy=>?_⟩
  ·simp [results,Tryz.results327,go_sem]
  ·refine World.putObj_heap_other fun e=>?_
   rcases HP.at with h | h
   ·rw [h] at hk;have hk':=hv k hk;omega
   ·rw [h] at hk;simp at hk;omega
  ·cases e;omega
  ·rcases HP.at with h | h
   ·rw [h] at hy;exact .inl hy
   ·rw [h] at hy;have:=d3.size;simp at hy;exact .inr (by omega)
 case stop=>
  rintro D c pre W _ hf;exact fun h=>h.elim
