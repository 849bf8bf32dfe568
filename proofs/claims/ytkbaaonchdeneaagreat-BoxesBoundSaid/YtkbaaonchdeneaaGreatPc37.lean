/- pool.kids: the iterator over a node's kids. pool.may at an inner node. append onto an owned row, -/
import Derived.RangeFuncNested
import Derived.RangeFuncBound
import Derived.Shelf.RegionOpen
import Derived.OwnWalkIn
import Derived.LoopNIn
import Derived.LoopIn
import Derived.Test.YtkbaaonchdeneaaGreatRows
import Derived.Test.YtkbaaonchdeneaaGreatPc1
set_option maxHeartbeats 1000000
set_option maxRecDepth 100000
namespace Go.Proofs.YtkbaaonchdeneaaGreat
section
open Go.RowKit Go.Shelf
attribute [local go_sem] Oper.semAt_some
def VX (bk:Nat) (A B:World):Prop:=B.cell? ⟨bk,2,none⟩=A.cell? ⟨bk,2,none⟩
theorem Sm {bk:Nat} {A B C:World} (h:VX bk A B) (k:VX bk B C):VX bk A C:=Eq.trans k h
theorem Sr {bk:Nat} {w:World} (hb:bk<w.heap.size) (W:World) (l:Nat) (o o':Obj) (hl:w.heap.size<=l) (h:W.heap[l]? = some o) (h1:o.isCells=false) (h2:o.isWalk=false):VX bk W (W.putObj l o'):=
 (belowK_b (w:=w) (Nat.le_refl _) W l o o' hl h h1 h2).cell (p:=⟨bk,2,none⟩) hb
theorem VY (F:Fence) (n:Nat) (hF:F.fn 346) (hro:F.round=none) (bk:Nat) (w:World) (hb:bk<w.heap.size) (h1:w.cell? ⟨bk,1,none⟩=some (.int .i64 (-1))) (h2:w.cell? ⟨bk,2,none⟩=some (.int .i64 (-1))) :
 SeqStopsK F n Tryz.prog 346 #[.pointer (some bk)] (λx:Int=>#[Value.int .i64 x]) (VX bk) (λxs=>xs = []) (λ_=>False) 0 w:=λl J Jx W hW hJ hJx hY h0=>by
 have g1:=(hW.cell (p:=⟨bk,1,none⟩) hb).trans h1;have g2:=(hW.cell (p:=⟨bk,2,none⟩) hb).trans h2;refine callsIn_of_wp Tryz.func346 rfl hF ?_ hro
 simp only [Tryz.ntmps346,List.size_toArray,List.length_cons,List.length_nil,Nat.reduceAdd,Nat.reduceSub,Array.replicate_succ,Array.replicate_zero,List.push_toArray,List.append_toArray,List.nil_append,List.cons_append];gi_wp2
 refine ⟨λ_ h=>(by cases h),?_⟩
 gi_wp2
 go_end0
 exact ⟨⟨_,rfl⟩,.inl ⟨[],rfl,h0⟩⟩
theorem VZ (F:Fence) (n:Nat) (hF:F.fn 346) (hro:F.round=none) (hn:1<=n) (bk:Nat) (L R:Nat) (w:World) (hb:bk<w.heap.size) (h1:w.cell? ⟨bk,1,none⟩=some (.int .i64 (L:Int))) (h2:w.cell? ⟨bk,2,none⟩=some (.int .i64 (R:Int))) :
 SeqStopsK F n Tryz.prog 346 #[.pointer (some bk)] (λx:Bool=>#[Value.int .i64 ((cond x R L:Nat):Int)]) (VX bk) (λxs=>xs = [false,true]) (λpre=>pre = [false]\/pre = [false,true]) 2 w:=λl J Jx W hW hJ hJx hY h0=>by
 have g1:=(hW.cell (p:=⟨bk,1,none⟩) hb).trans h1;have g2:=(hW.cell (p:=⟨bk,2,none⟩) hb).trans h2;have e1:((L:Int) != -1)=true:=by rw [bne_iff_ne];omega
 have e2:((R:Int) != -1)=true:=by rw [bne_iff_ne];omega
 have hbW:bk<W.heap.size:=Bg hb hW.size;refine callsIn_of_wp Tryz.func346 rfl hF ?_ hro
 simp only [Tryz.ntmps346,List.size_toArray,List.length_cons,List.length_nil,Nat.reduceAdd,Nat.reduceSub,Array.replicate_succ,Array.replicate_zero,List.push_toArray,List.append_toArray,List.nil_append,List.cons_append];obtain ⟨f1,t1,a1,b1,hy1,hR1⟩:=hY [] false W h0 (by simp);dsimp only [cond] at hy1;gi_wp2
 refine hR1.mono ?_
 rintro e W1 (⟨rfl,hJ1,hk1⟩ | ⟨rfl,hx1⟩)
 ·have g3:=hk1.trans g2;obtain ⟨f2,t2,a2,b2,hy2,hR2⟩:=hY [false] true W1 hJ1 (by simp);dsimp only [cond] at hy2;gi_wp2
  refine hR2.mono ?_
  rintro e W2 (⟨rfl,hJ2,_⟩ | ⟨rfl,hx2⟩)
  ·gi_wp2
   go_end0
   exact ⟨⟨_,rfl⟩,.inl ⟨_,rfl,hJ2⟩⟩
  ·gi_wp2
   go_end0
   exact ⟨⟨_,rfl⟩,.inr ⟨_,.inr rfl,hx2⟩⟩
 ·gi_wp2
  refine bodyPost_ret (results_none rfl _ _ _) rfl ?_
  exact ⟨⟨_,rfl⟩,.inr ⟨_,.inl rfl,hx1⟩⟩
theorem Nk (nd:Array Value) (w:World):Calls Tryz.prog 337 #[.agg nd] w λe w'=>e=.returned (.func (.func 346) #[] #[.pointer (some w.heap.size)])/\w'=w.alloc (.cells nd 339):=by
 go_enter Tryz.func337,Tryz.ntmps337
 go_wp2
 go_ret
 exact ⟨rfl,rfl⟩
theorem uH (fr:Int) (Ak:Option Addr) (nk Ck:Nat) (to at_ it:Int) (w:World) :
 Calls Tryz.prog 326 #[.agg #[.int .u8 1,.int .i64 (-1),.int .i64 (-1),fr,to,at_,it],.slice Ak nk Ck] w λe w'=>e=.returned (.bool true)/\Below w.heap.size w w':=by
 refine (callsIn_wide (n:=5)).1 ?_
 refine callsIn_of_wp_marks Tryz.func326 rfl trivial ?_ rfl
 simp only [Tryz.ntmps326,List.size_toArray,List.length_cons,List.length_nil,Nat.reduceAdd,Nat.reduceSub,Array.replicate_succ,Array.replicate_zero,List.push_toArray,List.append_toArray,List.nil_append,List.cons_append];gi_wp2_with (refine ⟨trivial,?_⟩;gi_at_call 337;refine (callsIn_wide.2 (Nk _ _)).mono ?_;rintro e w' ⟨rfl,rfl⟩)
 generalize hW0:((((w.alloc (Obj.cells #[Value.int .u8 1,Value.int .i64 (-1),Value.int .i64 (-1),Value.int .i64 fr,Value.int .i64 to,Value.int .i64 at_,Value.int .i64 it] 339)).alloc (Obj.cells #[Value.slice Ak nk Ck] 162)).alloc (Obj.cells #[Value.bool false] 4)).alloc (Obj.cells #[Value.int .i64 0] 3))=W0;have hz0:W0.heap.size=w.heap.size+1+1+1+1:=by rw [<-hW0];simp
 have hB0:Below w.heap.size w W0:=by rw [<-hW0];exact ((((Below.refl _ _).alloc (Nat.le_refl _) _).alloc (by simp) _).alloc (by simp;omega) _).alloc (by simp;omega) _
 have c2:W0.cell? w.heap.size=some (.int .u8 1):=by rw [<-hW0,World.cell?_alloc_past _ _ _ (by simp;omega),World.cell?_alloc_past _ _ _ (by simp;omega),World.cell?_alloc_past _ _ _ (by simp),World.cell?_alloc_at _ _ _ _ rfl];rfl
 have c4:W0.cell? ⟨w.heap.size+1+1,0,none⟩=some (.bool false):=by rw [<-hW0,World.cell?_alloc_past _ _ _ (by simp),World.cell?_alloc_at _ _ _ _ (by simp)];rfl
 have c5:W0.cell? ⟨w.heap.size+1+1+1,0,none⟩=some (.int .i64 0):=by rw [<-hW0,World.cell?_alloc_at _ _ _ _ (by simp)];rfl
 have f4:W0.frozen? ⟨w.heap.size+1+1,0,none⟩=false:=by
  have h4:W0.heap[w.heap.size+1+1]? = some (.cells #[Value.bool false] 4 (0,0)):=by
   rw [<-hW0];have:=heap_alloc_new ((w.alloc (Obj.cells #[Value.int .u8 1,Value.int .i64 (-1),Value.int .i64 (-1),Value.int .i64 fr,Value.int .i64 to,Value.int .i64 at_,Value.int .i64 it] 339)).alloc (Obj.cells #[Value.slice Ak nk Ck] 162)) (Obj.cells #[Value.bool false] 4);rw [Below.heap_alloc _ _ _ (by simp)];simpa using this
  exact frozen_of_row W0 _ 0 _ _ h4
 have hu0:Bj [] W0 (W0.alloc (Obj.cells #[Value.int .u8 1,Value.int .i64 (-1),Value.int .i64 (-1),Value.int .i64 fr,Value.int .i64 to,Value.int .i64 at_,Value.int .i64 it] 339)):=(Bj.refl _ _).alloc _;clear hW0
 refine wpIn_rangeFunc_ownG rfl (by omega) (gf:=346) (lb:=#[.pointer (some ⟨w.heap.size+1+1+1+1,0,none⟩)]) rfl trivial (enters_of Tryz.func346 (by kernel_rfl) rfl)
  (VY Fence.wide 4 trivial rfl (w.heap.size+1+1+1+1) _ (by simp;omega) (by rw [World.cell?_alloc_at _ _ _ _ hz0.symm];rfl) (by rw [World.cell?_alloc_at _ _ _ _ hz0.symm];rfl)) Sm (Sr (by simp;omega)) (Below.refl _ _) (λ_=>rfl)
  (λpre W=>(pre=([]:List Int)/\W.cell? w.heap.size=some (.int .u8 1)/\W.cell? ⟨w.heap.size+1+1,0,none⟩=some (.bool false)/\W.frozen? ⟨w.heap.size+1+1,0,none⟩=false/\W.cell? ⟨w.heap.size+1+1+1,0,none⟩=some (.int .i64 0))/\Below w.heap.size w W)
  (λ_ _ _=>False)
  (OwnFrom.and (Own.from (λs A B row hs hg hr=>⟨hs.1,cell_kept hs.2.1 hg hr,cell_kept hs.2.2.1 hg hr,(frozen_kept hs.2.2.1 hg hr).trans hs.2.2.2.1,cell_kept hs.2.2.2.2 hg hr⟩) _) (ownFrom_below (Nat.le_refl _) (by simp;omega)))
  (λ_ _ _ _ _ hs _ _=>hs)
  ⟨⟨rfl,(hu0.cell (p:=⟨w.heap.size,0,none⟩) (show w.heap.size<_ by omega) (by simp)).trans c2,(hu0.cell (p:=⟨w.heap.size+1+1,0,none⟩) (show w.heap.size+1+1<_ by omega) (by simp)).trans c4,(hu0.frozen (p:=⟨w.heap.size+1+1,0,none⟩) (show w.heap.size+1+1<_ by omega) (by simp)).trans f4,(hu0.cell (p:=⟨w.heap.size+1+1+1,0,none⟩) (show w.heap.size+1+1+1<_ by omega) (by simp)).trans c5⟩,hB0.alloc (by omega) _⟩
  (λx=>{ tmps:=#[.agg #[.int .u8 1,.int .i64 (-1),.int .i64 (-1),.int .i64 fr,.int .i64 to,.int .i64 at_,.int .i64 it],.slice Ak nk Ck,.pointer (some ⟨w.heap.size,0,none⟩),.pointer (some ⟨w.heap.size+1,0,none⟩),.pointer (some ⟨w.heap.size+1+1,0,none⟩),.pointer (some ⟨w.heap.size+1+1+1,0,none⟩),.int .i64 x,.agg #[.int .u8 1,.int .i64 (-1),.int .i64 (-1),.int .i64 fr,.int .i64 to,.int .i64 at_,.int .i64 it],.func (.func 346) #[] #[.pointer (some ⟨w.heap.size+1+1+1+1,0,none⟩)],.int .i64 x,undef,undef,undef,undef,undef,undef,undef,undef,undef,undef,undef,undef,undef,undef,undef,undef,undef,undef,undef,undef,undef,undef,undef,undef,undef,undef,undef,undef,undef,undef,undef,undef,undef],defers:=[] }) ?assign ?body ?done ?stop
 case assign=>
  intro l x W K hK;gi_wp2
  exact hK
 case body=>
  intro l pre x W _ hl;simp at hl
 case done=>
  rintro D ys W hD rfl ⟨⟨_,d2,d4,g4,d5⟩,hB⟩ hK;gi_wp2
  have hK2:=(KeepsOthers.setCell W ⟨w.heap.size+1+1,0,none⟩ (.bool true)).same D _ hK rfl;refine ⟨by simp,.inl ⟨_,_,rfl,run_takeDeferred hK2,?_⟩⟩
  have hr:=World.cell?_setCell_same' W ⟨w.heap.size+1+1,0,none⟩ (.bool true) (by rw [d4];rfl);have hr2:((W.setCell ⟨w.heap.size+1+1,0,none⟩ (.bool true)).putObj D (Obj.deferred none)).cell? ⟨w.heap.size+1+1,0,none⟩=some (.bool true):=cell_kept hr (grownBy_putObj' _ D (.deferred none)) (λr e=>by cases e;exact ⟨_,hK2,rfl⟩);refine ⟨.bool true,?_,rfl,?_⟩
  ·simp [results,Tryz.results326,go_sem,hr2]
  ·exact (hB.setCell (p:=⟨w.heap.size+1+1,0,none⟩) (by show w.heap.size<=w.heap.size+1+1;omega) _).trans (belowK_b (w:=w) (Nat.le_refl _) _ D _ _ (by simp at hD;omega) hK2 rfl rfl)
 case stop=>
  rintro D c pre W _ hf;exact hf.elim
end
section
open Go.RowKit Go.Shelf
attribute [local go_sem] Oper.semAt_some
def a5G (h bK oK nk Ck L R:Nat) (m:Nat) (W:World):Prop:=
 W.cell? h=some (.int .u8 2)/\W.cell? ⟨h+1+1,0,none⟩=some (.bool false)/\W.frozen? ⟨h+1+1,0,none⟩=false/\W.cell? ⟨h+1+1+1,0,none⟩=some (.int .i64 (m:Int))/\W.frozen? ⟨h+1+1+1,0,none⟩=false/\W.cell? ⟨bK,oK+L,none⟩=some (.bool false)/\W.cell? ⟨bK,oK+R,none⟩=some (.bool false)/\W.cell? ⟨h,1,none⟩=some (.int .i64 (L:Int))/\W.cell? ⟨h,2,none⟩=some (.int .i64 (R:Int))/\W.cell? ⟨h+1,0,none⟩=some (.slice (some ⟨bK,oK,none⟩) nk Ck)
theorem uI (h bK oK nk Ck L R:Nat):Own (λ(pre:List Bool) W=>a5G h bK oK nk Ck L R pre.length W):=by
 rintro s A B row ⟨h1,h2,h3,h4,h5,h6,h7,h8,h9,h10⟩ hg hr;exact ⟨cell_kept h1 hg hr,cell_kept h2 hg hr,(frozen_kept h2 hg hr).trans h3,cell_kept h4 hg hr,(frozen_kept h4 hg hr).trans h5,cell_kept h6 hg hr,cell_kept h7 hg hr,cell_kept h8 hg hr,cell_kept h9 hg hr,cell_kept h10 hg hr⟩
theorem uJ (L R:Nat) (fr:Int) (bK oK:Nat) (nk Ck:Nat) (to at_ it:Int) (w:World) (hLn:L<nk) (hRn:R<nk) (hne:L≠R) (hbK:bK<w.heap.size) (hkL:w.cell? ⟨bK,oK+L,none⟩=some (.bool false)) (hkR:w.cell? ⟨bK,oK+R,none⟩=some (.bool false)) :
 Calls Tryz.prog 326 #[.agg #[.int .u8 2,(L:Int),(R:Int),fr,to,at_,it],.slice (some ⟨bK,oK,none⟩) nk Ck] w λe w'=>e=.returned (.bool true)/\Below w.heap.size w w':=by
 refine (callsIn_wide (n:=9)).1 ?_
 refine callsIn_of_wp_marks Tryz.func326 rfl trivial ?_ rfl
 simp only [Tryz.ntmps326,List.size_toArray,List.length_cons,List.length_nil,Nat.reduceAdd,Nat.reduceSub,Array.replicate_succ,Array.replicate_zero,List.push_toArray,List.append_toArray,List.nil_append,List.cons_append];gi_wp2_with (refine ⟨trivial,?_⟩;gi_at_call 337;refine (callsIn_wide.2 (Nk _ _)).mono ?_;rintro e w' ⟨rfl,rfl⟩)
 generalize hW0:((((w.alloc (Obj.cells #[Value.int .u8 2,Value.int .i64 (L:Int),Value.int .i64 (R:Int),Value.int .i64 fr,Value.int .i64 to,Value.int .i64 at_,Value.int .i64 it] 339)).alloc (Obj.cells #[Value.slice (some ⟨bK,oK,none⟩) nk Ck] 162)).alloc (Obj.cells #[Value.bool false] 4)).alloc (Obj.cells #[Value.int .i64 0] 3))=W0;have hz0:W0.heap.size=w.heap.size+1+1+1+1:=by rw [<-hW0];simp
 have hB0:Below w.heap.size w W0:=by rw [<-hW0];exact ((((Below.refl _ _).alloc (Nat.le_refl _) _).alloc (by simp) _).alloc (by simp;omega) _).alloc (by simp;omega) _
 have c2:W0.cell? w.heap.size=some (.int .u8 2):=by rw [<-hW0,World.cell?_alloc_past _ _ _ (by simp;omega),World.cell?_alloc_past _ _ _ (by simp;omega),World.cell?_alloc_past _ _ _ (by simp),World.cell?_alloc_at _ _ _ _ rfl];rfl
 have c21:W0.cell? ⟨w.heap.size,1,none⟩=some (.int .i64 (L:Int)):=by rw [<-hW0,World.cell?_alloc_past _ _ _ (by simp;omega),World.cell?_alloc_past _ _ _ (by simp;omega),World.cell?_alloc_past _ _ _ (by simp),World.cell?_alloc_at _ _ _ _ rfl];rfl
 have c22:W0.cell? ⟨w.heap.size,2,none⟩=some (.int .i64 (R:Int)):=by rw [<-hW0,World.cell?_alloc_past _ _ _ (by simp;omega),World.cell?_alloc_past _ _ _ (by simp;omega),World.cell?_alloc_past _ _ _ (by simp),World.cell?_alloc_at _ _ _ _ rfl];rfl
 have c3:W0.cell? ⟨w.heap.size+1,0,none⟩=some (.slice (some ⟨bK,oK,none⟩) nk Ck):=by rw [<-hW0,World.cell?_alloc_past _ _ _ (by simp),World.cell?_alloc_past _ _ _ (by simp),World.cell?_alloc_at _ _ _ _ (by simp)];rfl
 have cL:W0.cell? ⟨bK,oK+L,none⟩=some (.bool false):=by rw [<-hW0,World.cell?_alloc_past _ _ _ (by first | exact hbK | (simp;omega)),World.cell?_alloc_past _ _ _ (by first | exact hbK | (simp;omega)),World.cell?_alloc_past _ _ _ (by first | exact hbK | (simp;omega)),World.cell?_alloc_past _ _ _ (by first | exact hbK | (simp;omega))];exact hkL
 have cR:W0.cell? ⟨bK,oK+R,none⟩=some (.bool false):=by rw [<-hW0,World.cell?_alloc_past _ _ _ (by first | exact hbK | (simp;omega)),World.cell?_alloc_past _ _ _ (by first | exact hbK | (simp;omega)),World.cell?_alloc_past _ _ _ (by first | exact hbK | (simp;omega)),World.cell?_alloc_past _ _ _ (by first | exact hbK | (simp;omega))];exact hkR
 have c4:W0.cell? ⟨w.heap.size+1+1,0,none⟩=some (.bool false):=by rw [<-hW0,World.cell?_alloc_past _ _ _ (by simp),World.cell?_alloc_at _ _ _ _ (by simp)];rfl
 have c5:W0.cell? ⟨w.heap.size+1+1+1,0,none⟩=some (.int .i64 0):=by rw [<-hW0,World.cell?_alloc_at _ _ _ _ (by simp)];rfl
 have f5:W0.frozen? ⟨w.heap.size+1+1+1,0,none⟩=false:=by
  have h5:W0.heap[w.heap.size+1+1+1]? = some (.cells #[Value.int .i64 0] 3 (0,0)):=by
   rw [<-hW0];have:=heap_alloc_new (((w.alloc (Obj.cells #[Value.int .u8 2,Value.int .i64 (L:Int),Value.int .i64 (R:Int),Value.int .i64 fr,Value.int .i64 to,Value.int .i64 at_,Value.int .i64 it] 339)).alloc (Obj.cells #[Value.slice (some ⟨bK,oK,none⟩) nk Ck] 162)).alloc (Obj.cells #[Value.bool false] 4)) (Obj.cells #[Value.int .i64 0] 3);simpa using this
  exact frozen_of_row W0 _ 0 _ _ h5
 have f4:W0.frozen? ⟨w.heap.size+1+1,0,none⟩=false:=by
  have h4:W0.heap[w.heap.size+1+1]? = some (.cells #[Value.bool false] 4 (0,0)):=by
   rw [<-hW0];have:=heap_alloc_new ((w.alloc (Obj.cells #[Value.int .u8 2,Value.int .i64 (L:Int),Value.int .i64 (R:Int),Value.int .i64 fr,Value.int .i64 to,Value.int .i64 at_,Value.int .i64 it] 339)).alloc (Obj.cells #[Value.slice (some ⟨bK,oK,none⟩) nk Ck] 162)) (Obj.cells #[Value.bool false] 4);rw [Below.heap_alloc _ _ _ (by simp)];simpa using this
  exact frozen_of_row W0 _ 0 _ _ h4
 have hu0:Bj [] W0 (W0.alloc (Obj.cells #[Value.int .u8 2,Value.int .i64 (L:Int),Value.int .i64 (R:Int),Value.int .i64 fr,Value.int .i64 to,Value.int .i64 at_,Value.int .i64 it] 339)):=(Bj.refl _ _).alloc _;clear hW0
 refine wpIn_rangeFunc_ownG rfl (by omega) (gf:=346) (lb:=#[.pointer (some ⟨w.heap.size+1+1+1+1,0,none⟩)]) rfl trivial (enters_of Tryz.func346 (by kernel_rfl) rfl)
  (VZ Fence.wide 8 trivial rfl (by omega) (w.heap.size+1+1+1+1) L R _ (by simp;omega) (by rw [World.cell?_alloc_at _ _ _ _ hz0.symm];rfl) (by rw [World.cell?_alloc_at _ _ _ _ hz0.symm];rfl)) Sm (Sr (by simp;omega)) (Below.refl _ _) (λ_=>rfl)
  (λ(pre:List Bool) W=>a5G w.heap.size bK oK nk Ck L R pre.length W/\Below w.heap.size w W)
  (λ_ _ _=>False)
  (OwnFrom.and (Own.from (uI _ _ _ _ _ _ _) _) (ownFrom_below (Nat.le_refl _) (by simp;omega)))
  (λ_ _ _ _ _ hs _ _=>hs)
  ⟨⟨(hu0.cell (p:=⟨w.heap.size,0,none⟩) (show w.heap.size<_ by omega) (by simp)).trans c2,(hu0.cell (p:=⟨w.heap.size+1+1,0,none⟩) (show w.heap.size+1+1<_ by omega) (by simp)).trans c4,(hu0.frozen (p:=⟨w.heap.size+1+1,0,none⟩) (show w.heap.size+1+1<_ by omega) (by simp)).trans f4,(hu0.cell (p:=⟨w.heap.size+1+1+1,0,none⟩) (show w.heap.size+1+1+1<_ by omega) (by simp)).trans c5,(hu0.frozen (p:=⟨w.heap.size+1+1+1,0,none⟩) (show w.heap.size+1+1+1<_ by omega) (by simp)).trans f5,(hu0.cell (p:=⟨bK,oK+L,none⟩) (show bK<_ by omega) (by simp)).trans cL,(hu0.cell (p:=⟨bK,oK+R,none⟩) (show bK<_ by omega) (by simp)).trans cR,(hu0.cell (p:=⟨w.heap.size,1,none⟩) (show w.heap.size<_ by omega) (by simp)).trans c21,(hu0.cell (p:=⟨w.heap.size,2,none⟩) (show w.heap.size<_ by omega) (by simp)).trans c22,(hu0.cell (p:=⟨w.heap.size+1,0,none⟩) (show w.heap.size+1<_ by omega) (by simp)).trans c3⟩,hB0.alloc (by omega) _⟩
  (λx:Bool=>{ tmps:=#[.agg #[.int .u8 2,.int .i64 (L:Int),.int .i64 (R:Int),.int .i64 fr,.int .i64 to,.int .i64 at_,.int .i64 it],.slice (some ⟨bK,oK,none⟩) nk Ck,.pointer (some ⟨w.heap.size,0,none⟩),.pointer (some ⟨w.heap.size+1,0,none⟩),.pointer (some ⟨w.heap.size+1+1,0,none⟩),.pointer (some ⟨w.heap.size+1+1+1,0,none⟩),.int .i64 ((cond x R L:Nat):Int),.agg #[.int .u8 2,.int .i64 (L:Int),.int .i64 (R:Int),.int .i64 fr,.int .i64 to,.int .i64 at_,.int .i64 it],.func (.func 346) #[] #[.pointer (some ⟨w.heap.size+1+1+1+1,0,none⟩)],.int .i64 ((cond x R L:Nat):Int),undef,undef,undef,undef,undef,undef,undef,undef,undef,undef,undef,undef,undef,undef,undef,undef,undef,undef,undef,undef,undef,undef,undef,undef,undef,undef,undef,undef,undef,undef,undef,undef,undef],defers:=[] }) ?assign ?body ?done ?stop
 case assign=>
  intro l x W K hK;gi_wp2
  exact hK
 case body=>
  rintro l pre x W ⟨hI,hB⟩ hl
  obtain ⟨k,hkk,hk,e3⟩:∃k:Nat,cond x R L=k/\k<nk/\W.cell? ⟨bK,oK+k,none⟩=some (.bool false):=by
   cases x
   ·exact ⟨L,rfl,hLn,hI.2.2.2.2.2.1⟩
   ·exact ⟨R,rfl,hRn,hI.2.2.2.2.2.2.1⟩
  dsimp only;rw [hkk];have hp:pre.length<3:=by omega
  obtain ⟨d2,d4,g4,d5,g5,dL,dR,d21,d22,d3⟩:=hI;generalize hm:pre.length=m at *;have b1:((k:Int)<0)=False:=by simp
  gi_wp2
  have hr:=World.cell?_setCell_same' W ⟨w.heap.size+1+1+1,0,none⟩ (.int .i64 ((m:Int)+1)) (by rw [d5];rfl);have ho:∀p:Addr,p≠⟨w.heap.size+1+1+1,0,none⟩->(W.setCell ⟨w.heap.size+1+1+1,0,none⟩ (.int .i64 ((m:Int)+1))).cell? p=W.cell? p:=λp hp=>World.cell?_setCell_other _ _ _ _ (Ne.symm hp)
  refine ⟨(KeepsOthers.setCell _ _ _).from _,ho _ (by simp),⟨(ho _ (by simp)).trans d2,(ho _ (by simp)).trans d4,(World.frozen?_setCell _ _ _ _).trans g4,?_,(World.frozen?_setCell _ _ _ _).trans g5,(ho _ (λh=>by injection h with h _ _;omega)).trans dL,(ho _ (λh=>by injection h with h _ _;omega)).trans dR,(ho _ (by simp)).trans d21,(ho _ (by simp)).trans d22,(ho _ (by simp)).trans d3⟩,hB.setCell (p:=⟨w.heap.size+1+1+1,0,none⟩) (by show w.heap.size<=w.heap.size+1+1+1;omega) _⟩
  rw [hr,Bc,hm];rfl
 case done=>
  rintro D ys W hD rfl ⟨⟨d2,d4,g4,d5,g5,dL,dR,d21,d22,d3⟩,hB⟩ hK;have hb:((L:Int) != (R:Int))=true:=by rw [bne_iff_ne];omega
  gi_wp2
  have hK2:=(KeepsOthers.setCell W ⟨w.heap.size+1+1,0,none⟩ (.bool true)).same D _ hK rfl;refine ⟨by simp,.inl ⟨_,_,rfl,run_takeDeferred hK2,?_⟩⟩
  have hr:=World.cell?_setCell_same' W ⟨w.heap.size+1+1,0,none⟩ (.bool true) (by rw [d4];rfl);have hr2:((W.setCell ⟨w.heap.size+1+1,0,none⟩ (.bool true)).putObj D (Obj.deferred none)).cell? ⟨w.heap.size+1+1,0,none⟩=some (.bool true):=cell_kept hr (grownBy_putObj' _ D (.deferred none)) (λr e=>by cases e;exact ⟨_,hK2,rfl⟩);refine ⟨.bool true,?_,rfl,?_⟩
  ·simp [results,Tryz.results326,go_sem,hr2]
  ·exact (hB.setCell (p:=⟨w.heap.size+1+1,0,none⟩) (by show w.heap.size<=w.heap.size+1+1;omega) _).trans (belowK_b (w:=w) (Nat.le_refl _) _ D _ _ (by simp at hD;omega) hK2 rfl rfl)
 case stop=>
  rintro D c pre W _ hf;exact λh=>h.elim
open Go.RowKit
theorem Px {F:Fence} {fu:Nat} {P:Program} {w:World} {ops:Array Oper} {rest:List Oper} {o:Oper} {a:Act} {Q:Exit->Act->World->Prop} (hgd:o.guard=none) (s x:Operand) (t:TypeId)
 (ho:o.op=.call { callee:=.builtin .append,args:=#[s,x],argTypes:=#[t,t] })
 (base:Nat) (e:TypeId) (i:TypeInfo) (z:Value) (size bytes:Nat) (ht:P.underlying t=some (.slice e)) (hi:P.info? e=some i) (hz:i.zero=some z)
 (hsize:i.size=size) (hby:i.bytes=bytes) (hzs:z.cells.size=size) (hsz:0<size)
 (v:Value) (n:Nat) (xs:List Value) (hs:a.eval s=v) (hown:w.ownsRow base e size v n xs)
 (vx:Value) (m:Nat) (news:List Value) (hx:a.eval x=vx) (EP:D5 w size vx m news) (h1:∀u∈news,u.oneCell'=true)
 (h63:n+m<=maxLen) (hbytes:(n+m)*bytes<=140737488355328) (hbase:base<=w.heap.size)
 (h:∀A C w',DK w w' base e size v n xs m news A C->wpListIn F fu P ops Q rest (a.put o.dst (.slice A (n+m) C)) w'):wpListIn F fu P ops Q (o::rest) a w:=by
 refine wpListIn_plain hgd λK hK'=>?_
 obtain ⟨A,C,w',hr,h2,h3,h4,h5⟩:=dX (P:=P) w base t o.type e i z size bytes ht hi hz hsize hby hzs hsz v n xs hown vx m news EP h1 h63 hbytes hbase;unfold Oper.wpIn;refine ⟨?_,?_⟩
 ·simp [Oper.about,ho,resolve,Target.leads,Sem.run_pure]
 ·rw [Oper.semAt_plain F _ _ (by rw [ho];intro c hc';cases hc')];simp [execOp,ho,resolve,invoke,builtin,hs,hx,hr,Result.andThen];exact hK' _ _ (h A C w' ⟨h2,h3,h4,h5⟩)
end
section
open Go.RowKit Go.Shelf
attribute [local go_sem] Oper.semAt_some
theorem Uw:(Tryz.prog.info? 4).map (λi=>(i.zero,i.size,i.bytes))=some (some (.bool false),1,1):=by kernel_rfl
def a2H (w:World) (base n:Nat) (v:Value) (xs:List Value) (W:World):Prop:=
 W.ownsRow base 4 1 v n xs/\W.cell? ⟨w.heap.size+1,0,none⟩=some v/\Bj (blk v) w W
theorem YQ {α:Type} (w:World) (base n:Nat) (v:Value) (hv:∀k∈blk v,k<w.heap.size) (f:α->List Value) (B:Nat) (hB:w.heap.size+1<B) :
 OwnFrom B (λ(pre:α) W=>a2H w base n v (f pre) W):=by
 rintro s W W' row ⟨h1,h2,h3⟩ hg hr;have hne:∀k,k<B->row≠some k:=λk hk e=>by have:=(hr k e).1;omega
 refine ⟨Ez h1 λk hk=>?_,?_,h3.grown hg λk e=>.inr ?_⟩
 ·have:=hv k hk;exact hg.block k (Bg this h3.size) (Ne.symm (hne k (by omega)))
 ·exact cell_kept h2 hg (λr e=>(hr r e).2)
 ·have:=(hr k e).1;omega
theorem uK (fr to at_ it:Int) (v:Value) (n:Nat) (xs:List Value) (base:Nat) (w:World) (hown:w.ownsRow base 4 1 v n xs) (hb:base<=w.heap.size) (hn:n<2 ^ 40) :
 Calls Tryz.prog 327 #[.agg #[.int .u8 1,.int .i64 (-1),.int .i64 (-1),fr,to,at_,it],v] w λe w'=>∃A C,e=.returned (.slice A (n+1) C)/\w'.ownsRow base 4 1 (.slice A (n+1) C) (n+1) (xs++[.bool false])/\Bj (blk v) w w'/\∀y∈blk (.slice A (n+1) C),y∈blk v\/w.heap.size<=y:=by
 obtain ⟨A0,C0,rfl⟩:=Iq (CV hown);have hv:=BJ hown;obtain ⟨i0,hi,hy0,hy1,hy2⟩:=info_parts Uw;refine (callsIn_wide (n:=5)).1 ?_
 refine callsIn_of_wp_marks Tryz.func327 rfl trivial ?_ rfl
 simp only [Tryz.ntmps327,List.size_toArray,List.length_cons,List.length_nil,Nat.reduceAdd,Nat.reduceSub,Array.replicate_succ,Array.replicate_zero,List.push_toArray,List.append_toArray,List.nil_append,List.cons_append];gi_wp2_with (refine ⟨trivial,?_⟩;gi_at_call 337;refine (callsIn_wide.2 (Nk _ _)).mono ?_;rintro e w' ⟨rfl,rfl⟩)
 generalize hW0:((w.alloc (Obj.cells #[Value.int .u8 1,Value.int .i64 (-1),Value.int .i64 (-1),Value.int .i64 fr,Value.int .i64 to,Value.int .i64 at_,Value.int .i64 it] 339)).alloc (Obj.cells #[Value.slice A0 n C0] 162))=W0;have hz0:W0.heap.size=w.heap.size+1+1:=by rw [<-hW0];simp
 have hu:Bj (blk (.slice A0 n C0)) w W0:=by rw [<-hW0];exact ((Bj.refl _ _).alloc _).alloc _
 have c3:W0.cell? ⟨w.heap.size+1,0,none⟩=some (.slice A0 n C0):=by rw [<-hW0,World.cell?_alloc_at _ _ _ _ (by simp)];rfl
 have ho:W0.ownsRow base 4 1 (.slice A0 n C0) n xs:=Ez hown λk hk=>by
  rw [<-hW0,Below.heap_alloc _ _ _ (by have:=hv k hk;simp;omega),Below.heap_alloc _ _ _ (hv k hk)]
 have hu0:Bj [] W0 (W0.alloc (Obj.cells #[Value.int .u8 1,Value.int .i64 (-1),Value.int .i64 (-1),Value.int .i64 fr,Value.int .i64 to,Value.int .i64 at_,Value.int .i64 it] 339)):=(Bj.refl _ _).alloc _;clear hW0
 refine wpIn_rangeFunc_ownG rfl (by omega) (gf:=346) (lb:=#[.pointer (some ⟨w.heap.size+1+1,0,none⟩)]) rfl trivial (enters_of Tryz.func346 (by kernel_rfl) rfl)
  (VY Fence.wide 4 trivial rfl (w.heap.size+1+1) _ (by simp;omega) (by rw [World.cell?_alloc_at _ _ _ _ hz0.symm];rfl) (by rw [World.cell?_alloc_at _ _ _ _ hz0.symm];rfl)) Sm (Sr (by simp;omega)) (Below.refl _ _) (λ_=>rfl)
  (λ(_:List Int) W=>a2H w base n (.slice A0 n C0) xs W)
  (λ_ _ _=>False)
  (YQ w base n _ hv (λ_=>xs) _ (by simp;omega))
  (λ_ _ _ _ _ hs _ _=>hs)
  ⟨Ez ho λk hk=>hu0.block k (by have:=hv k hk;omega) (by simp),(hu0.cell (p:=⟨w.heap.size+1,0,none⟩) (show w.heap.size+1<_ by omega) (by simp)).trans c3,hu.alloc _⟩
  (λx=>{ tmps:=#[.agg #[.int .u8 1,.int .i64 (-1),.int .i64 (-1),.int .i64 fr,.int .i64 to,.int .i64 at_,.int .i64 it],.slice A0 n C0,.pointer (some ⟨w.heap.size,0,none⟩),.pointer (some ⟨w.heap.size+1,0,none⟩),.slice none 0 0,.int .i64 x,.agg #[.int .u8 1,.int .i64 (-1),.int .i64 (-1),.int .i64 fr,.int .i64 to,.int .i64 at_,.int .i64 it],.func (.func 346) #[] #[.pointer (some ⟨w.heap.size+1+1,0,none⟩)],.int .i64 x,undef,undef,undef,undef,undef,undef],defers:=[] }) ?assign ?body ?done ?stop
 case assign=>
  intro l x W K hK;gi_wp2
  exact hK
 case body=>
  intro l pre x W _ hl;simp at hl
 case done=>
  rintro D ys W hD rfl ⟨d1,d2,d3⟩ hK;have hD2:w.heap.size+1<D:=by simp at hD;omega
  have hO:(W.alloc (.cells #[.bool false] 4)).ownsRow base 4 1 (.slice A0 n C0) n xs:=Ez d1 λk hk=>Below.heap_alloc _ _ _ (Bg (hv k hk) d3.size)
  have hS:D5 (W.alloc (.cells #[.bool false] 4)) 1 (.slice (some ⟨W.heap.size,0,none⟩) 1 1) 1 [.bool false]:=BK W #[.bool false] 4 1 1 rfl (by decide);have hM:n+1<=maxLen:=by unfold maxLen;omega
  have hZ:base<=(W.alloc (.cells #[.bool false] 4)).heap.size:=by have:=d3.size;simp;omega
  have h1:∀u∈[Value.bool false],u.oneCell'=true:=by simp [Value.oneCell']
  gi_wp2_with (gi_at_builtin;refine Px rfl _ _ 162 rfl base 4 i0 (.bool false) 1 1 Tryz.underlying162 hi hy0 hy1 hy2 rfl (by decide) _ n xs rfl hO _ 1 [.bool false] rfl hS h1 hM (by omega) hZ ?_;intro A C w1 HP)
  have hDW:D<W.heap.size:=(Array.getElem?_eq_some_iff.1 hK).1;have hDv:D∉blk (.slice A0 n C0):=λh=>by have:=hv D h;omega
  have hK2:w1.heap[D]? = some (.deferred (some [])):=(HP.upd.block D (by simp;omega) hDv).trans ((Below.heap_alloc _ _ _ hDW).trans hK);have hg:=grownBy_putObj' w1 D (.deferred none);have hU:Bj (blk (.slice A0 n C0)) w w1:=(d3.alloc _).trans HP.upd;refine ⟨by simp,.inl ⟨_,_,rfl,run_takeDeferred hK2,?_⟩⟩
  refine ⟨.slice A (n+1) C,?_,A,C,rfl,Ez HP.own λk hk=>?_,hU.grown hg (λk e=>.inr ?_),λy hy=>?_⟩
  ·simp [results,Tryz.results327,go_sem]
  ·refine World.putObj_heap_other λe=>?_
   rcases HP.at with h | h
   ·rw [h] at hk;have hk':=hv k hk;omega
   ·rw [h] at hk;simp at hk;omega
  ·cases e;omega
  ·rcases HP.at with h | h
   ·rw [h] at hy;exact .inl hy
   ·rw [h] at hy;have:=d3.size;simp at hy;exact .inr (by omega)
 case stop=>
  rintro D c pre W _ hf;exact hf.elim
end
section
open Go.RowKit Go.Shelf
attribute [local go_sem] Oper.semAt_some
def Kv (L R:Nat) (xs:List Value) (pre:List Bool):List Value:=pre.foldl (λs b=>s.set (cond b R L) (.bool true)) xs
theorem bP (L R:Nat) (xs:List Value) (pre:List Bool):(Kv L R xs pre).length=xs.length:=by
 unfold Kv;induction pre generalizing xs with
 |nil=>rfl
 |cons b p ih=>rw [List.foldl_cons,ih,List.length_set]
theorem YR (L R:Nat) (xs:List Value) (pre:List Bool) (b:Bool):Kv L R xs (pre++[b])=(Kv L R xs pre).set (cond b R L) (.bool true):=by simp [Kv]
theorem uM (L R n:Nat) (hL:L<n) (hR:R<n) (fr to at_ it:Int) (v:Value) (xs:List Value) (base:Nat) (w:World) (hown:w.ownsRow base 4 1 v n xs) (hn:n<2 ^ 40) :
 Calls Tryz.prog 327 #[.agg #[.int .u8 2,(L:Int),(R:Int),fr,to,at_,it],v] w λe w'=>∃A C,e=.returned (.slice A (n+1) C)/\w'.ownsRow base 4 1 (.slice A (n+1) C) (n+1) ((xs.set L (.bool true)).set R (.bool true)++[.bool false])/\Bj (blk v) w w'/\∀y∈blk (.slice A (n+1) C),y∈blk v\/w.heap.size<=y:=by
 obtain ⟨g,C0,rfl,_,a8U⟩:=World.ownsRow.form hown (by omega);have hxl:xs.length=n:=by have:=hown.1;simpa using this
 have hv:=BJ hown;obtain ⟨i0,hi,hy0,hy1,hy2⟩:=info_parts Uw;refine (callsIn_wide (n:=9)).1 ?_
 refine callsIn_of_wp_marks Tryz.func327 rfl trivial ?_ rfl
 simp only [Tryz.ntmps327,List.size_toArray,List.length_cons,List.length_nil,Nat.reduceAdd,Nat.reduceSub,Array.replicate_succ,Array.replicate_zero,List.push_toArray,List.append_toArray,List.nil_append,List.cons_append];gi_wp2_with (refine ⟨trivial,?_⟩;gi_at_call 337;refine (callsIn_wide.2 (Nk _ _)).mono ?_;rintro e w' ⟨rfl,rfl⟩)
 generalize hW0:((w.alloc (Obj.cells #[Value.int .u8 2,Value.int .i64 (L:Int),Value.int .i64 (R:Int),Value.int .i64 fr,Value.int .i64 to,Value.int .i64 at_,Value.int .i64 it] 339)).alloc (Obj.cells #[Value.slice (some ⟨g,0,none⟩) n C0] 162))=W0;have hz0:W0.heap.size=w.heap.size+1+1:=by rw [<-hW0];simp
 have hu:Bj (blk (.slice (some ⟨g,0,none⟩) n C0)) w W0:=by rw [<-hW0];exact ((Bj.refl _ _).alloc _).alloc _
 have c3:W0.cell? ⟨w.heap.size+1,0,none⟩=some (.slice (some ⟨g,0,none⟩) n C0):=by rw [<-hW0,World.cell?_alloc_at _ _ _ _ (by simp)];rfl
 have ho:W0.ownsRow base 4 1 (.slice (some ⟨g,0,none⟩) n C0) n xs:=Ez hown λk hk=>by
  rw [<-hW0,Below.heap_alloc _ _ _ (by have:=hv k hk;simp;omega),Below.heap_alloc _ _ _ (hv k hk)]
 have hu0:Bj [] W0 (W0.alloc (Obj.cells #[Value.int .u8 2,Value.int .i64 (L:Int),Value.int .i64 (R:Int),Value.int .i64 fr,Value.int .i64 to,Value.int .i64 at_,Value.int .i64 it] 339)):=(Bj.refl _ _).alloc _;clear hW0
 refine wpIn_rangeFunc_ownG rfl (by omega) (gf:=346) (lb:=#[.pointer (some ⟨w.heap.size+1+1,0,none⟩)]) rfl trivial (enters_of Tryz.func346 (by kernel_rfl) rfl)
  (VZ Fence.wide 8 trivial rfl (by omega) (w.heap.size+1+1) L R _ (by simp;omega) (by rw [World.cell?_alloc_at _ _ _ _ hz0.symm];rfl) (by rw [World.cell?_alloc_at _ _ _ _ hz0.symm];rfl)) Sm (Sr (by simp;omega)) (Below.refl _ _) (λ_=>rfl)
  (λ(pre:List Bool) W=>a2H w base n (.slice (some ⟨g,0,none⟩) n C0) (Kv L R xs pre) W)
  (λ_ _ _=>False)
  (YQ w base n _ hv (Kv L R xs) _ (by simp;omega))
  (λ_ _ _ _ _ hs _ _=>hs)
  ⟨Ez ho λk hk=>hu0.block k (by have:=hv k hk;omega) (by simp),(hu0.cell (p:=⟨w.heap.size+1,0,none⟩) (show w.heap.size+1<_ by omega) (by simp)).trans c3,hu.alloc _⟩
  (λx:Bool=>{ tmps:=#[.agg #[.int .u8 2,.int .i64 (L:Int),.int .i64 (R:Int),.int .i64 fr,.int .i64 to,.int .i64 at_,.int .i64 it],.slice (some ⟨g,0,none⟩) n C0,.pointer (some ⟨w.heap.size,0,none⟩),.pointer (some ⟨w.heap.size+1,0,none⟩),.slice none 0 0,.int .i64 ((cond x R L:Nat):Int),.agg #[.int .u8 2,.int .i64 (L:Int),.int .i64 (R:Int),.int .i64 fr,.int .i64 to,.int .i64 at_,.int .i64 it],.func (.func 346) #[] #[.pointer (some ⟨w.heap.size+1+1,0,none⟩)],.int .i64 ((cond x R L:Nat):Int),undef,undef,undef,undef,undef,undef],defers:=[] }) ?assign ?body ?done ?stop
 case assign=>
  intro l x W K hK;gi_wp2
  exact hK
 case body=>
  rintro l pre x W ⟨d1,d2,d3⟩ hl
  obtain ⟨k,hkk,hk⟩:∃k:Nat,cond x R L=k/\k<n:=by
   cases x
   ·exact ⟨L,rfl,hL⟩
   ·exact ⟨R,rfl,hR⟩
  rw [hkk];have hlen:(Kv L R xs pre).length=n:=by rw [bP];exact hxl
  have e1:W.cell? ⟨g,k,none⟩=some ((Kv L R xs pre)[k]'(by omega)):=by rw [World.ownsRow.cellAt d1 k (by omega)];exact Ba _
  have e2:=World.ownsRow.frozenAt d1 k;have hgv:g∈blk (.slice (some ⟨g,0,none⟩) n C0):=by simp [blk]
  have hgw:=hv g hgv;gi_wp2
  refine ⟨(KeepsOthers.setCell _ _ _).from _,World.cell?_setCell_other _ _ _ _ (λh=>by injection h with h _ _;omega),?_,(World.cell?_setCell_other _ _ _ _ (λh=>by injection h with h _ _;omega)).trans d2,d3.setCell (.inl hgv) _⟩
  rw [YR,hkk];exact (World.ownsRow.stored d1 k (.bool true)).1
 case done=>
  rintro D ys W hD rfl ⟨d1,d2,d3⟩ hK;have hD2:w.heap.size+1<D:=by simp at hD;omega
  have hO:(W.alloc (.cells #[.bool false] 4)).ownsRow base 4 1 (.slice (some ⟨g,0,none⟩) n C0) n ((xs.set L (.bool true)).set R (.bool true)):=Ez d1 λk hk=>Below.heap_alloc _ _ _ (Bg (hv k hk) d3.size)
  have hS:D5 (W.alloc (.cells #[.bool false] 4)) 1 (.slice (some ⟨W.heap.size,0,none⟩) 1 1) 1 [.bool false]:=BK W #[.bool false] 4 1 1 rfl (by decide);have hM:n+1<=maxLen:=by unfold maxLen;omega
  have hZ:base<=(W.alloc (.cells #[.bool false] 4)).heap.size:=by have:=d3.size;simp;omega
  have h1:∀u∈[Value.bool false],u.oneCell'=true:=by simp [Value.oneCell']
  gi_wp2_with (gi_at_builtin;refine Px rfl _ _ 162 rfl base 4 i0 (.bool false) 1 1 Tryz.underlying162 hi hy0 hy1 hy2 rfl (by decide) _ n _ rfl hO _ 1 [.bool false] rfl hS h1 hM (by omega) hZ ?_;intro A C w1 HP)
  have hDW:D<W.heap.size:=(Array.getElem?_eq_some_iff.1 hK).1;have hDv:D∉blk (.slice (some ⟨g,0,none⟩) n C0):=λh=>by have:=hv D h;omega
  have hK2:w1.heap[D]? = some (.deferred (some [])):=(HP.upd.block D (by simp;omega) hDv).trans ((Below.heap_alloc _ _ _ hDW).trans hK);have hg:=grownBy_putObj' w1 D (.deferred none);have hU:Bj (blk (.slice (some ⟨g,0,none⟩) n C0)) w w1:=(d3.alloc _).trans HP.upd;refine ⟨by simp,.inl ⟨_,_,rfl,run_takeDeferred hK2,?_⟩⟩
  refine ⟨.slice A (n+1) C,?_,A,C,rfl,Ez HP.own λk hk=>?_,hU.grown hg (λk e=>.inr ?_),λy hy=>?_⟩
  ·simp [results,Tryz.results327,go_sem]
  ·refine World.putObj_heap_other λe=>?_
   rcases HP.at with h | h
   ·rw [h] at hk;have hk':=hv k hk;omega
   ·rw [h] at hk;simp at hk;omega
  ·cases e;omega
  ·rcases HP.at with h | h
   ·rw [h] at hy;exact .inl hy
   ·rw [h] at hy;have:=d3.size;simp at hy;exact .inr (by omega)
 case stop=>
  rintro D c pre W _ hf;exact λh=>h.elim
