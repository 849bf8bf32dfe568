/- pool.Put: a node more. frame.lay: the nodes over some leaves are put. sync.Once, one goroutine: Do when it is not yet done; Do when it is done. (Turned from the guide's worked text on sync.Once.) frame: New, Root, the nodes that are made once. frame.Nodes: the nodes that are made once. -/
import Derived.Lib.Hide
import Derived.BigQuiet
import Derived.Deep.QuietTactic
import Derived.Deep.LoopGhost
import Derived.Deep.Light
import Derived.Deep.RegionHeld3
import Derived.Deep.DeepCutAuto
import Derived.Deep.CutBlock
import Derived.Deep.RegionLaw
import Derived.Deep.DrawnRows
import Derived.IntWalk
import Derived.Test.YtkbaaonchdeneaaGreatRows
import Derived.Tactics
import Derived.Tactics2
import Derived.Defers
import Derived.Laws.Pointers
import Derived.Laws.LoneSync
import Derived.RegionTactic
import Derived.RegionCalls
import Derived.ChangeAlike
import Derived.Laws.NewBlocks
import Derived.Test.YtkbaaonchdeneaaGreatPkSpansNoneP1
import Derived.Test.YtkbaaonchdeneaaGreatPk19
import Derived.Test.YtkbaaonchdeneaaGreatPkSpansTellP2
import Derived.Test.YtkbaaonchdeneaaGreatPkSpansTellP1
set_option maxHeartbeats 4000000
set_option maxRecDepth 100000
namespace Go.Proofs.YtkbaaonchdeneaaGreat
open Go.RowKit Go.Shelf
attribute [local go_sem ↓] Go.wp_at_zero Go.wp_at_succ
theorem PoolAt.put {w W w3 w4:World} {b:Nat} {most:Int} {vn vk:Value} {ns:List Nd} {ks ks':List Bool} (h:PoolAt w b most vn vk ns ks) (x:Nd) (hW:Upd [] w W) {A A':Option Addr} {C C':Nat} (HP:AppPost W w3 0 339 7 vn ns.length (KD.all ns) 1 (KD.enc x) A C)
 (hk:KB.row w4 0 (.slice A' (ks.length+1) C') (ks'++[false])) (hu:Upd (blk vk) w3 w4) (hb:∀y∈blk (.slice A' (ks.length+1) C'),y∈blk vk∨w3.heap.size≤y) (hl:ks'.length=ks.length) :
 PoolAt ((w4.setCell ⟨b,1,none⟩ (.slice A (ns.length+1) C)).setCell ⟨b,2,none⟩ (.slice A' (ks.length+1) C')) b most (.slice A (ns.length+1) C) (.slice A' (ks.length+1) C') (ns++[x]) (ks'++[false])∧
  Upd (b::(blk vn++blk vk)) w ((w4.setCell ⟨b,1,none⟩ (.slice A (ns.length+1) C)).setCell ⟨b,2,none⟩ (.slice A' (ks.length+1) C'))∧
  (∀y∈blk (.slice A (ns.length+1) C)++blk (.slice A' (ks.length+1) C'),y∈blk vn++blk vk∨w.heap.size≤y):=by
 have hbw:=lt_of_block h.head
 have hvn:=own_lt h.nodes
 have hvk:=own_lt h.kids
 have hu1:Upd (blk vn) w w3:=(hW.mono (by simp)).trans HP.upd
 have hu2:Upd (blk vn++blk vk) w w4:=(hu1.mono (by simp;intro x hx;exact .inl (.inl hx))).trans (hu.mono (by simp;intro x hx;exact .inl (.inr hx)))
 have hs1:=hW.size
 have hs2:=HP.upd.size
 have hs3:=hu.size
 have hnew:∀y∈blk (.slice A (ns.length+1) C),y∈blk vn∨y=W.heap.size:=fun y hy=>by
  rcases HP.at with g | g
  ·rw [g] at hy;exact .inl hy
  ·rw [g] at hy;simp at hy;exact .inr hy
 have hWlt:∀y∈blk (.slice A (ns.length+1) C),y<w3.heap.size:=own_lt HP.own
 have hbn:b∉blk (.slice A (ns.length+1) C):=fun hc=>by
  rcases hnew b hc with g | g
  ·exact h.bn g
  ·omega
 have hbk:b∉blk (.slice A' (ks.length+1) C'):=fun hc=>by
  rcases hb b hc with g | g
  ·exact h.bk g
  ·omega
 have hnk:∀y∈blk (.slice A (ns.length+1) C),y∉blk (.slice A' (ks.length+1) C'):=fun y hy hc=>by
  have g3:=hWlt y hy
  rcases hb y hc with g | g
  ·rcases hnew y hy with g2 | g2
   ·exact h.nk y g2 g
   ·have:=hvk y g;omega
  ·omega
 have hhead:w4.heap[b]? = some (.cells #[.int .i64 most,vn,vk,.bool true] 375 (0,0)):=(hu2.block b hbw (by simp [h.bn,h.bk])).trans h.head
 refine ⟨⟨?_,?_,?_,by simp [hl,h.len],hbn,hbk,hnk⟩,?_,fun y hy=>?_⟩
 ·exact heap_set (heap_set hhead 1 _) 2 _
 ·refine row_set_other (row_set_other ?_ hbn _) hbn _
  have e:KD.all (ns++[x])=KD.all ns++KD.enc x:=by rw [Kind.all_app];simp [Kind.all]
  rw [e,List.length_append]
  refine own_upd HP.own hu fun y hy hc=>?_
  rcases hnew y hy with g2 | g2
  ·exact h.nk y g2 hc
  ·have:=hvk y hc;omega
 ·have hl2:(ks'++[false]).length=ks.length+1:=by simp [hl]
  have hk':=hk
  unfold Kind.row at hk' ⊢
  exact row_set_other (row_set_other hk' hbk _) hbk _
 ·have h4:Upd (b::(blk vn++blk vk)) w w4:=hu2.mono (by simp;intro x hx;rcases hx with hx | hx<;>simp [hx])
  exact (h4.setCell (.inl (by simp)) _).setCell (.inl (by simp)) _
 ·rcases List.mem_append.1 hy with hy | hy
  ·rcases hnew y hy with g | g
   ·exact .inl (by simp [g])
   ·exact .inr (by omega)
  ·rcases hb y hy with g | g
   ·exact .inl (by simp [g])
   ·exact .inr (by omega)
theorem box_upd {F:List Nat} {w w':World} {h b:Nat} {x0 x1 x2 x3 x4 x5 x6 y1 y2:Value} (hc:w.cell? ⟨h,0,none⟩=some x0∧w.cell? ⟨h,1,none⟩=some x1∧w.cell? ⟨h,2,none⟩=some x2∧w.cell? ⟨h,3,none⟩=some x3∧w.cell? ⟨h,4,none⟩=some x4∧w.cell? ⟨h,5,none⟩=some x5∧w.cell? ⟨h,6,none⟩=some x6∧w.cell? ⟨b,1,none⟩=some y1∧w.cell? ⟨b,2,none⟩=some y2)
 (hu:Upd F w w') (hh:h<w.heap.size) (hb:b<w.heap.size) (hf:h∉F) (hg:b∉F):w'.cell? ⟨h,0,none⟩=some x0∧w'.cell? ⟨h,1,none⟩=some x1∧w'.cell? ⟨h,2,none⟩=some x2∧w'.cell? ⟨h,3,none⟩=some x3∧w'.cell? ⟨h,4,none⟩=some x4∧w'.cell? ⟨h,5,none⟩=some x5∧w'.cell? ⟨h,6,none⟩=some x6∧w'.cell? ⟨b,1,none⟩=some y1∧w'.cell? ⟨b,2,none⟩=some y2:=by
 obtain ⟨a0,a1,a2,a3,a4,a5,a6,b1,b2⟩:=hc
 exact ⟨(hu.cell (p:=⟨h,0,none⟩) hh hf).trans a0,(hu.cell (p:=⟨h,1,none⟩) hh hf).trans a1,(hu.cell (p:=⟨h,2,none⟩) hh hf).trans a2,(hu.cell (p:=⟨h,3,none⟩) hh hf).trans a3,(hu.cell (p:=⟨h,4,none⟩) hh hf).trans a4,(hu.cell (p:=⟨h,5,none⟩) hh hf).trans a5,(hu.cell (p:=⟨h,6,none⟩) hh hf).trans a6,(hu.cell (p:=⟨b,1,none⟩) hb hg).trans b1,(hu.cell (p:=⟨b,2,none⟩) hb hg).trans b2⟩
theorem info_nd:(Tryz.prog.info? 339).map (fun i=>(i.zero,i.size,i.bytes))=some (some (.agg #[.int .u8 0,.int .i64 0,.int .i64 0,.int .i64 0,.int .i64 0,.int .i64 0,.int .i64 0]),7,56):=by kernel_rfl
theorem ret_pair {a b:Int} {v:Value} (h:a=b):Ending.returned (.tuple #[.int .i64 a,v])=.returned (.tuple #[.int .i64 b,v]):=by rw [h]
def PutPost (w:World) (b:Nat) (most:Int) (vn vk:Value) (ns:List Nd) (ks:List Bool) (n:Nat) (e:Ending) (w':World):Prop:=
 e=.returned (.tuple #[.int .i64 (n:Int),.int .i64 0])∧∃vn' vk',PoolAt w' b most vn' vk' ns ks∧Upd (b::(blk vn++blk vk)) w w'∧(∀y∈blk vn'++blk vk',y∈blk vn++blk vk∨w.heap.size≤y)
theorem poolPut (x:Nd) (b:Nat) (most:Nat) (vn vk:Value) (ns:List Nd) (ks ks':List Bool) (w:World) (h:PoolAt w b most vn vk ns ks) (hm:MayPut x ks ks') (hl:ks'.length=ks.length) (hlen:ns.length<most) (hb:ns.length<1000000) :
 Calls Tryz.prog 304 #[.pointer (some ⟨b,0,none⟩),ndV x] w (PutPost w b most vn vk (ns++[x]) (ks'++[false]) ns.length):=by
 obtain ⟨xk,xl,xr,xf,xt,xa,xi⟩:=x
 obtain ⟨An,Cn,rfl⟩:=own_form h.nodes
 obtain ⟨Ak,Ck,rfl⟩:=own_form h.kids
 have hbw:=lt_of_block h.head
 have c0:w.cell? ⟨b,0,none⟩=some (.int .i64 most):=by simp [World.cell?,h.head]
 have c1:w.cell? ⟨b,1,none⟩=some (.slice An ns.length Cn):=by simp [World.cell?,h.head]
 have c2:w.cell? ⟨b,2,none⟩=some (.slice Ak ks.length Ck):=by simp [World.cell?,h.head]
 have c3:w.cell? ⟨b,3,none⟩=some (.bool true):=by simp [World.cell?,h.head]
 have HLE:=Lib.hid h.len
 have H:=Lib.hid h
 have HM:=Lib.hid hm
 have HL:=Lib.hid hl
 clear h hm hl
 unfold ndV at *
 dsimp only at *
 go_enter Tryz.func304,Tryz.ntmps304
 go_upto_region 3 with fail
 generalize hW0:w.alloc (Obj.cells #[Value.int .u8 xk,Value.int .i64 xl,Value.int .i64 xr,Value.int .i64 xf,Value.int .i64 xt,Value.int .i64 xa,Value.int .i64 xi] 339)=W0
 have hz0:W0.heap.size=w.heap.size+1:=by rw [←hW0];simp
 have hu0:Upd [] w W0:=by rw [←hW0];exact (Upd.refl _ _).alloc _
 have hd:∀i v,(#[Value.int .u8 xk,Value.int .i64 xl,Value.int .i64 xr,Value.int .i64 xf,Value.int .i64 xt,Value.int .i64 xa,Value.int .i64 xi]:Array Value)[i]? = some v→W0.cell? ⟨w.heap.size,i,none⟩=some v:=fun i v hv=>by rw [←hW0,World.cell?_alloc_at _ _ _ _ rfl];exact hv
 have d0:=hd 0 _ rfl
 have d1:=hd 1 _ rfl
 have d2:=hd 2 _ rfl
 have d3:=hd 3 _ rfl
 have d4:=hd 4 _ rfl
 have d5:=hd 5 _ rfl
 have d6:=hd 6 _ rfl
 have e2:=(hu0.cell (p:=⟨b,2,none⟩) hbw (by simp)).trans c2
 have hk0:KB.row W0 0 (.slice Ak ks.length Ck) ks:=own_upd H.out.kids hu0 (by simp)
 have HK0:=Lib.hid hk0
 have HC:=Lib.hid (And.intro c0 (And.intro c1 c2))
 clear hW0 hd hk0 c0 c1 c2 c3
 have hc0:Calls Tryz.prog 326 #[.agg #[Value.int .u8 xk,Value.int .i64 xl,Value.int .i64 xr,Value.int .i64 xf,Value.int .i64 xt,Value.int .i64 xa,Value.int .i64 xi],.slice Ak ks.length Ck] W0.drew fun e w'=>e=.returned (.bool true)∧Below W0.drew.heap.size W0.drew w':=HM.out.may _ _ (owns_drew HK0.out)
 have HC0:=Lib.hid hc0
 clear hc0
 go_region_held3 (fun w'=>w'.cell? ⟨b,2,none⟩=some (.slice Ak ks.length Ck)∧w'.cell? ⟨w.heap.size,0,none⟩=some (.int .u8 xk)∧w'.cell? ⟨w.heap.size,1,none⟩=some (.int .i64 xl)∧w'.cell? ⟨w.heap.size,2,none⟩=some (.int .i64 xr)∧w'.cell? ⟨w.heap.size,3,none⟩=some (.int .i64 xf)∧w'.cell? ⟨w.heap.size,4,none⟩=some (.int .i64 xt)∧w'.cell? ⟨w.heap.size,5,none⟩=some (.int .i64 xa)∧w'.cell? ⟨w.heap.size,6,none⟩=some (.int .i64 xi))
  (first
   |(exact ⟨e2,d0,d1,d2,d3,d4,d5,d6⟩)
   |(exact ⟨(g1.cell (p:=⟨b,2,none⟩) (show b<W0.heap.size by omega)).trans e2,(g1.cell (p:=⟨w.heap.size,0,none⟩) (show w.heap.size<W0.heap.size by omega)).trans d0,(g1.cell (p:=⟨w.heap.size,1,none⟩) (show w.heap.size<W0.heap.size by omega)).trans d1,(g1.cell (p:=⟨w.heap.size,2,none⟩) (show w.heap.size<W0.heap.size by omega)).trans d2,(g1.cell (p:=⟨w.heap.size,3,none⟩) (show w.heap.size<W0.heap.size by omega)).trans d3,(g1.cell (p:=⟨w.heap.size,4,none⟩) (show w.heap.size<W0.heap.size by omega)).trans d4,(g1.cell (p:=⟨w.heap.size,5,none⟩) (show w.heap.size<W0.heap.size by omega)).trans d5,(g1.cell (p:=⟨w.heap.size,6,none⟩) (show w.heap.size<W0.heap.size by omega)).trans d6⟩))
  ((go_at_call 326;(with_reducible refine HC0.out.mono ?_);rintro e w1 ⟨rfl,g1⟩))
 have hu1:Upd [] w w1:=hu0.drew.trans (Upd.of_below g1)
 have k0:w1.cell? ⟨b,0,none⟩=some (.int .i64 most):=(hu1.cell (p:=⟨b,0,none⟩) hbw (by simp)).trans HC.out.1
 have k1:w1.cell? ⟨b,1,none⟩=some (.slice An ns.length Cn):=(hu1.cell (p:=⟨b,1,none⟩) hbw (by simp)).trans HC.out.2.1
 have hbx:∀i v,W0.cell? ⟨w.heap.size,i,none⟩=some v→w1.cell? ⟨w.heap.size,i,none⟩=some v:=fun i v h=>(g1.cell (p:=⟨w.heap.size,i,none⟩) (show w.heap.size<W0.heap.size by omega)).trans h
 have HBX:=Lib.hid (And.intro (hbx 0 _ d0) (And.intro (hbx 1 _ d1) (And.intro (hbx 2 _ d2) (And.intro (hbx 3 _ d3) (And.intro (hbx 4 _ d4) (And.intro (hbx 5 _ d5) (hbx 6 _ d6)))))))
 have hb1:w.heap.size<w1.heap.size:=by have:=g1.size;simp at this;omega
 clear hbx d0 d1 d2 d3 d4 d5 d6 e2 HC0 HK0
 go_upto_region 5 with fail
 go_quiet (fail)
 go_upto_region 7 with fail
 obtain ⟨i0,hi,hy0,hy1,hy2⟩:=info_parts info_nd
 have hu2:Upd [] w (w1.drewN nq):=hu1.drewN nq
 have hb2:w.heap.size<(w1.drewN nq).heap.size:=hb1
 have HBX2:Hid _:=Lib.hid (show (w1.drewN nq).cell? ⟨w.heap.size,0,none⟩=some (.int .u8 xk)∧(w1.drewN nq).cell? ⟨w.heap.size,1,none⟩=some (.int .i64 xl)∧(w1.drewN nq).cell? ⟨w.heap.size,2,none⟩=some (.int .i64 xr)∧(w1.drewN nq).cell? ⟨w.heap.size,3,none⟩=some (.int .i64 xf)∧(w1.drewN nq).cell? ⟨w.heap.size,4,none⟩=some (.int .i64 xt)∧(w1.drewN nq).cell? ⟨w.heap.size,5,none⟩=some (.int .i64 xa)∧(w1.drewN nq).cell? ⟨w.heap.size,6,none⟩=some (.int .i64 xi) from HBX.out)
 generalize w1.drewN nq=w2 at hu2 hb2 HBX2 ⊢
 have m1:w2.cell? ⟨b,1,none⟩=some (.slice An ns.length Cn):=(hu2.cell (p:=⟨b,1,none⟩) hbw (by simp)).trans HC.out.2.1
 have m2:w2.cell? ⟨b,2,none⟩=some (.slice Ak ks.length Ck):=(hu2.cell (p:=⟨b,2,none⟩) hbw (by simp)).trans HC.out.2.2
 obtain ⟨n0,n1,n2,n3,n4,n5,n6⟩:=HBX2.out
 have HS2:=Lib.hid (And.intro n0 (And.intro n1 (And.intro n2 (And.intro n3 (And.intro n4 (And.intro n5 (And.intro n6 (And.intro m1 m2))))))))
 have hbw2:b<w2.heap.size:=Nat.lt_of_lt_of_le hbw hu2.size
 have hn2:KD.row w2 0 (.slice An ns.length Cn) ns:=own_upd H.out.nodes hu2 (by simp)
 have HN2:=Lib.hid hn2
 have HU2:=Lib.hid hu2
 have HBN:=Lib.hid (show b∉blk (.slice An ns.length Cn) from H.out.bn)
 have HBK:=Lib.hid (show b∉blk (.slice Ak ks.length Ck) from H.out.bk)
 have HWN:=Lib.hid (show w.heap.size∉blk (.slice An ns.length Cn) from fun hc=>Nat.lt_irrefl _ (own_lt H.out.nodes _ hc))
 clear hn2 hu2 k0 k1 HBX HBX2 m1 m2 n0 n1 n2 n3 n4 n5 n6
 refine GoT.start [14,15,16,17,18,19,20] (fun w'=>w'.cell? ⟨w.heap.size,0,none⟩=some (.int .u8 xk)∧w'.cell? ⟨w.heap.size,1,none⟩=some (.int .i64 xl)∧w'.cell? ⟨w.heap.size,2,none⟩=some (.int .i64 xr)∧w'.cell? ⟨w.heap.size,3,none⟩=some (.int .i64 xf)∧w'.cell? ⟨w.heap.size,4,none⟩=some (.int .i64 xt)∧w'.cell? ⟨w.heap.size,5,none⟩=some (.int .i64 xa)∧w'.cell? ⟨w.heap.size,6,none⟩=some (.int .i64 xi)∧w'.cell? ⟨b,1,none⟩=some (.slice An ns.length Cn)∧w'.cell? ⟨b,2,none⟩=some (.slice Ak ks.length Ck)) (by kernel_rfl) ?_ fun hS=>?_
 ·exact HS2.out
 refine' GoT.mv (i:=0) (oi:=⟨some 35,_,_,_,_,_⟩) rfl (by rfl) ?y7_0 ?_
 case y7_0=>intro w;go_simp<;>with_reducible rfl
 simp only [Act.put,sA,sZ,sS]
 refine' GoT.mv (i:=1) (oi:=⟨some 36,_,_,_,_,_⟩) rfl (by rfl) ?y7_1 ?_
 case y7_1=>intro w;go_simp<;>with_reducible rfl
 simp only [Act.put,sA,sZ,sS]
 refine' GoT.mv (i:=2) (oi:=⟨some 37,_,_,_,_,_⟩) rfl (by rfl) ?y7_2 ?_
 case y7_2=>intro w;go_simp<;>with_reducible rfl
 simp only [Act.put,sA,sZ,sS]
 refine' GoT.mv (i:=3) (oi:=⟨some 38,_,_,_,_,_⟩) rfl (by rfl) ?y7_3 ?_
 case y7_3=>intro w;go_simp<;>with_reducible rfl
 simp only [Act.put,sA,sZ,sS]
 refine' GoT.mv (i:=4) (oi:=⟨some 39,_,_,_,_,_⟩) rfl (by rfl) ?y7_4 ?_
 case y7_4=>intro w;go_simp<;>with_reducible rfl
 simp only [Act.put,sA,sZ,sS]
 refine' GoT.tk 3 (i:=5) (oi:=⟨some 40,_,_,_,_,_⟩) rfl (by rfl) ?y7_5 ?_
 case y7_5=>intro w hSw;go_simp<;>with_reducible rfl
 simp only [Act.put,sA,sZ,sS]
 refine' GoT.tk 3 (i:=6) (oi:=⟨some 41,_,_,_,_,_⟩) rfl (by rfl) ?y7_6 ?_
 case y7_6=>intro w hSw;go_simp<;>with_reducible rfl
 simp only [Act.put,sA,sZ,sS]
 refine' GoT.tk 3 (i:=9) (oi:=⟨some 44,_,_,_,_,_⟩) rfl (by rfl) ?y7_9 ?_
 case y7_9=>intro w hSw;go_simp<;>with_reducible rfl
 simp only [Act.put,sA,sZ,sS]
 refine' GoT.mv (i:=10) (oi:=⟨some 45,_,_,_,_,_⟩) rfl (by rfl) ?y7_10 ?_
 case y7_10=>intro w;go_simp<;>with_reducible rfl
 simp only [Act.put,sA,sZ,sS]
 refine' GoT.mv (i:=11) (oi:=⟨some 46,_,_,_,_,_⟩) rfl (by rfl) ?y7_11 ?_
 case y7_11=>intro w;go_simp<;>with_reducible rfl
 simp only [Act.put,sA,sZ,sS]
 refine' GoT.mv (i:=12) (oi:=⟨some 47,_,_,_,_,_⟩) rfl (by rfl) ?y7_12 ?_
 case y7_12=>intro w;go_simp<;>with_reducible rfl
 simp only [Act.put,sA,sZ,sS]
 refine' GoT.tk 3 (i:=13) (oi:=⟨some 48,_,_,_,_,_⟩) rfl (by rfl) ?y7_13 ?_
 case y7_13=>intro w hSw;go_simp<;>with_reducible rfl
 simp only [Act.put,sA,sZ,sS]
 refine GoT.one (i:=7) (o:=⟨some 42,_,_,_,_,_⟩) rfl (by kernel_rfl) fun K hK=>?_
 go_simp
 refine hK.out _ _ (fun _ h=>?_) ?_
 ·exact box_upd h ((Upd.refl [] _).alloc _) (by simp;omega) (by simp;omega) (by simp) (by simp)
 clear hK K
 try simp only [Act.put,sA,sZ,sS]
 refine GoT.one (i:=8) (o:=⟨some 43,_,_,_,_,_⟩) rfl (by kernel_rfl) fun K hK=>?_
 refine step_app _ (by rfl) _ _ 224 (by rfl) 0 339 i0 (.agg #[.int .u8 0,.int .i64 0,.int .i64 0,.int .i64 0,.int .i64 0,.int .i64 0,.int .i64 0]) 7 56 Tryz.underlying224 hi hy0 hy1 hy2 rfl (by decide) _ ns.length (KD.all ns) (by rfl) (owns_drew (own_upd HN2.out ((Upd.refl [] w2).alloc (.cells #[.int .u8 xk,.int .i64 xl,.int .i64 xr,.int .i64 xf,.int .i64 xt,.int .i64 xa,.int .i64 xi] 339)) (by simp))) _ 1 [.int .u8 xk,.int .i64 xl,.int .i64 xr,.int .i64 xf,.int .i64 xt,.int .i64 xa,.int .i64 xi] (by rfl) (sees_lit w2 #[.int .u8 xk,.int .i64 xl,.int .i64 xr,.int .i64 xf,.int .i64 xt,.int .i64 xa,.int .i64 xi] 339 7 1 rfl (by decide)).drew (by simp [Value.oneCell']) (by unfold maxLen;omega) (by omega) (Nat.zero_le _) ?_
 intro A C w3 HP
 refine hK.out _ _ (fun _ h=>?_) ?_
 ·exact box_upd h HP.upd (by simp;omega) (by simp;omega) HWN.out HBN.out
 clear hK K
 try simp only [Act.put,sA,sZ,sS]
 refine GoT.one (i:=14) (o:=⟨some 49,_,_,_,_,_⟩) rfl (by kernel_rfl) fun K hK=>?_
 have hk3:KB.row w3 0 (.slice Ak ks.length Ck) ks:=own_upd (own_upd (own_upd H.out.kids HU2.out (by simp)) (((Upd.refl [] w2).alloc _).drew) (by simp)) HP.upd (fun y hy hc=>H.out.nk y hc hy)
 have hc4:Calls Tryz.prog 327 #[.agg #[.int .u8 xk,.int .i64 xl,.int .i64 xr,.int .i64 xf,.int .i64 xt,.int .i64 xa,.int .i64 xi],.slice Ak ks.length Ck] w3 fun e w'=>∃A C,e=.returned (.slice A (ks.length+1) C)∧KB.row w' 0 (.slice A (ks.length+1) C) (ks'++[false])∧Upd (blk (.slice Ak ks.length Ck)) w3 w'∧∀y∈blk (.slice A (ks.length+1) C),y∈blk (.slice Ak ks.length Ck)∨w3.heap.size≤y:=HM.out.put _ _ hk3
 have HC4:=Lib.hid hc4
 clear hc4 hk3
 go_simp
 go_at_call 327
 (with_reducible refine HC4.out.mono ?_)
 rintro e w4 ⟨A2,C2,rfl,g2,g3,g4⟩
 have ha4:Upd [] w (w2.alloc (.cells #[.int .u8 xk,.int .i64 xl,.int .i64 xr,.int .i64 xf,.int .i64 xt,.int .i64 xa,.int .i64 xi] 339)).drew:=(HU2.out.alloc _).drew
 have hu4:Upd (blk (.slice An ns.length Cn)++blk (.slice Ak ks.length Ck)) w w4:=((ha4.mono (by simp)).trans (HP.upd.mono fun x hx=>.inl (List.mem_append_left _ hx))).trans (g3.mono fun x hx=>.inl (List.mem_append_right _ hx))
 have hbno:b∉blk (.slice An ns.length Cn)++blk (.slice Ak ks.length Ck):=by simp [HBN.out,HBK.out]
 have hh4:w4.heap[b]? = some (.cells #[.int .i64 most,.slice An ns.length Cn,.slice Ak ks.length Ck,.bool true] 375 (0,0)):=(hu4.block b hbw hbno).trans H.out.head
 have e41:w4.cell? ⟨b,1,none⟩=some (.slice An ns.length Cn):=by simp [World.cell?,hh4]
 have e42:w4.cell? ⟨b,2,none⟩=some (.slice Ak ks.length Ck):=by simp [World.cell?,hh4]
 have f41:w4.frozen? ⟨b,1,none⟩=false:=by simp [World.frozen?,hh4]
 have f42:w4.frozen? ⟨b,2,none⟩=false:=by simp [World.frozen?,hh4]
 have HG2:=Lib.hid g2
 have HG3:=Lib.hid g3
 have HG4:=Lib.hid g4
 have HU4:=Lib.hid hu4
 have HPP:=Lib.hid HP
 have HA4:=Lib.hid ha4
 clear g2 g3 g4 hu4 hbno hh4 HP ha4
 refine hK.out _ _ (fun h=>(by cases h)) ?_
 clear hK K
 try simp only [Act.put,sA,sZ,sS]
 refine' GoT.mv (i:=15) (oi:=⟨some 50,_,_,_,_,_⟩) rfl (by rfl) ?y7_15 ?_
 case y7_15=>intro w;go_simp<;>with_reducible rfl
 simp only [Act.put,sA,sZ,sS]
 refine' GoT.mv (i:=16) (oi:=⟨some 51,_,_,_,_,_⟩) rfl (by rfl) ?y7_16 ?_
 case y7_16=>intro w;go_simp<;>with_reducible rfl
 simp only [Act.put,sA,sZ,sS]
 refine GoT.one (i:=17) (o:=⟨none,_,_,_,_,_⟩) rfl (by kernel_rfl) fun K hK=>?_
 go_simp
 refine hK.out _ _ (fun h=>(by cases h)) ?_
 clear hK K
 try simp only [Act.put,sA,sZ,sS]
 refine' GoT.mv (i:=18) (oi:=⟨some 52,_,_,_,_,_⟩) rfl (by rfl) ?y7_18 ?_
 case y7_18=>intro w;go_simp<;>with_reducible rfl
 simp only [Act.put,sA,sZ,sS]
 refine' GoT.mv (i:=19) (oi:=⟨some 53,_,_,_,_,_⟩) rfl (by rfl) ?y7_19 ?_
 case y7_19=>intro w;go_simp<;>with_reducible rfl
 simp only [Act.put,sA,sZ,sS]
 refine GoT.one (i:=20) (o:=⟨none,_,_,_,_,_⟩) rfl (by kernel_rfl) fun K hK=>?_
 go_simp
 refine hK.out _ _ (fun h=>(by cases h)) ?_
 clear hK K
 try simp only [Act.put,sA,sZ,sS]
 refine GoT.done (by kernel_rfl) ?_
 go_wp2_with fail
 go_ret2
 obtain ⟨r1,r2,r3⟩:=H.out.put ⟨xk,xl,xr,xf,xt,xa,xi⟩ HA4.out HPP.out HG2.out HG3.out HG4.out HL.out
 exact ⟨ret_pair (by omega),_,_,r1,r2,r3⟩
end Go.Proofs.YtkbaaonchdeneaaGreat
namespace Go.Proofs.YtkbaaonchdeneaaGreat
open Go.RowKit Go.Shelf
attribute [local go_sem ↓] Go.wp_at_zero Go.wp_at_succ
def ndG (f t at_:Nat):Nd:=if f+1<t then ⟨2,((at_ - 2*(t - mid f t):Nat):Int),((at_ - 1:Nat):Int),f,t,0,0⟩ else ⟨1,-1,-1,f,t,0,f⟩
def nodesL (f t o:Nat):List Nd:=postL (fun f t _ _ at_=>ndG f t at_) f t 0 0 o
theorem postL_par {α:Type} (g:Nat→Nat→Nat→α):∀(d f t pf pt pf' pt' o:Nat),t - f≤d→f<t→postL (fun f t _ _ a=>g f t a) f t pf pt o=postL (fun f t _ _ a=>g f t a) f t pf' pt' o:=by
 intro d f t pf pt pf' pt' o hd hf
 by_cases h:f+1<t
 ·rw [postL_node _ pf pt o h,postL_node _ pf' pt' o h]
 ·rw [postL_leaf _ pf pt o h,postL_leaf _ pf' pt' o h]
theorem nodesL_node {f t:Nat} (o:Nat) (h:f+1<t):nodesL f t o=nodesL f (mid f t) o++(nodesL (mid f t) t (o+2*(mid f t - f) - 1)++[⟨2,((o+2*(mid f t - f) - 2:Nat):Int),((o+2*(mid f t - f) - 1+2*(t - mid f t) - 2:Nat):Int),f,t,0,0⟩]):=by
 have hm:=mid_in h
 unfold nodesL
 rw [postL_node _ 0 0 o h,postL_par (fun f t a=>ndG f t a) (t - f) f (mid f t) f t 0 0 o (by omega) (by omega),postL_par (fun f t a=>ndG f t a) (t - f) (mid f t) t f t 0 0 _ (by omega) (by omega)]
 have e:o+2*(t - f) - 2 - 2*(t - mid f t)=o+2*(mid f t - f) - 2:=by omega
 have e':o+2*(t - f) - 2 - 1=o+2*(mid f t - f) - 1+2*(t - mid f t) - 2:=by omega
 have e2:ndG f t (o+2*(t - f) - 2)=⟨2,((o+2*(mid f t - f) - 2:Nat):Int),((o+2*(mid f t - f) - 1+2*(t - mid f t) - 2:Nat):Int),f,t,0,0⟩:=by
  unfold ndG
  rw [if_pos h,e,e']
 rw [e2]
theorem nodesL_leaf {f t:Nat} (o:Nat) (h:¬f+1<t):nodesL f t o = [⟨1,-1,-1,f,t,0,f⟩]:=by
 unfold nodesL
 rw [postL_leaf _ 0 0 o h]
 unfold ndG
 rw [if_neg h]
theorem nodesL_length {f t:Nat} (o:Nat) (h:f<t):(nodesL f t o).length=2*(t - f) - 1:=postL_length _ 0 0 o h
theorem PoolAt.lt {w:World} {b:Nat} {most:Int} {vn vk:Value} {ns:List Nd} {ks:List Bool} (h:PoolAt w b most vn vk ns ks):∀y∈b::(blk vn++blk vk),y<w.heap.size:=by
 intro y hy
 rcases List.mem_cons.1 hy with rfl | hy
 ·exact lt_of_block h.head
 ·rcases List.mem_append.1 hy with hy | hy
  ·exact own_lt h.nodes y hy
  ·exact own_lt h.kids y hy
theorem PoolAt.upd {w w':World} {b:Nat} {most:Int} {vn vk:Value} {ns:List Nd} {ks:List Bool} (h:PoolAt w b most vn vk ns ks) {F:List Nat} (hu:Upd F w w') (hd:∀y∈b::(blk vn++blk vk),y∉F):PoolAt w' b most vn vk ns ks:=
 ⟨(hu.block b (lt_of_block h.head) (hd b (by simp))).trans h.head,own_upd h.nodes hu (fun y hy=>hd y (by simp [hy])),own_upd h.kids hu (fun y hy=>hd y (by simp [hy])),h.len,h.bn,h.bk,h.nk⟩
def LayPost (w:World) (b:Nat) (most:Int) (vn vk:Value) (ns:List Nd) (ks:List Bool) (n:Nat) (e:Ending) (w':World):Prop:=
 e=.returned (.int .i64 (n:Int))∧∃vn' vk',PoolAt w' b most vn' vk' ns ks∧Upd (b::(blk vn++blk vk)) w w'∧(∀y∈blk vn'++blk vk',y∈blk vn++blk vk∨w.heap.size≤y)
theorem kids_set (ks:List Bool) (a b:Nat):(((ks++(List.replicate a true++[false]))++(List.replicate b true++[false])).set (ks.length+a) true).set (ks.length+a+1+b) true=ks++List.replicate (a+1+b+1) true:=by
 apply List.ext_getElem?
 intro i
 rw [List.getElem?_set,List.getElem?_set]
 simp only [List.length_set,List.length_append,List.length_replicate,List.length_singleton]
 by_cases h1:ks.length+a+1+b=i
 ·rw [if_pos h1,if_pos (by omega),List.getElem?_append_right (by omega),List.getElem?_replicate,if_pos (by omega)]
 ·rw [if_neg h1]
  by_cases h2:ks.length+a=i
  ·rw [if_pos h2,if_pos (by omega),List.getElem?_append_right (by omega),List.getElem?_replicate,if_pos (by omega)]
  ·rw [if_neg h2,List.append_assoc]
   rcases Nat.lt_or_ge i ks.length with h3 | h3
   ·rw [List.getElem?_append_left h3,List.getElem?_append_left h3]
   ·rw [List.getElem?_append_right h3,List.getElem?_append_right h3]
    rcases Nat.lt_or_ge (i - ks.length) a with h4 | h4
    ·rw [List.append_assoc,List.getElem?_append_left (by simpa using h4),List.getElem?_replicate,List.getElem?_replicate,if_pos h4,if_pos (by omega)]
    ·rw [List.append_assoc,List.getElem?_append_right (by simpa using h4),List.length_replicate,List.getElem?_append_right (by simp;omega),List.length_singleton]
     rcases Nat.lt_or_ge (i - ks.length - a - 1) b with h5 | h5
     ·rw [List.getElem?_append_left (by simpa using h5),List.getElem?_replicate,List.getElem?_replicate,if_pos h5,if_pos (by omega)]
     ·rw [List.getElem?_append_right (by simpa using h5),List.length_replicate,List.getElem?_replicate,if_neg (by omega),List.getElem?_eq_none (by simp;omega)]
theorem kids_get (ks:List Bool) (a b:Nat):((ks++(List.replicate a true++[false]))++(List.replicate b true++[false]))[ks.length+a]? = some false∧((ks++(List.replicate a true++[false]))++(List.replicate b true++[false]))[ks.length+a+1+b]? = some false:=by
 constructor
 ·rw [List.getElem?_append_left (by simp),List.getElem?_append_right (by omega),List.getElem?_append_right (by simp)]
  simp
 ·rw [List.getElem?_append_right (by simp;omega),List.getElem?_append_right (by simp;omega)]
  have e:ks.length+a+1+b - (ks++(List.replicate a true++[false])).length - (List.replicate b true).length=0:=by simp;omega
  rw [e]
  rfl
theorem seven_cells {w:World} {n:Nat} {x0 x1 x2 x3 x4 x5 x6:Value} {T:TypeId} (h:w.heap[n]? = some (.cells #[x0,x1,x2,x3,x4,x5,x6] T (0,0))) :
 (w.cell? ⟨n,0,none⟩=some x0∧w.cell? ⟨n,1,none⟩=some x1∧w.cell? ⟨n,2,none⟩=some x2∧w.cell? ⟨n,3,none⟩=some x3∧w.cell? ⟨n,4,none⟩=some x4∧w.cell? ⟨n,5,none⟩=some x5∧w.cell? ⟨n,6,none⟩=some x6)∧∀j,w.frozen? ⟨n,j,none⟩=false:=by
 refine ⟨⟨?_,?_,?_,?_,?_,?_,?_⟩,?_⟩<;>simp [World.cell?,World.frozen?,h]
theorem lay_leaf (f b:Nat) (most:Nat) (vn vk:Value) (ns:List Nd) (ks:List Bool) (w:World) (hf:f<1000000) (h:PoolAt w b most vn vk ns ks) (hmost:ns.length<most) (hn:ns.length<1000000) :
 Calls Tryz.prog 263 #[.pointer (some ⟨b,0,none⟩),.int .i64 (f:Int),.int .i64 ((f+1:Nat):Int)] w (LayPost w b most vn vk (ns++[⟨1,-1,-1,f,(f+1:Nat),0,f⟩]) (ks++[false]) ns.length):=by
 obtain ⟨t,ht⟩:∃t,f+1=t:=⟨_,rfl⟩
 rw [ht]
 have HT:=Lib.hid ht
 have b0:(0:Int)≤(f:Int):=Int.natCast_nonneg _
 have b1:(f:Int)<1000000:=by omega
 have b2:(0:Int)≤(t:Int):=Int.natCast_nonneg _
 have b3:(t:Int)≤1000000:=by omega
 have hd:decide ((1:Int)<(t:Int) - (f:Int))=false:=decide_eq_false (by omega)
 clear ht
 have hbl:=h.len
 have hu0:Upd [] w (w.alloc (.cells #[.int .u8 1,.int .i64 (-1),.int .i64 (-1),.int .i64 (f:Int),.int .i64 (t:Int),.int .i64 0,.int .i64 (f:Int)] 339)):=(Upd.refl _ _).alloc _
 have hp:=poolPut ⟨1,-1,-1,f,t,0,f⟩ b most vn vk ns ks ks _ (h.upd hu0 (by simp)) (mayPut_leaf f t 0 f ks (by omega)) rfl hmost hn
 have HP:=Lib.hid hp
 have HU0:=Lib.hid hu0
 clear hp hu0 h hbl
 unfold ndV at HP
 dsimp only at HP
 go_enter Tryz.func263,Tryz.ntmps263
 go_wp2_with fail
 (with_reducible refine HP.out.mono ?_)
 rintro e w' ⟨rfl,vn',vk',r1,r2,r3⟩
 have HR:=Lib.hid (And.intro r1 (And.intro ((HU0.out.mono (by simp)).trans r2) r3))
 clear r1 r2 r3
 go_wp2_with fail
 go_ret
 obtain ⟨r1,r2,r3⟩:=HR.out
 refine ⟨rfl,vn',vk',r1,r2,fun y hy=>?_⟩
 rcases r3 y hy with h | h
 ·exact .inl h
 ·have:=HU0.out.size;exact .inr (by omega)
theorem lay_node (f t m b:Nat) (most:Nat) (vn vk:Value) (ns:List Nd) (ks:List Bool) (w:World) (hm:mid f t=m) (ht:t<1000000) (hft:f+1<t) (h:PoolAt w b most vn vk ns ks) (hmost:ns.length+2*(t - f)≤most+1) (hn:ns.length+2*(t - f)<1000000)
 (ih:∀(f' t':Nat) (vn vk:Value) (ns:List Nd) (ks:List Bool) (w:World),f'<t'→t' - f'<t - f→t'<1000000→PoolAt w b most vn vk ns ks→ns.length+2*(t' - f')≤most+1→ns.length+2*(t' - f')<1000000→
  Calls Tryz.prog 263 #[.pointer (some ⟨b,0,none⟩),.int .i64 (f':Int),.int .i64 (t':Int)] w (LayPost w b most vn vk (ns++nodesL f' t' ns.length) (ks++(List.replicate (2*(t' - f') - 2) true++[false])) (ns.length+2*(t' - f') - 2))) :
 Calls Tryz.prog 263 #[.pointer (some ⟨b,0,none⟩),.int .i64 (f:Int),.int .i64 (t:Int)] w (LayPost w b most vn vk (ns++nodesL f t ns.length) (ks++(List.replicate (2*(t - f) - 2) true++[false])) (ns.length+2*(t - f) - 2)):=by
 have hmi:=mid_in hft
 have hnl:=nodesL_node ns.length hft
 rw [hm] at hmi hnl
 have hbl:=h.len
 have hbw:=lt_of_block h.head
 have b0:(0:Int)≤(f:Int):=Int.natCast_nonneg _
 have b1:(f:Int)<1000000:=by omega
 have b2:(0:Int)≤(t:Int):=Int.natCast_nonneg _
 have b3:(t:Int)≤1000000:=by omega
 have hd:decide ((1:Int)<(t:Int) - (f:Int))=true:=decide_eq_true (by omega)
 have hv:Value.int .i64 ((t:Int) - ((t:Int) - (f:Int)) / 2)=Value.int .i64 (m:Int):=by
  congr 1
  rw [←hm];unfold mid;omega
 have hu0:Upd [] w (w.alloc (.cells #[.int .u8 2,.int .i64 (-1),.int .i64 (-1),.int .i64 (f:Int),.int .i64 (t:Int),.int .i64 0,.int .i64 0] 339)):=(Upd.refl _ _).alloc _
 obtain ⟨L,hL⟩:∃L,ns.length+2*(m - f) - 2=L:=⟨_,rfl⟩
 obtain ⟨R,hR⟩:∃R,ns.length+2*(m - f) - 1+2*(t - m) - 2=R:=⟨_,rfl⟩
 obtain ⟨N1,hN1⟩:∃N1,nodesL f m ns.length=N1:=⟨_,rfl⟩
 have hl1:(ns++N1).length=ns.length+2*(m - f) - 1:=by rw [List.length_append,←hN1,nodesL_length _ hmi.1];omega
 obtain ⟨N2,hN2⟩:∃N2,nodesL m t (ns++N1).length=N2:=⟨_,rfl⟩
 have hl2:((ns++N1)++N2).length=ns.length+2*(t - f) - 2:=by rw [List.length_append,hl1,←hN2,nodesL_length _ hmi.2];omega
 have hp:=ih f m vn vk ns ks _ hmi.1 (by omega) (by omega) (h.upd hu0 (by simp)) (by omega) (by omega)
 rw [hL,hN1] at hp
 have hih:∀(vn vk:Value) (w:World),PoolAt w b most vn vk (ns++N1) (ks++(List.replicate (2*(m - f) - 2) true++[false]))→
  Calls Tryz.prog 263 #[.pointer (some ⟨b,0,none⟩),.int .i64 (m:Int),.int .i64 (t:Int)] w (LayPost w b most vn vk ((ns++N1)++N2) ((ks++(List.replicate (2*(m - f) - 2) true++[false]))++(List.replicate (2*(t - m) - 2) true++[false])) R):=fun vn vk w hq=>by
  have:=ih m t vn vk (ns++N1) _ w hmi.2 (by omega) (by omega) hq (by omega) (by omega)
  rw [hN2,hl1,hR] at this
  exact this
 have hend:ns++nodesL f t ns.length=((ns++N1)++N2)++[⟨2,(L:Int),(R:Int),f,t,0,0⟩]:=by
  rw [hl1] at hN2
  rw [hnl,hN1,hN2,hL,hR]
  simp
 have hks:=kids_set ks (2*(m - f) - 2) (2*(t - m) - 2)
 have hkg:=kids_get ks (2*(m - f) - 2) (2*(t - m) - 2)
 have eL:ks.length+(2*(m - f) - 2)=L:=by omega
 have eR:ks.length+(2*(m - f) - 2)+1+(2*(t - m) - 2)=R:=by omega
 have eK:2*(m - f) - 2+1+(2*(t - m) - 2)+1=2*(t - f) - 2:=by omega
 rw [eR,eL,eK] at hks
 rw [eR,eL] at hkg
 have hmay:MayPut ⟨2,(L:Int),(R:Int),f,t,0,0⟩ ((ks++(List.replicate (2*(m - f) - 2) true++[false]))++(List.replicate (2*(t - m) - 2) true++[false])) (ks++List.replicate (2*(t - f) - 2) true):=by
  rw [←hks]
  exact mayPut_both L R f t 0 0 _ (by simp;omega) hkg.1 hkg.2 (by omega)
 have hput:∀(vn vk:Value) (w:World),PoolAt w b most vn vk ((ns++N1)++N2) ((ks++(List.replicate (2*(m - f) - 2) true++[false]))++(List.replicate (2*(t - m) - 2) true++[false]))→
  Calls Tryz.prog 304 #[.pointer (some ⟨b,0,none⟩),.agg #[.int .u8 2,.int .i64 (L:Int),.int .i64 (R:Int),.int .i64 (f:Int),.int .i64 (t:Int),.int .i64 0,.int .i64 0]] w (PutPost w b most vn vk (ns++nodesL f t ns.length) (ks++(List.replicate (2*(t - f) - 2) true++[false])) (ns.length+2*(t - f) - 2)):=fun vn vk w hq=>by
  have:=poolPut ⟨2,(L:Int),(R:Int),f,t,0,0⟩ b most vn vk _ _ _ w hq hmay (by simp;omega) (by omega) (by omega)
  rw [←hend,hl2,List.append_assoc] at this
  exact this
 have hhn:(w.alloc (.cells #[.int .u8 2,.int .i64 (-1),.int .i64 (-1),.int .i64 (f:Int),.int .i64 (t:Int),.int .i64 0,.int .i64 0] 339)).heap[w.heap.size]? = some (.cells #[.int .u8 2,.int .i64 (-1),.int .i64 (-1),.int .i64 (f:Int),.int .i64 (t:Int),.int .i64 0,.int .i64 0] 339 (0,0)):=heap_alloc_new w _
 obtain ⟨at_,hat⟩:∃a,ns.length+2*(t - f) - 2=a:=⟨_,rfl⟩
 rw [hat] at hput ⊢
 have HP:=Lib.hid hp
 have HU0:=Lib.hid hu0
 have HIH:=Lib.hid hih
 have HPUT:=Lib.hid hput
 have HLT:=Lib.hid h.lt
 have HV:=Lib.hid hv
 have HHN:=Lib.hid hhn
 clear hp hu0 h ih hih hnl hbl hm hmi hv hL hR hN1 hN2 hl1 hl2 hend hks hkg eL eR eK hmay hput hhn hat
 go_enter Tryz.func263,Tryz.ntmps263
 go_upto_region 5 with fail
 rw [HV.out]
 go_wp2_with fail
 (with_reducible refine HP.out.mono ?_)
 rintro e w1 ⟨rfl,vn1,vk1,r1,r2,r3⟩
 have hn1:w.heap.size∉b::(blk vn++blk vk):=fun hc=>Nat.lt_irrefl _ (HLT.out _ hc)
 have hh1:=(r2.block w.heap.size (by simp) hn1).trans HHN.out
 obtain ⟨⟨_,c1,_⟩,cf⟩:=seven_cells hh1
 have f1:=cf 1
 have hs1:w.heap.size<w1.heap.size:=by have:=r2.size;simp at this;omega
 have hn2:w.heap.size∉b::(blk vn1++blk vk1):=fun hc=>by
  rcases List.mem_cons.1 hc with h1 | h1
  ·omega
  ·rcases r3 _ h1 with h2 | h2
   ·exact hn1 (List.mem_cons_of_mem _ h2)
   ·simp at h2;omega
 have hp2:PoolAt (w1.setCell ⟨w.heap.size,1,none⟩ (.int .i64 (L:Int))) b most vn1 vk1 (ns++N1) (ks++(List.replicate (2*(m - f) - 2) true++[false])):=
  r1.upd ((Upd.refl [w.heap.size] w1).setCell (.inl (by simp)) _) (fun y hy hc=>hn2 (by simp at hc;rw [←hc];exact hy))
 have hh2:(w1.setCell ⟨w.heap.size,1,none⟩ (.int .i64 (L:Int))).heap[w.heap.size]? = some (.cells #[.int .u8 2,.int .i64 (L:Int),.int .i64 (-1),.int .i64 (f:Int),.int .i64 (t:Int),.int .i64 0,.int .i64 0] 339 (0,0)):=heap_set hh1 1 _
 have HC2:=Lib.hid (HIH.out _ _ _ hp2)
 have HN2:=Lib.hid (And.intro hn1 hn2)
 have HH2:=Lib.hid hh2
 have HR1:=Lib.hid (And.intro r1 (And.intro r2 r3))
 clear r1 r2 r3 hh1 cf hn1 hn2 hp2 hh2
 go_wp2_with fail
 (with_reducible refine HC2.out.mono ?_)
 rintro e w2 ⟨rfl,vn2,vk2,r1,r2,r3⟩
 have hh3:=(r2.block w.heap.size (by simpa [World.setCell] using hs1) HN2.out.2).trans HH2.out
 obtain ⟨⟨_,_,c2,_⟩,cf⟩:=seven_cells hh3
 have f2:=cf 2
 have hs2:w.heap.size<w2.heap.size:=by have:=r2.size;simp [World.setCell] at this;omega
 have hn3:w.heap.size∉b::(blk vn2++blk vk2):=fun hc=>by
  rcases List.mem_cons.1 hc with h1 | h1
  ·omega
  ·rcases r3 _ h1 with h2 | h2
   ·exact HN2.out.2 (List.mem_cons_of_mem _ h2)
   ·simp [World.setCell] at h2;omega
 have hp3:=r1.upd ((Upd.refl [w.heap.size] w2).setCell (p:=⟨w.heap.size,2,none⟩) (.inl (by simp)) (.int .i64 (R:Int))) (fun y hy hc=>hn3 (by simp at hc;rw [←hc];exact hy))
 have hh4:(w2.setCell ⟨w.heap.size,2,none⟩ (.int .i64 (R:Int))).heap[w.heap.size]? = some (.cells #[.int .u8 2,.int .i64 (L:Int),.int .i64 (R:Int),.int .i64 (f:Int),.int .i64 (t:Int),.int .i64 0,.int .i64 0] 339 (0,0)):=heap_set hh3 2 _
 obtain ⟨⟨d0,d1,d2,d3,d4,d5,d6⟩,_⟩:=seven_cells hh4
 have HC3:=Lib.hid (HPUT.out _ _ _ hp3)
 have HR2:=Lib.hid (And.intro r1 (And.intro r2 r3))
 have HN3:=Lib.hid hn3
 clear r1 r2 r3 hh3 cf hn3 hp3 hh4
 go_wp2_with fail
 (with_reducible refine HC3.out.mono ?_)
 rintro e w3 ⟨rfl,vn3,vk3,r1,r2,r3⟩
 have HR3:=Lib.hid (And.intro r1 (And.intro r2 r3))
 clear r1 r2 r3
 go_wp2_with fail
 go_ret
 obtain ⟨p1,q1,s1⟩:=HR1.out
 obtain ⟨p2,q2,s2⟩:=HR2.out
 obtain ⟨p3,q3,s3⟩:=HR3.out
 have t1:∀y∈b::(blk vn1++blk vk1),y∈b::(blk vn++blk vk)∨w.heap.size≤y:=fun y hy=>by
  rcases List.mem_cons.1 hy with h | h
  ·exact .inl (by simp [h])
  ·rcases s1 y h with h | h
   ·exact .inl (List.mem_cons_of_mem _ h)
   ·exact .inr (by simp at h;omega)
 have t2:∀y∈b::(blk vn2++blk vk2),y∈b::(blk vn++blk vk)∨w.heap.size≤y:=fun y hy=>by
  rcases List.mem_cons.1 hy with h | h
  ·exact .inl (by simp [h])
  ·rcases s2 y h with h | h
   ·exact t1 y (List.mem_cons_of_mem _ h)
   ·exact .inr (by simp [World.setCell] at h;omega)
 have u1:Upd (b::(blk vn++blk vk)) w w1:=(HU0.out.mono (by simp)).trans q1
 have u3:=(u1.setCell (p:=⟨w.heap.size,1,none⟩) (.inr (Nat.le_refl _)) (.int .i64 (L:Int))).trans' q2 t1
 have u5:=(u3.setCell (p:=⟨w.heap.size,2,none⟩) (.inr (Nat.le_refl _)) (.int .i64 (R:Int))).trans' q3 t2
 refine ⟨rfl,vn3,vk3,p3,u5,fun y hy=>?_⟩
 rcases s3 y hy with h | h
 ·rcases t2 y (List.mem_cons_of_mem _ h) with g | g
  ·rcases List.mem_cons.1 g with g | g
   ·rw [g] at hy
    rcases List.mem_append.1 hy with g2 | g2
    ·exact (p3.bn g2).elim
    ·exact (p3.bk g2).elim
   ·exact .inl g
  ·exact .inr g
 ·exact .inr (by simp [World.setCell] at h;omega)
theorem layC (b:Nat) (most:Nat):∀(d f t:Nat) (vn vk:Value) (ns:List Nd) (ks:List Bool) (w:World),t - f≤d→f<t→t<1000000→PoolAt w b most vn vk ns ks→ns.length+2*(t - f)≤most+1→ns.length+2*(t - f)<1000000→
 Calls Tryz.prog 263 #[.pointer (some ⟨b,0,none⟩),.int .i64 (f:Int),.int .i64 (t:Int)] w (LayPost w b most vn vk (ns++nodesL f t ns.length) (ks++(List.replicate (2*(t - f) - 2) true++[false])) (ns.length+2*(t - f) - 2)):=by
 intro d
 induction d with
 |zero=>intro f t vn vk ns ks w hd hf;omega
 |succ d ih=>
  intro f t vn vk ns ks w hd hf ht h hm hn
  by_cases hft:f+1<t
  ·exact lay_node f t _ b most vn vk ns ks w rfl ht hft h hm hn fun f' t' vn vk ns ks w h1 h2 h3 h4 h5 h6=>ih f' t' vn vk ns ks w (by omega) h1 h3 h4 h5 h6
  ·obtain rfl:t=f+1:=by omega
   have e:f+1 - f=1:=by omega
   have:=lay_leaf f b most vn vk ns ks w (by omega) h (by omega) (by omega)
   rw [nodesL_leaf _ hft,e]
   simpa using this
open Go.RowKit
theorem raceDisable (w:World):(callFunc 338 #[]).run Tryz.prog w=.ok (.value (.tuple #[])) w:=run_call_mark0 Tryz.func338 (by kernel_rfl) (by kernel_rfl) (by kernel_rfl) .disable (by kernel_rfl) w
theorem raceEnable (w:World):(callFunc 340 #[]).run Tryz.prog w=.ok (.value (.tuple #[])) w:=run_call_mark0 Tryz.func340 (by kernel_rfl) (by kernel_rfl) (by kernel_rfl) .enable (by kernel_rfl) w
theorem raceAcquire (a:Addr) (w:World):(callFunc 341 #[.pointer (some a)]).run Tryz.prog w=.ok (.value (.tuple #[])) w:=run_call_marked Tryz.func341 (by kernel_rfl) (by kernel_rfl) (by kernel_rfl) .acquire (by kernel_rfl) a w
theorem raceReleaseMerge (a:Addr) (w:World):(callFunc 343 #[.pointer (some a)]).run Tryz.prog w=.ok (.value (.tuple #[])) w:=run_call_marked Tryz.func343 (by kernel_rfl) (by kernel_rfl) (by kernel_rfl) .releaseMerge (by kernel_rfl) a w
theorem store_deferred (a:Addr) (x:Value) (u:FrameMode) (w:World) (hc:w.cell? a=some x) (hz:w.frozen? a=false) :
 CallsD Tryz.prog 325 #[.pointer (some a),.bool true] u w fun e u' w'=>u'=u∧(e=.returned (.tuple #[])∧w'=w.drew.setCell a (.int .u32 1)):=by
 have hc':w.drew.cell? a=some x:=by go_simp
 have hz':w.drew.frozen? a=false:=by go_simp
 have hst:=run_call_store (P:=Tryz.prog) Tryz.func335 (by kernel_rfl) (by kernel_rfl) (by kernel_rfl) (by kernel_rfl) (k:=.u32) (y:=1) hc' hz'
 go_enter_d Tryz.func325,Tryz.ntmps325
 go_wp2
 go_region_calls
 all_goals (go_end0;exact ⟨rfl,rfl⟩)
theorem unlock_deferred (a:Addr) (u:FrameMode) (w:World) (hc:w.cell? a=some (.int .i32 1)) (hz:w.frozen? a=false) :
 CallsD Tryz.prog 324 #[.pointer (some a)] u w fun e u' w'=>u'=u∧(e=.returned (.tuple #[])∧w'=w.setCell a (.int .i32 0)):=by
 have hd:=raceDisable
 have he:=raceEnable
 have hr:=raceReleaseMerge
 have hadd:=run_call_add (P:=Tryz.prog) Tryz.func344 (by kernel_rfl) (by kernel_rfl) (by kernel_rfl) .i32 (by kernel_rfl) (y:=-1) (s:=0) hc hz (by simp [go_sem];rfl)
 have hcv:=run_convert_to_unsafe (P:=Tryz.prog) (src:=404) (dst:=408) Tryz.underlying404 Tryz.underlying408 (by kernel_rfl) hc
 go_enter_d Tryz.func324,Tryz.ntmps324
 go_wp2
 go_end0
 go_wp2
 go_end0
 exact ⟨rfl,rfl⟩
theorem lock_free (a:Addr) (w:World) (hc:w.cell? a=some (.int .i32 0)) (hz:w.frozen? a=false) :
 Calls Tryz.prog 323 #[.pointer (some a)] w fun e w'=>e=.returned (.tuple #[])∧w'=w.setCell a (.int .i32 1):=by
 have hd:=raceDisable
 have he:=raceEnable
 have ha:=raceAcquire
 have hcas:=run_call_cas_hit (P:=Tryz.prog) Tryz.func339 (by kernel_rfl) (by kernel_rfl) (by kernel_rfl) .i32 (by kernel_rfl) (y:=1) hc hz
 have hc':(w.setCell a (.int .i32 1)).cell? a=some (.int .i32 1):=World.cell?_setCell_same w a _ hc
 have hcv:=run_convert_to_unsafe (P:=Tryz.prog) (src:=404) (dst:=408) Tryz.underlying404 Tryz.underlying408 (by kernel_rfl) hc'
 go_enter Tryz.func323,Tryz.ntmps323
 go_wp2
 first | go_end0 | (simp only [Exit.inBlock,Exit.then];refine bodyPost_ret (results_none rfl _ _ _) rfl ?_) | refine bodyPost_ret (results_none rfl _ _ _) rfl ?_
 go_wp2
 go_end0
 exact ⟨rfl,rfl⟩
def OncePost (b:Nat) (R:World→Prop) (e:Ending) (w':World):Prop:=e=.returned (.tuple #[])∧∃w2,R w2∧w'=((w2.setCell ⟨b,0,none⟩ (.int .u32 1)).setCell ⟨b,1,none⟩ (.int .i32 0)).drew
theorem slow_any (b:Nat) (cap:Array Value) (R:World→Prop) (w:World)
 (hf:Calls Tryz.prog 261 cap (w.setCell ⟨b,1,none⟩ (.int .i32 1)) fun e w'=>e=.returned (.tuple #[])∧R w')
 (hR:∀w',R w'→w'.cell? ⟨b,0,none⟩=some (.int .u32 0)∧w'.cell? ⟨b,1,none⟩=some (.int .i32 1)∧w'.frozen? ⟨b,0,none⟩=false∧w'.frozen? ⟨b,1,none⟩=false)
 (h0:w.cell? ⟨b,0,none⟩=some (.int .u32 0)) (h1:w.cell? ⟨b,1,none⟩=some (.int .i32 0)) (f1:w.frozen? ⟨b,1,none⟩=false) :
 Calls Tryz.prog 303 #[.pointer (some ⟨b,0,none⟩),.func (.func 261) #[] cap] w (OncePost b R):=by
 have hl:=run_call_load (P:=Tryz.prog) Tryz.func322 (by kernel_rfl) (by kernel_rfl) (by kernel_rfl) .u32 (by kernel_rfl) (w:=w.setCell ⟨b,1,none⟩ (.int .i32 1)) (a:=⟨b,0,none⟩) (x:=0) ((World.cell?_setCell_other _ ⟨b,1,none⟩ ⟨b,0,none⟩ _ (by simp)).trans h0)
 have hnot:∀(x:Bool) (w:World),(Op.unary .not (.bool x)).run Tryz.prog w=.ok (.bool (!x)) w:=fun _ _=>rfl
 have HF:=Lib.hid hf
 have HR:=Lib.hid hR
 clear hf hR
 go_enter_defers Tryz.func303,Tryz.ntmps303
 go_wp2_with (go_at_call 323;refine (lock_free ⟨b,1,none⟩ _ (by go_simp) (by go_simp)).mono ?_;rintro e w' ⟨rfl,rfl⟩)
 go_wp2_with (first | (go_at_call 261;(with_reducible refine HF.out.mono ?_);rintro e w2 ⟨rfl,hw2⟩) | (go_at_call 302;go_in))
 obtain ⟨r0,r1,g0,g1⟩:=HR.out w2 hw2
 have HW2:=Lib.hid hw2
 clear hw2
 go_wp2
 refine leaves_cons (f:=325) (args:=#[.pointer (some ⟨b,0,none⟩),.bool true]) (by simp) (by simp [go_sem]) ?_
 refine (store_deferred ⟨b,0,none⟩ (.int .u32 0) .returning _ r0 g0).mono ?_
 rintro e u' w'' ⟨rfl,rfl,rfl⟩
 refine leaves_cons (f:=324) (args:=#[.pointer (some ⟨b,1,none⟩)]) (by simp [settle]) (by simp [go_sem]) ?_
 refine (unlock_deferred ⟨b,1,none⟩ _ _ ?_ (by simp [g1])).mono ?_
 ·refine (World.cell?_setCell_other _ ⟨b,0,none⟩ ⟨b,1,none⟩ _ (by simp)).trans ?_
  rw [World.cell?_drew]
  exact r1
 rintro e u' w'' ⟨rfl,rfl,rfl⟩
 simp [Leaves,settle,results,Tryz.results303]
 exact ⟨rfl,w2,HW2.out,rfl⟩
theorem do_first (b:Nat) (cap:Array Value) (R:World→Prop) (w:World)
 (hf:Calls Tryz.prog 261 cap (w.setCell ⟨b,1,none⟩ (.int .i32 1)) fun e w'=>e=.returned (.tuple #[])∧R w')
 (hR:∀w',R w'→w'.cell? ⟨b,0,none⟩=some (.int .u32 0)∧w'.cell? ⟨b,1,none⟩=some (.int .i32 1)∧w'.frozen? ⟨b,0,none⟩=false∧w'.frozen? ⟨b,1,none⟩=false)
 (h0:w.cell? ⟨b,0,none⟩=some (.int .u32 0)) (h1:w.cell? ⟨b,1,none⟩=some (.int .i32 0)) (f1:w.frozen? ⟨b,1,none⟩=false) :
 Calls Tryz.prog 260 #[.pointer (some ⟨b,0,none⟩),.func (.func 261) #[] cap] w (OncePost b R):=by
 have hl:=run_call_load (P:=Tryz.prog) Tryz.func322 (by kernel_rfl) (by kernel_rfl) (by kernel_rfl) .u32 (by kernel_rfl) h0
 have hnot:∀(x:Bool) (w:World),(Op.unary .not (.bool x)).run Tryz.prog w=.ok (.bool (!x)) w:=fun _ _=>rfl
 have HS:=Lib.hid (slow_any b cap R w hf hR h0 h1 f1)
 clear hf hR
 go_enter Tryz.func260,Tryz.ntmps260
 go_wp2_with (first | (go_at_call 303;(with_reducible refine HS.out.mono ?_);rintro e w' ⟨rfl,w2,hw2,rfl⟩) | (go_at_call 302;go_in))
 go_end0
 exact ⟨rfl,w2,hw2,rfl⟩
end Go.Proofs.YtkbaaonchdeneaaGreat
namespace Go.Proofs.YtkbaaonchdeneaaGreat
open Go.RowKit Go.Shelf
theorem poolNewC (n:Nat) (hn:n<10000000) (w:World) :
 Calls Tryz.prog 262 #[.int .i64 (n:Int)] w fun e w'=>e=.returned (.tuple #[.pointer (some ⟨w.heap.size,0,none⟩),.int .i64 0])∧w'=w.alloc (.cells #[.int .i64 (n:Int),.slice none 0 0,.slice none 0 0,.bool true] 375):=by
 have h1:decide ((n:Int)<0)=false:=decide_eq_false (by omega)
 have h2:decide ((68719476736:Int)<(n:Int))=false:=decide_eq_false (by omega)
 go_enter Tryz.func262,Tryz.ntmps262
 go_wp2_with fail
 go_ret2
 exact ⟨rfl,rfl⟩
theorem cloneNd (s:Value) (n:Nat) (xs:List Value) (w:World) (hs:Sees w 7 s n xs) (h1:∀u∈xs,u.oneCell'=true) (hb:n*56≤140737488355328) :
 Calls Tryz.prog 305 #[s] w fun e w'=>∃A C,e=.returned (.slice A n C)∧w'.ownsRow w.heap.size 339 7 (.slice A n C) n xs∧Below w.heap.size w w':=by
 obtain ⟨i0,hi,hz0,hz1,hz2⟩:=info_parts info_nd
 have HS:=Lib.hid hs
 have H1:=Lib.hid h1;clear h1
 have HB:=Lib.hid hb;clear hb
 rcases hs.2 with ⟨rfl,rfl⟩ | ⟨b,o,sp,cap,rfl,_⟩
 ·clear hs
  have he:=fun w=>Lib.run_eql_slice_nil (P:=Tryz.prog) (w:=w) 224 339 none 0 0 0 0 Tryz.underlying224
  go_enter Tryz.func305,Tryz.ntmps305
  go_wp2
  go_ret
  have hx:xs = []:=List.eq_nil_of_length_eq_zero (by simpa using HS.out.1)
  subst hx
  exact ⟨_,_,rfl,World.ownsRow_nil _ _ _ _,Below.refl _ _⟩
 ·clear hs
  have he:=fun w=>Lib.run_eql_slice_nil (P:=Tryz.prog) (w:=w) 224 339 (some ⟨b,o,sp⟩) n cap 0 0 Tryz.underlying224
  go_enter Tryz.func305,Tryz.ntmps305
  go_wp2_with (at_builtin;refine wpList_app _ rfl _ _ 224 rfl w.heap.size 339 i0 (.agg #[.int .u8 0,.int .i64 0,.int .i64 0,.int .i64 0,.int .i64 0,.int .i64 0,.int .i64 0]) 7 56 Tryz.underlying224 hi hz0 hz1 hz2 rfl (by decide) _ 0 [] rfl (World.ownsRow_made w #[] 0 (Nat.le_refl _) (by decide) rfl) _ n xs rfl (sees_upd HS.out ((Upd.refl [] w).alloc _) (by simp)) H1.out (by have:=HB.out;unfold maxLen;omega) (by have:=HB.out;omega) (by simp) ?_)
  intro A C w1 HP
  have HU:=HP.upd
  have hb1:Below w.heap.size w w1:=(((Upd.refl [] w).alloc _).trans' HU (fun k hk=>by simp [blk] at hk;omega)).below
  have hown:w1.ownsRow w.heap.size 339 7 (.slice A n C) n xs:=by simpa using HP.own
  clear he
  go_wp2
  go_ret
  exact ⟨_,_,rfl,hown,hb1⟩
theorem poolNodesC (b:Nat) (most:Int) (vn vk:Value) (ns:List Nd) (ks:List Bool) (w:World) (h:PoolAt w b most vn vk ns ks) (hn:ns.length<10000000) :
 Calls Tryz.prog 264 #[.pointer (some ⟨b,0,none⟩)] w fun e w'=>∃A C,e=.returned (.slice A ns.length C)∧KD.row w' w.heap.size (.slice A ns.length C) ns∧Below w.heap.size w w':=by
 obtain ⟨An,Cn,rfl⟩:=own_form h.nodes
 have c1:w.cell? ⟨b,1,none⟩=some (.slice An ns.length Cn):=by simp [World.cell?,h.head]
 have hc:=cloneNd _ ns.length (KD.all ns) w (sees_of_own h.nodes) (KD.all_one ns) (by omega)
 have HC:=Lib.hid hc
 clear hc h
 go_enter Tryz.func264,Tryz.ntmps264
 go_wp2_with fail
 (with_reducible refine HC.out.mono ?_)
 rintro e w' ⟨A,C,rfl,h1,h2⟩
 have HH:=Lib.hid (And.intro h1 h2)
 clear h1 h2
 go_wp2_with fail
 go_ret
 exact ⟨A,C,rfl,HH.out.1,HH.out.2⟩
def FrameAt (w:World) (b n:Nat):Prop:=w.heap[b]? = some (.cells #[.int .u32 0,.int .i32 0,.int .u32 0,.slice none 0 0,.int .i64 (n:Int),.bool true] 312 (0,0))
theorem frameNewC (n:Nat) (hn:n<1000000) (w:World) :
 Calls Tryz.prog 151 #[.int .i64 (n:Int)] w fun e w'=>e=.returned (.tuple #[.pointer (some ⟨w.heap.size,0,none⟩),.int .i64 0])∧w'=w.alloc (.cells #[.int .u32 0,.int .i32 0,.int .u32 0,.slice none 0 0,.int .i64 (n:Int),.bool true] 312):=by
 have h1:decide ((n:Int)<0)=false:=decide_eq_false (by omega)
 have h2:decide ((17179869184:Int)<(n:Int))=false:=decide_eq_false (by omega)
 go_enter Tryz.func151,Tryz.ntmps151
 go_wp2_with fail
 go_ret2
 exact ⟨rfl,rfl⟩
theorem frameNone (b n:Nat) (w:World) (h:FrameAt w b n) :
 Calls Tryz.prog 224 #[.pointer (some ⟨b,0,none⟩)] w fun e w'=>e=.returned (.bool false)∧w=w':=by
 have c5:w.cell? ⟨b,5,none⟩=some (.bool true):=by unfold FrameAt at h;simp [World.cell?,h]
 clear h
 go_enter Tryz.func224,Tryz.ntmps224
 go_wp2_with fail
 go_ret
 exact ⟨rfl,rfl⟩
end Go.Proofs.YtkbaaonchdeneaaGreat
namespace Go.Proofs.YtkbaaonchdeneaaGreat
open Go.RowKit Go.Shelf
attribute [local go_sem ↓] Go.wp_at_zero Go.wp_at_succ
def nodesN (n:Nat):List Nd:=if n=0 then [] else nodesL 0 n 0
theorem nodesN_len (n:Nat):(nodesN n).length=2*n - 1:=by
 unfold nodesN
 split
 ·simp;omega
 ·rw [nodesL_length _ (by omega)];omega
def MadeR (w:World) (b n:Nat) (w':World):Prop:=∃vn,w'.heap[b]? = some (.cells #[.int .u32 0,.int .i32 1,.int .u32 0,vn,.int .i64 (n:Int),.bool true] 312 (0,0))∧KD.row w' w.heap.size vn (nodesN n)∧Upd [b] w w'
theorem six_cells {w:World} {n:Nat} {x0 x1 x2 x3 x4 x5:Value} {T:TypeId} (h:w.heap[n]? = some (.cells #[x0,x1,x2,x3,x4,x5] T (0,0))) :
 (w.cell? ⟨n,0,none⟩=some x0∧w.cell? ⟨n,1,none⟩=some x1∧w.cell? ⟨n,2,none⟩=some x2∧w.cell? ⟨n,3,none⟩=some x3∧w.cell? ⟨n,4,none⟩=some x4∧w.cell? ⟨n,5,none⟩=some x5)∧∀j,w.frozen? ⟨n,j,none⟩=false:=by
 refine ⟨⟨?_,?_,?_,?_,?_,?_⟩,?_⟩<;>simp [World.cell?,World.frozen?,h]
theorem made_end {w w1 w2:World} {b n:Nat} (hu:Upd [] w w1)
 (hb:w1.heap[b]? = some (.cells #[.int .u32 0,.int .i32 1,.int .u32 0,.slice none 0 0,.int .i64 (n:Int),.bool true] 312 (0,0))) (hbw:b<w.heap.size)
 {A:Option Addr} {C:Nat} (hr:KD.row w2 w1.heap.size (.slice A (nodesN n).length C) (nodesN n)) (h2:Below w1.heap.size w1 w2):MadeR w b n (w2.setCell ⟨b,3,none⟩ (.slice A (nodesN n).length C)):=by
 have hu2:=Upd.of_below h2
 have hs:=hu.size
 refine ⟨_,heap_set ((hu2.block b (lt_of_block hb) (by simp)).trans hb) 3 _,?_,?_⟩
 ·refine own_base (row_set_other hr (fun hc=>?_) _) hs
  have:=own_ge hr b hc
  omega
 ·exact ((hu.trans hu2).mono (by simp)).setCell (.inl (by simp)) _
theorem allIn_zero (b l:Nat) (w:World) (hl:w.cell? ⟨l,0,none⟩=some (.pointer (some ⟨b,0,none⟩)))
 (h:w.heap[b]? = some (.cells #[.int .u32 0,.int .i32 1,.int .u32 0,.slice none 0 0,.int .i64 ((0:Nat):Int),.bool true] 312 (0,0))) :
 Calls Tryz.prog 261 #[.pointer (some ⟨l,0,none⟩)] w fun e w'=>e=.returned (.tuple #[])∧MadeR w b 0 w':=by
 have hbw:=lt_of_block h
 have hlw:l<w.heap.size:=World.block_lt_of_cell? w _ hl
 obtain ⟨⟨_,_,_,c3,c4,_⟩,cf⟩:=six_cells h
 have c4':w.cell? ⟨b,4,none⟩=some (.int .i64 0):=c4
 have hp:Calls Tryz.prog 262 #[.int .i64 0] w fun e w'=>e=.returned (.tuple #[.pointer (some ⟨w.heap.size,0,none⟩),.int .i64 0])∧w'=w.alloc (.cells #[.int .i64 0,.slice none 0 0,.slice none 0 0,.bool true] 375):=poolNewC 0 (by omega) w
 have HP:=Lib.hid hp
 clear hp
 have HH:=Lib.hid h
 clear h cf c3 c4
 go_enter Tryz.func261,Tryz.ntmps261
 go_wp2_with fail
 (with_reducible refine HP.out.mono ?_)
 rintro e w' ⟨rfl,rfl⟩
 go_upto_region 3 with fail
 have hu1:Upd [] w (w.alloc (.cells #[.int .i64 0,.slice none 0 0,.slice none 0 0,.bool true] 375)):=(Upd.refl _ _).alloc _
 have hp1:PoolAt (w.alloc (.cells #[.int .i64 0,.slice none 0 0,.slice none 0 0,.bool true] 375)) w.heap.size 0 (.slice none 0 0) (.slice none 0 0) (nodesN 0) []:=⟨heap_alloc_new w _,World.ownsRow_nil _ _ _ _,World.ownsRow_nil _ _ _ _,rfl,by simp [blk],by simp [blk],by simp [blk]⟩
 generalize (w.alloc (.cells #[.int .i64 0,.slice none 0 0,.slice none 0 0,.bool true] 375))=W1 at hu1 hp1 ⊢
 have hu1w:Upd [] W1 W1:=Upd.refl _ _
 have hs1:W1.cell? ⟨l,0,none⟩=some (.pointer (some ⟨b,0,none⟩)):=(hu1.cell (p:=⟨l,0,none⟩) hlw (by simp)).trans hl
 have s1:W1.drew.cell? ⟨l,0,none⟩=some (.pointer (some ⟨b,0,none⟩)):=hs1
 have hb1:=(hu1.block b hbw (by simp)).trans HH.out
 have HB1:=Lib.hid hb1
 have HU1:=Lib.hid hu1.drew
 have HBW:=Lib.hid hbw
 have hn:Calls Tryz.prog 264 #[.pointer (some ⟨w.heap.size,0,none⟩)] W1.drew fun e w'=>∃A C,e=.returned (.slice A (nodesN 0).length C)∧KD.row w' W1.drew.heap.size (.slice A (nodesN 0).length C) (nodesN 0)∧Below W1.drew.heap.size W1.drew w':=poolNodesC _ _ _ _ _ _ _ (hp1.upd (hu1w.drew) (by simp)) (by rw [nodesN_len];omega)
 have HN:=Lib.hid hn
 clear hn hb1 hu1 hp1 hu1w
 refine GoT.start [3,4,5,6] (fun w'=>w'.cell? ⟨l,0,none⟩=some (.pointer (some ⟨b,0,none⟩))) (by kernel_rfl) ?_ fun hS=>?_
 ·exact s1
 refine' GoT.tk 1 (i:=0) (oi:=⟨some 27,_,_,_,_,_⟩) rfl (by rfl) ?y3_0 ?_
 case y3_0=>intro w hSw;go_simp<;>with_reducible rfl
 simp only [Act.put,sA,sZ,sS]
 refine' GoT.mv (i:=1) (oi:=⟨some 28,_,_,_,_,_⟩) rfl (by rfl) ?y3_1 ?_
 case y3_1=>intro w;go_simp<;>with_reducible rfl
 simp only [Act.put,sA,sZ,sS]
 refine GoT.one (i:=2) (o:=⟨some 29,_,_,_,_,_⟩) rfl (by kernel_rfl) fun K hK=>?_
 go_simp
 go_at_call 264
 (with_reducible refine HN.out.mono ?_)
 rintro e w2 ⟨A,C,rfl,g1,g2⟩
 have hh2:=((Upd.of_below g2).block b (lt_of_block HB1.out) (by simp)).trans HB1.out
 obtain ⟨⟨_,_,_,e3,_,_⟩,ef⟩:=six_cells hh2
 have e3f:=ef 3
 have HG:=Lib.hid (And.intro g1 g2)
 clear g1 g2 hh2 ef
 refine hK.out _ _ (fun _ h=>?_) ?_
 ·exact (HG.out.2.cell (p:=⟨l,0,none⟩) (World.block_lt_of_cell? _ _ h)).trans h
 clear hK K
 try simp only [Act.put,sA,sZ,sS]
 refine' GoT.mv (i:=3) (oi:=⟨some 30,_,_,_,_,_⟩) rfl (by rfl) ?y3_3 ?_
 case y3_3=>intro w;go_simp<;>with_reducible rfl
 simp only [Act.put,sA,sZ,sS]
 refine' GoT.mv (i:=4) (oi:=⟨some 31,_,_,_,_,_⟩) rfl (by rfl) ?y3_4 ?_
 case y3_4=>intro w;go_simp<;>with_reducible rfl
 simp only [Act.put,sA,sZ,sS]
 refine' GoT.mv (i:=5) (oi:=⟨some 32,_,_,_,_,_⟩) rfl (by rfl) ?y3_5 ?_
 case y3_5=>intro w;go_simp<;>with_reducible rfl
 simp only [Act.put,sA,sZ,sS]
 refine GoT.one (i:=6) (o:=⟨none,_,_,_,_,_⟩) rfl (by kernel_rfl) fun K hK=>?_
 go_simp
 refine hK.out _ _ (fun h=>(by cases h)) ?_
 clear hK K
 try simp only [Act.put,sA,sZ,sS]
 refine GoT.done (by kernel_rfl) ?_
 go_wp2_with fail
 go_end0
 exact ⟨rfl,made_end HU1.out HB1.out HBW.out HG.out.1 HG.out.2⟩
theorem allIn_pos (b l n:Nat) (w:World) (hn0:0<n) (hn1:n<400000) (hl:w.cell? ⟨l,0,none⟩=some (.pointer (some ⟨b,0,none⟩)))
 (h:w.heap[b]? = some (.cells #[.int .u32 0,.int .i32 1,.int .u32 0,.slice none 0 0,.int .i64 (n:Int),.bool true] 312 (0,0))) :
 Calls Tryz.prog 261 #[.pointer (some ⟨l,0,none⟩)] w fun e w'=>e=.returned (.tuple #[])∧MadeR w b n w':=by
 have hbw:=lt_of_block h
 have hlw:l<w.heap.size:=World.block_lt_of_cell? w _ hl
 obtain ⟨⟨_,_,_,c3,c4,_⟩,cf⟩:=six_cells h
 have hp:Calls Tryz.prog 262 #[.int .i64 (2*(n:Int))] w fun e w'=>e=.returned (.tuple #[.pointer (some ⟨w.heap.size,0,none⟩),.int .i64 0])∧w'=w.alloc (.cells #[.int .i64 (2*(n:Int)),.slice none 0 0,.slice none 0 0,.bool true] 375):=by
  have:=poolNewC (2*n) (by omega) w
  simpa using this
 have hp1:PoolAt (w.alloc (.cells #[.int .i64 (2*(n:Int)),.slice none 0 0,.slice none 0 0,.bool true] 375)) w.heap.size (2*n:Nat) (.slice none 0 0) (.slice none 0 0) [] []:=⟨by simpa using heap_alloc_new w _,World.ownsRow_nil _ _ _ _,World.ownsRow_nil _ _ _ _,rfl,by simp [blk],by simp [blk],by simp [blk]⟩
 have hla:=layC w.heap.size (2*n) n 0 n _ _ _ _ _ (by omega) hn0 (by omega) hp1 (by simp) (by simp;omega)
 have hu0:Upd [] w (w.alloc (.cells #[.int .i64 (2*(n:Int)),.slice none 0 0,.slice none 0 0,.bool true] 375)):=(Upd.refl _ _).alloc _
 have hd0:decide ((0:Int)<(n:Int))=true:=decide_eq_true (by omega)
 have b0:(0:Int)≤(n:Int):=Int.natCast_nonneg _
 have b1:(n:Int)<400000:=by omega
 have q4:(w.alloc (.cells #[.int .i64 (2*(n:Int)),.slice none 0 0,.slice none 0 0,.bool true] 375)).cell? ⟨b,4,none⟩=some (.int .i64 (n:Int)):=by rw [World.cell?_alloc_past _ _ _ hbw];exact c4
 have ql:(w.alloc (.cells #[.int .i64 (2*(n:Int)),.slice none 0 0,.slice none 0 0,.bool true] 375)).cell? ⟨l,0,none⟩=some (.pointer (some ⟨b,0,none⟩)):=by rw [World.cell?_alloc_past _ _ _ hlw];exact hl
 have hnd:[]++nodesL 0 n ([]:List Nd).length=nodesN n:=by unfold nodesN;rw [if_neg (by omega)];rfl
 rw [hnd] at hla
 obtain ⟨R,hR⟩:∃R,([]:List Nd).length+2*(n - 0) - 2=R:=⟨_,rfl⟩
 rw [hR] at hla
 have HP:=Lib.hid hp
 have HLA:=Lib.hid (show Calls Tryz.prog 263 #[.pointer (some ⟨w.heap.size,0,none⟩),.int .i64 0,.int .i64 (n:Int)] _ _ from hla)
 have HU0:=Lib.hid hu0
 have HH:=Lib.hid h
 clear hp hla h cf c3 hp1 hu0 hnd hR
 go_enter Tryz.func261,Tryz.ntmps261
 go_wp2_with fail
 (with_reducible refine HP.out.mono ?_)
 rintro e w' ⟨rfl,rfl⟩
 go_wp2_with fail
 (with_reducible refine HLA.out.mono ?_)
 rintro e W1 ⟨rfl,vn,vk,hp1,r2,_⟩
 have hu1:Upd [] w W1:=HU0.out.trans' r2 (fun x hx=>.inr (by simp [blk] at hx;omega))
 have hu1w:Upd [] W1 W1:=Upd.refl _ _
 have hs1:W1.cell? ⟨l,0,none⟩=some (.pointer (some ⟨b,0,none⟩)):=(hu1.cell (p:=⟨l,0,none⟩) hlw (by simp)).trans hl
 have s1:W1.drew.cell? ⟨l,0,none⟩=some (.pointer (some ⟨b,0,none⟩)):=hs1
 have hb1:=(hu1.block b hbw (by simp)).trans HH.out
 have HB1:=Lib.hid hb1
 have HU1:=Lib.hid hu1.drew
 have HBW:=Lib.hid hbw
 have hn:Calls Tryz.prog 264 #[.pointer (some ⟨w.heap.size,0,none⟩)] W1.drew fun e w'=>∃A C,e=.returned (.slice A (nodesN n).length C)∧KD.row w' W1.drew.heap.size (.slice A (nodesN n).length C) (nodesN n)∧Below W1.drew.heap.size W1.drew w':=poolNodesC _ _ _ _ _ _ _ (hp1.upd (hu1w.drew) (by simp)) (by rw [nodesN_len];omega)
 have HN:=Lib.hid hn
 clear r2 hn hb1 hu1 hp1 hu1w
 go_upto_region 3 with fail
 refine GoT.start [3,4,5,6] (fun w'=>w'.cell? ⟨l,0,none⟩=some (.pointer (some ⟨b,0,none⟩))) (by kernel_rfl) ?_ fun hS=>?_
 ·exact s1
 refine' GoT.tk 1 (i:=0) (oi:=⟨some 27,_,_,_,_,_⟩) rfl (by rfl) ?y3_0 ?_
 case y3_0=>intro w hSw;go_simp<;>with_reducible rfl
 simp only [Act.put,sA,sZ,sS]
 refine' GoT.mv (i:=1) (oi:=⟨some 28,_,_,_,_,_⟩) rfl (by rfl) ?y3_1 ?_
 case y3_1=>intro w;go_simp<;>with_reducible rfl
 simp only [Act.put,sA,sZ,sS]
 refine GoT.one (i:=2) (o:=⟨some 29,_,_,_,_,_⟩) rfl (by kernel_rfl) fun K hK=>?_
 go_simp
 go_at_call 264
 (with_reducible refine HN.out.mono ?_)
 rintro e w2 ⟨A,C,rfl,g1,g2⟩
 have hh2:=((Upd.of_below g2).block b (lt_of_block HB1.out) (by simp)).trans HB1.out
 obtain ⟨⟨_,_,_,e3,_,_⟩,ef⟩:=six_cells hh2
 have e3f:=ef 3
 have HG:=Lib.hid (And.intro g1 g2)
 clear g1 g2 hh2 ef
 refine hK.out _ _ (fun _ h=>?_) ?_
 ·exact (HG.out.2.cell (p:=⟨l,0,none⟩) (World.block_lt_of_cell? _ _ h)).trans h
 clear hK K
 try simp only [Act.put,sA,sZ,sS]
 refine' GoT.mv (i:=3) (oi:=⟨some 30,_,_,_,_,_⟩) rfl (by rfl) ?y3_3 ?_
 case y3_3=>intro w;go_simp<;>with_reducible rfl
 simp only [Act.put,sA,sZ,sS]
 refine' GoT.mv (i:=4) (oi:=⟨some 31,_,_,_,_,_⟩) rfl (by rfl) ?y3_4 ?_
 case y3_4=>intro w;go_simp<;>with_reducible rfl
 simp only [Act.put,sA,sZ,sS]
 refine' GoT.mv (i:=5) (oi:=⟨some 32,_,_,_,_,_⟩) rfl (by rfl) ?y3_5 ?_
 case y3_5=>intro w;go_simp<;>with_reducible rfl
 simp only [Act.put,sA,sZ,sS]
 refine GoT.one (i:=6) (o:=⟨none,_,_,_,_,_⟩) rfl (by kernel_rfl) fun K hK=>?_
 go_simp
 refine hK.out _ _ (fun h=>(by cases h)) ?_
 clear hK K
 try simp only [Act.put,sA,sZ,sS]
 refine GoT.done (by kernel_rfl) ?_
 go_wp2_with fail
 go_end0
 exact ⟨rfl,made_end HU1.out HB1.out HBW.out HG.out.1 HG.out.2⟩
end Go.Proofs.YtkbaaonchdeneaaGreat
