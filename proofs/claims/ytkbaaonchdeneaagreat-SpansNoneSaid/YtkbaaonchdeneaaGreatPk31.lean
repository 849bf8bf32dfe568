/- pool.Put: a node more. -/
import Derived.Lib.Hide
import Derived.BigQuiet
import Derived.Deep.QuietTactic
import Derived.Deep.LoopGhost
import Derived.Deep.Light
import Derived.Deep.RegionHeld3
import Derived.Deep.DeepCutAuto
import Derived.Deep.CutBlock
import Derived.Deep.RegionLaw
import Derived.Deep.DrawnRows
import Derived.IntWalk
import Derived.Test.YtkbaaonchdeneaaGreatPkSpansNoneP1
import Derived.Test.YtkbaaonchdeneaaGreatPk19
set_option maxHeartbeats 2000000
set_option maxRecDepth 100000
namespace Go.Proofs.YtkbaaonchdeneaaGreat
open Go.RowKit Go.Shelf
attribute [local go_sem ↓] Go.wp_at_zero Go.wp_at_succ
theorem PoolAt.put {w W w3 w4:World} {b:Nat} {most:Int} {vn vk:Value} {ns:List Nd} {ks ks':List Bool} (h:PoolAt w b most vn vk ns ks) (x:Nd) (hW:Upd [] w W) {A A':Option Addr} {C C':Nat} (HP:AppPost W w3 0 339 7 vn ns.length (KD.all ns) 1 (KD.enc x) A C)
 (hk:KB.row w4 0 (.slice A' (ks.length+1) C') (ks'++[false])) (hu:Upd (blk vk) w3 w4) (hb:∀y∈blk (.slice A' (ks.length+1) C'),y∈blk vk∨w3.heap.size≤y) (hl:ks'.length=ks.length) :
 PoolAt ((w4.setCell ⟨b,1,none⟩ (.slice A (ns.length+1) C)).setCell ⟨b,2,none⟩ (.slice A' (ks.length+1) C')) b most (.slice A (ns.length+1) C) (.slice A' (ks.length+1) C') (ns++[x]) (ks'++[false])∧
  Upd (b::(blk vn++blk vk)) w ((w4.setCell ⟨b,1,none⟩ (.slice A (ns.length+1) C)).setCell ⟨b,2,none⟩ (.slice A' (ks.length+1) C'))∧
  (∀y∈blk (.slice A (ns.length+1) C)++blk (.slice A' (ks.length+1) C'),y∈blk vn++blk vk∨w.heap.size≤y):=by
 have hbw:=lt_of_block h.head
 have hvn:=own_lt h.nodes
 have hvk:=own_lt h.kids
 have hu1:Upd (blk vn) w w3:=(hW.mono (by simp)).trans HP.upd
 have hu2:Upd (blk vn++blk vk) w w4:=(hu1.mono (by simp;intro x hx;exact .inl (.inl hx))).trans (hu.mono (by simp;intro x hx;exact .inl (.inr hx)))
 have hs1:=hW.size
 have hs2:=HP.upd.size
 have hs3:=hu.size
 have hnew:∀y∈blk (.slice A (ns.length+1) C),y∈blk vn∨y=W.heap.size:=fun y hy=>by
  rcases HP.at with g | g
  ·rw [g] at hy;exact .inl hy
  ·rw [g] at hy;simp at hy;exact .inr hy
 have hWlt:∀y∈blk (.slice A (ns.length+1) C),y<w3.heap.size:=own_lt HP.own
 have hbn:b∉blk (.slice A (ns.length+1) C):=fun hc=>by
  rcases hnew b hc with g | g
  ·exact h.bn g
  ·omega
 have hbk:b∉blk (.slice A' (ks.length+1) C'):=fun hc=>by
  rcases hb b hc with g | g
  ·exact h.bk g
  ·omega
 have hnk:∀y∈blk (.slice A (ns.length+1) C),y∉blk (.slice A' (ks.length+1) C'):=fun y hy hc=>by
  have g3:=hWlt y hy
  rcases hb y hc with g | g
  ·rcases hnew y hy with g2 | g2
   ·exact h.nk y g2 g
   ·have:=hvk y g;omega
  ·omega
 have hhead:w4.heap[b]? = some (.cells #[.int .i64 most,vn,vk,.bool true] 375 (0,0)):=(hu2.block b hbw (by simp [h.bn,h.bk])).trans h.head
 refine ⟨⟨?_,?_,?_,by simp [hl,h.len],hbn,hbk,hnk⟩,?_,fun y hy=>?_⟩
 ·exact heap_set (heap_set hhead 1 _) 2 _
 ·refine row_set_other (row_set_other ?_ hbn _) hbn _
  have e:KD.all (ns++[x])=KD.all ns++KD.enc x:=by rw [Kind.all_app];simp [Kind.all]
  rw [e,List.length_append]
  refine own_upd HP.own hu fun y hy hc=>?_
  rcases hnew y hy with g2 | g2
  ·exact h.nk y g2 hc
  ·have:=hvk y hc;omega
 ·have hl2:(ks'++[false]).length=ks.length+1:=by simp [hl]
  have hk':=hk
  unfold Kind.row at hk' ⊢
  exact row_set_other (row_set_other hk' hbk _) hbk _
 ·have h4:Upd (b::(blk vn++blk vk)) w w4:=hu2.mono (by simp;intro x hx;rcases hx with hx | hx<;>simp [hx])
  exact (h4.setCell (.inl (by simp)) _).setCell (.inl (by simp)) _
 ·rcases List.mem_append.1 hy with hy | hy
  ·rcases hnew y hy with g | g
   ·exact .inl (by simp [g])
   ·exact .inr (by omega)
  ·rcases hb y hy with g | g
   ·exact .inl (by simp [g])
   ·exact .inr (by omega)
theorem box_upd {F:List Nat} {w w':World} {h b:Nat} {x0 x1 x2 x3 x4 x5 x6 y1 y2:Value} (hc:w.cell? ⟨h,0,none⟩=some x0∧w.cell? ⟨h,1,none⟩=some x1∧w.cell? ⟨h,2,none⟩=some x2∧w.cell? ⟨h,3,none⟩=some x3∧w.cell? ⟨h,4,none⟩=some x4∧w.cell? ⟨h,5,none⟩=some x5∧w.cell? ⟨h,6,none⟩=some x6∧w.cell? ⟨b,1,none⟩=some y1∧w.cell? ⟨b,2,none⟩=some y2)
 (hu:Upd F w w') (hh:h<w.heap.size) (hb:b<w.heap.size) (hf:h∉F) (hg:b∉F):w'.cell? ⟨h,0,none⟩=some x0∧w'.cell? ⟨h,1,none⟩=some x1∧w'.cell? ⟨h,2,none⟩=some x2∧w'.cell? ⟨h,3,none⟩=some x3∧w'.cell? ⟨h,4,none⟩=some x4∧w'.cell? ⟨h,5,none⟩=some x5∧w'.cell? ⟨h,6,none⟩=some x6∧w'.cell? ⟨b,1,none⟩=some y1∧w'.cell? ⟨b,2,none⟩=some y2:=by
 obtain ⟨a0,a1,a2,a3,a4,a5,a6,b1,b2⟩:=hc
 exact ⟨(hu.cell (p:=⟨h,0,none⟩) hh hf).trans a0,(hu.cell (p:=⟨h,1,none⟩) hh hf).trans a1,(hu.cell (p:=⟨h,2,none⟩) hh hf).trans a2,(hu.cell (p:=⟨h,3,none⟩) hh hf).trans a3,(hu.cell (p:=⟨h,4,none⟩) hh hf).trans a4,(hu.cell (p:=⟨h,5,none⟩) hh hf).trans a5,(hu.cell (p:=⟨h,6,none⟩) hh hf).trans a6,(hu.cell (p:=⟨b,1,none⟩) hb hg).trans b1,(hu.cell (p:=⟨b,2,none⟩) hb hg).trans b2⟩
theorem info_nd:(Tryz.prog.info? 339).map (fun i=>(i.zero,i.size,i.bytes))=some (some (.agg #[.int .u8 0,.int .i64 0,.int .i64 0,.int .i64 0,.int .i64 0,.int .i64 0,.int .i64 0]),7,56):=by kernel_rfl
theorem ret_pair {a b:Int} {v:Value} (h:a=b):Ending.returned (.tuple #[.int .i64 a,v])=.returned (.tuple #[.int .i64 b,v]):=by rw [h]
def PutPost (w:World) (b:Nat) (most:Int) (vn vk:Value) (ns:List Nd) (ks:List Bool) (n:Nat) (e:Ending) (w':World):Prop:=
 e=.returned (.tuple #[.int .i64 (n:Int),.int .i64 0])∧∃vn' vk',PoolAt w' b most vn' vk' ns ks∧Upd (b::(blk vn++blk vk)) w w'∧(∀y∈blk vn'++blk vk',y∈blk vn++blk vk∨w.heap.size≤y)
theorem poolPut (x:Nd) (b:Nat) (most:Nat) (vn vk:Value) (ns:List Nd) (ks ks':List Bool) (w:World) (h:PoolAt w b most vn vk ns ks) (hm:MayPut x ks ks') (hl:ks'.length=ks.length) (hlen:ns.length<most) (hb:ns.length<1000000) :
 Calls Tryz.prog 304 #[.pointer (some ⟨b,0,none⟩),ndV x] w (PutPost w b most vn vk (ns++[x]) (ks'++[false]) ns.length):=by
 obtain ⟨xk,xl,xr,xf,xt,xa,xi⟩:=x
 obtain ⟨An,Cn,rfl⟩:=own_form h.nodes
 obtain ⟨Ak,Ck,rfl⟩:=own_form h.kids
 have hbw:=lt_of_block h.head
 have c0:w.cell? ⟨b,0,none⟩=some (.int .i64 most):=by simp [World.cell?,h.head]
 have c1:w.cell? ⟨b,1,none⟩=some (.slice An ns.length Cn):=by simp [World.cell?,h.head]
 have c2:w.cell? ⟨b,2,none⟩=some (.slice Ak ks.length Ck):=by simp [World.cell?,h.head]
 have c3:w.cell? ⟨b,3,none⟩=some (.bool true):=by simp [World.cell?,h.head]
 have HLE:=Lib.hid h.len
 have H:=Lib.hid h
 have HM:=Lib.hid hm
 have HL:=Lib.hid hl
 clear h hm hl
 unfold ndV at *
 dsimp only at *
 go_enter Tryz.func304,Tryz.ntmps304
 go_upto_region 3 with fail
 generalize hW0:w.alloc (Obj.cells #[Value.int .u8 xk,Value.int .i64 xl,Value.int .i64 xr,Value.int .i64 xf,Value.int .i64 xt,Value.int .i64 xa,Value.int .i64 xi] 339)=W0
 have hz0:W0.heap.size=w.heap.size+1:=by rw [←hW0];simp
 have hu0:Upd [] w W0:=by rw [←hW0];exact (Upd.refl _ _).alloc _
 have hd:∀i v,(#[Value.int .u8 xk,Value.int .i64 xl,Value.int .i64 xr,Value.int .i64 xf,Value.int .i64 xt,Value.int .i64 xa,Value.int .i64 xi]:Array Value)[i]? = some v→W0.cell? ⟨w.heap.size,i,none⟩=some v:=fun i v hv=>by rw [←hW0,World.cell?_alloc_at _ _ _ _ rfl];exact hv
 have d0:=hd 0 _ rfl
 have d1:=hd 1 _ rfl
 have d2:=hd 2 _ rfl
 have d3:=hd 3 _ rfl
 have d4:=hd 4 _ rfl
 have d5:=hd 5 _ rfl
 have d6:=hd 6 _ rfl
 have e2:=(hu0.cell (p:=⟨b,2,none⟩) hbw (by simp)).trans c2
 have hk0:KB.row W0 0 (.slice Ak ks.length Ck) ks:=own_upd H.out.kids hu0 (by simp)
 have HK0:=Lib.hid hk0
 have HC:=Lib.hid (And.intro c0 (And.intro c1 c2))
 clear hW0 hd hk0 c0 c1 c2 c3
 have hc0:Calls Tryz.prog 326 #[.agg #[Value.int .u8 xk,Value.int .i64 xl,Value.int .i64 xr,Value.int .i64 xf,Value.int .i64 xt,Value.int .i64 xa,Value.int .i64 xi],.slice Ak ks.length Ck] W0.drew fun e w'=>e=.returned (.bool true)∧Below W0.drew.heap.size W0.drew w':=HM.out.may _ _ (owns_drew HK0.out)
 have HC0:=Lib.hid hc0
 clear hc0
 go_region_held3 (fun w'=>w'.cell? ⟨b,2,none⟩=some (.slice Ak ks.length Ck)∧w'.cell? ⟨w.heap.size,0,none⟩=some (.int .u8 xk)∧w'.cell? ⟨w.heap.size,1,none⟩=some (.int .i64 xl)∧w'.cell? ⟨w.heap.size,2,none⟩=some (.int .i64 xr)∧w'.cell? ⟨w.heap.size,3,none⟩=some (.int .i64 xf)∧w'.cell? ⟨w.heap.size,4,none⟩=some (.int .i64 xt)∧w'.cell? ⟨w.heap.size,5,none⟩=some (.int .i64 xa)∧w'.cell? ⟨w.heap.size,6,none⟩=some (.int .i64 xi))
  (first
   |(exact ⟨e2,d0,d1,d2,d3,d4,d5,d6⟩)
   |(exact ⟨(g1.cell (p:=⟨b,2,none⟩) (show b<W0.heap.size by omega)).trans e2,(g1.cell (p:=⟨w.heap.size,0,none⟩) (show w.heap.size<W0.heap.size by omega)).trans d0,(g1.cell (p:=⟨w.heap.size,1,none⟩) (show w.heap.size<W0.heap.size by omega)).trans d1,(g1.cell (p:=⟨w.heap.size,2,none⟩) (show w.heap.size<W0.heap.size by omega)).trans d2,(g1.cell (p:=⟨w.heap.size,3,none⟩) (show w.heap.size<W0.heap.size by omega)).trans d3,(g1.cell (p:=⟨w.heap.size,4,none⟩) (show w.heap.size<W0.heap.size by omega)).trans d4,(g1.cell (p:=⟨w.heap.size,5,none⟩) (show w.heap.size<W0.heap.size by omega)).trans d5,(g1.cell (p:=⟨w.heap.size,6,none⟩) (show w.heap.size<W0.heap.size by omega)).trans d6⟩))
  ((go_at_call 326;(with_reducible refine HC0.out.mono ?_);rintro e w1 ⟨rfl,g1⟩))
 have hu1:Upd [] w w1:=hu0.drew.trans (Upd.of_below g1)
 have k0:w1.cell? ⟨b,0,none⟩=some (.int .i64 most):=(hu1.cell (p:=⟨b,0,none⟩) hbw (by simp)).trans HC.out.1
 have k1:w1.cell? ⟨b,1,none⟩=some (.slice An ns.length Cn):=(hu1.cell (p:=⟨b,1,none⟩) hbw (by simp)).trans HC.out.2.1
 have hbx:∀i v,W0.cell? ⟨w.heap.size,i,none⟩=some v→w1.cell? ⟨w.heap.size,i,none⟩=some v:=fun i v h=>(g1.cell (p:=⟨w.heap.size,i,none⟩) (show w.heap.size<W0.heap.size by omega)).trans h
 have HBX:=Lib.hid (And.intro (hbx 0 _ d0) (And.intro (hbx 1 _ d1) (And.intro (hbx 2 _ d2) (And.intro (hbx 3 _ d3) (And.intro (hbx 4 _ d4) (And.intro (hbx 5 _ d5) (hbx 6 _ d6)))))))
 have hb1:w.heap.size<w1.heap.size:=by have:=g1.size;simp at this;omega
 clear hbx d0 d1 d2 d3 d4 d5 d6 e2 HC0 HK0
 go_upto_region 5 with fail
 go_quiet (fail)
 go_upto_region 7 with fail
 obtain ⟨i0,hi,hy0,hy1,hy2⟩:=info_parts info_nd
 have hu2:Upd [] w (w1.drewN nq):=hu1.drewN nq
 have hb2:w.heap.size<(w1.drewN nq).heap.size:=hb1
 have HBX2:Hid _:=Lib.hid (show (w1.drewN nq).cell? ⟨w.heap.size,0,none⟩=some (.int .u8 xk)∧(w1.drewN nq).cell? ⟨w.heap.size,1,none⟩=some (.int .i64 xl)∧(w1.drewN nq).cell? ⟨w.heap.size,2,none⟩=some (.int .i64 xr)∧(w1.drewN nq).cell? ⟨w.heap.size,3,none⟩=some (.int .i64 xf)∧(w1.drewN nq).cell? ⟨w.heap.size,4,none⟩=some (.int .i64 xt)∧(w1.drewN nq).cell? ⟨w.heap.size,5,none⟩=some (.int .i64 xa)∧(w1.drewN nq).cell? ⟨w.heap.size,6,none⟩=some (.int .i64 xi) from HBX.out)
 generalize w1.drewN nq=w2 at hu2 hb2 HBX2 ⊢
 have m1:w2.cell? ⟨b,1,none⟩=some (.slice An ns.length Cn):=(hu2.cell (p:=⟨b,1,none⟩) hbw (by simp)).trans HC.out.2.1
 have m2:w2.cell? ⟨b,2,none⟩=some (.slice Ak ks.length Ck):=(hu2.cell (p:=⟨b,2,none⟩) hbw (by simp)).trans HC.out.2.2
 obtain ⟨n0,n1,n2,n3,n4,n5,n6⟩:=HBX2.out
 have HS2:=Lib.hid (And.intro n0 (And.intro n1 (And.intro n2 (And.intro n3 (And.intro n4 (And.intro n5 (And.intro n6 (And.intro m1 m2))))))))
 have hbw2:b<w2.heap.size:=Nat.lt_of_lt_of_le hbw hu2.size
 have hn2:KD.row w2 0 (.slice An ns.length Cn) ns:=own_upd H.out.nodes hu2 (by simp)
 have HN2:=Lib.hid hn2
 have HU2:=Lib.hid hu2
 have HBN:=Lib.hid (show b∉blk (.slice An ns.length Cn) from H.out.bn)
 have HBK:=Lib.hid (show b∉blk (.slice Ak ks.length Ck) from H.out.bk)
 have HWN:=Lib.hid (show w.heap.size∉blk (.slice An ns.length Cn) from fun hc=>Nat.lt_irrefl _ (own_lt H.out.nodes _ hc))
 clear hn2 hu2 k0 k1 HBX HBX2 m1 m2 n0 n1 n2 n3 n4 n5 n6
 refine GoT.start [14,15,16,17,18,19,20] (fun w'=>w'.cell? ⟨w.heap.size,0,none⟩=some (.int .u8 xk)∧w'.cell? ⟨w.heap.size,1,none⟩=some (.int .i64 xl)∧w'.cell? ⟨w.heap.size,2,none⟩=some (.int .i64 xr)∧w'.cell? ⟨w.heap.size,3,none⟩=some (.int .i64 xf)∧w'.cell? ⟨w.heap.size,4,none⟩=some (.int .i64 xt)∧w'.cell? ⟨w.heap.size,5,none⟩=some (.int .i64 xa)∧w'.cell? ⟨w.heap.size,6,none⟩=some (.int .i64 xi)∧w'.cell? ⟨b,1,none⟩=some (.slice An ns.length Cn)∧w'.cell? ⟨b,2,none⟩=some (.slice Ak ks.length Ck)) (by kernel_rfl) ?_ fun hS=>?_
 ·exact HS2.out
 refine' GoT.mv (i:=0) (oi:=⟨some 35,_,_,_,_,_⟩) rfl (by rfl) ?y7_0 ?_
 case y7_0=>intro w;go_simp<;>with_reducible rfl
 simp only [Act.put,sA,sZ,sS]
 refine' GoT.mv (i:=1) (oi:=⟨some 36,_,_,_,_,_⟩) rfl (by rfl) ?y7_1 ?_
 case y7_1=>intro w;go_simp<;>with_reducible rfl
 simp only [Act.put,sA,sZ,sS]
 refine' GoT.mv (i:=2) (oi:=⟨some 37,_,_,_,_,_⟩) rfl (by rfl) ?y7_2 ?_
 case y7_2=>intro w;go_simp<;>with_reducible rfl
 simp only [Act.put,sA,sZ,sS]
 refine' GoT.mv (i:=3) (oi:=⟨some 38,_,_,_,_,_⟩) rfl (by rfl) ?y7_3 ?_
 case y7_3=>intro w;go_simp<;>with_reducible rfl
 simp only [Act.put,sA,sZ,sS]
 refine' GoT.mv (i:=4) (oi:=⟨some 39,_,_,_,_,_⟩) rfl (by rfl) ?y7_4 ?_
 case y7_4=>intro w;go_simp<;>with_reducible rfl
 simp only [Act.put,sA,sZ,sS]
 refine' GoT.tk 3 (i:=5) (oi:=⟨some 40,_,_,_,_,_⟩) rfl (by rfl) ?y7_5 ?_
 case y7_5=>intro w hSw;go_simp<;>with_reducible rfl
 simp only [Act.put,sA,sZ,sS]
 refine' GoT.tk 3 (i:=6) (oi:=⟨some 41,_,_,_,_,_⟩) rfl (by rfl) ?y7_6 ?_
 case y7_6=>intro w hSw;go_simp<;>with_reducible rfl
 simp only [Act.put,sA,sZ,sS]
 refine' GoT.tk 3 (i:=9) (oi:=⟨some 44,_,_,_,_,_⟩) rfl (by rfl) ?y7_9 ?_
 case y7_9=>intro w hSw;go_simp<;>with_reducible rfl
 simp only [Act.put,sA,sZ,sS]
 refine' GoT.mv (i:=10) (oi:=⟨some 45,_,_,_,_,_⟩) rfl (by rfl) ?y7_10 ?_
 case y7_10=>intro w;go_simp<;>with_reducible rfl
 simp only [Act.put,sA,sZ,sS]
 refine' GoT.mv (i:=11) (oi:=⟨some 46,_,_,_,_,_⟩) rfl (by rfl) ?y7_11 ?_
 case y7_11=>intro w;go_simp<;>with_reducible rfl
 simp only [Act.put,sA,sZ,sS]
 refine' GoT.mv (i:=12) (oi:=⟨some 47,_,_,_,_,_⟩) rfl (by rfl) ?y7_12 ?_
 case y7_12=>intro w;go_simp<;>with_reducible rfl
 simp only [Act.put,sA,sZ,sS]
 refine' GoT.tk 3 (i:=13) (oi:=⟨some 48,_,_,_,_,_⟩) rfl (by rfl) ?y7_13 ?_
 case y7_13=>intro w hSw;go_simp<;>with_reducible rfl
 simp only [Act.put,sA,sZ,sS]
 refine GoT.one (i:=7) (o:=⟨some 42,_,_,_,_,_⟩) rfl (by kernel_rfl) fun K hK=>?_
 go_simp
 refine hK.out _ _ (fun _ h=>?_) ?_
 ·exact box_upd h ((Upd.refl [] _).alloc _) (by simp;omega) (by simp;omega) (by simp) (by simp)
 clear hK K
 try simp only [Act.put,sA,sZ,sS]
 refine GoT.one (i:=8) (o:=⟨some 43,_,_,_,_,_⟩) rfl (by kernel_rfl) fun K hK=>?_
 refine step_app _ (by rfl) _ _ 224 (by rfl) 0 339 i0 (.agg #[.int .u8 0,.int .i64 0,.int .i64 0,.int .i64 0,.int .i64 0,.int .i64 0,.int .i64 0]) 7 56 Tryz.underlying224 hi hy0 hy1 hy2 rfl (by decide) _ ns.length (KD.all ns) (by rfl) (owns_drew (own_upd HN2.out ((Upd.refl [] w2).alloc (.cells #[.int .u8 xk,.int .i64 xl,.int .i64 xr,.int .i64 xf,.int .i64 xt,.int .i64 xa,.int .i64 xi] 339)) (by simp))) _ 1 [.int .u8 xk,.int .i64 xl,.int .i64 xr,.int .i64 xf,.int .i64 xt,.int .i64 xa,.int .i64 xi] (by rfl) (sees_lit w2 #[.int .u8 xk,.int .i64 xl,.int .i64 xr,.int .i64 xf,.int .i64 xt,.int .i64 xa,.int .i64 xi] 339 7 1 rfl (by decide)).drew (by simp [Value.oneCell']) (by unfold maxLen;omega) (by omega) (Nat.zero_le _) ?_
 intro A C w3 HP
 refine hK.out _ _ (fun _ h=>?_) ?_
 ·exact box_upd h HP.upd (by simp;omega) (by simp;omega) HWN.out HBN.out
 clear hK K
 try simp only [Act.put,sA,sZ,sS]
 refine GoT.one (i:=14) (o:=⟨some 49,_,_,_,_,_⟩) rfl (by kernel_rfl) fun K hK=>?_
 have hk3:KB.row w3 0 (.slice Ak ks.length Ck) ks:=own_upd (own_upd (own_upd H.out.kids HU2.out (by simp)) (((Upd.refl [] w2).alloc _).drew) (by simp)) HP.upd (fun y hy hc=>H.out.nk y hc hy)
 have hc4:Calls Tryz.prog 327 #[.agg #[.int .u8 xk,.int .i64 xl,.int .i64 xr,.int .i64 xf,.int .i64 xt,.int .i64 xa,.int .i64 xi],.slice Ak ks.length Ck] w3 fun e w'=>∃A C,e=.returned (.slice A (ks.length+1) C)∧KB.row w' 0 (.slice A (ks.length+1) C) (ks'++[false])∧Upd (blk (.slice Ak ks.length Ck)) w3 w'∧∀y∈blk (.slice A (ks.length+1) C),y∈blk (.slice Ak ks.length Ck)∨w3.heap.size≤y:=HM.out.put _ _ hk3
 have HC4:=Lib.hid hc4
 clear hc4 hk3
 go_simp
 go_at_call 327
 (with_reducible refine HC4.out.mono ?_)
 rintro e w4 ⟨A2,C2,rfl,g2,g3,g4⟩
 have ha4:Upd [] w (w2.alloc (.cells #[.int .u8 xk,.int .i64 xl,.int .i64 xr,.int .i64 xf,.int .i64 xt,.int .i64 xa,.int .i64 xi] 339)).drew:=(HU2.out.alloc _).drew
 have hu4:Upd (blk (.slice An ns.length Cn)++blk (.slice Ak ks.length Ck)) w w4:=((ha4.mono (by simp)).trans (HP.upd.mono fun x hx=>.inl (List.mem_append_left _ hx))).trans (g3.mono fun x hx=>.inl (List.mem_append_right _ hx))
 have hbno:b∉blk (.slice An ns.length Cn)++blk (.slice Ak ks.length Ck):=by simp [HBN.out,HBK.out]
 have hh4:w4.heap[b]? = some (.cells #[.int .i64 most,.slice An ns.length Cn,.slice Ak ks.length Ck,.bool true] 375 (0,0)):=(hu4.block b hbw hbno).trans H.out.head
 have e41:w4.cell? ⟨b,1,none⟩=some (.slice An ns.length Cn):=by simp [World.cell?,hh4]
 have e42:w4.cell? ⟨b,2,none⟩=some (.slice Ak ks.length Ck):=by simp [World.cell?,hh4]
 have f41:w4.frozen? ⟨b,1,none⟩=false:=by simp [World.frozen?,hh4]
 have f42:w4.frozen? ⟨b,2,none⟩=false:=by simp [World.frozen?,hh4]
 have HG2:=Lib.hid g2
 have HG3:=Lib.hid g3
 have HG4:=Lib.hid g4
 have HU4:=Lib.hid hu4
 have HPP:=Lib.hid HP
 have HA4:=Lib.hid ha4
 clear g2 g3 g4 hu4 hbno hh4 HP ha4
 refine hK.out _ _ (fun h=>(by cases h)) ?_
 clear hK K
 try simp only [Act.put,sA,sZ,sS]
 refine' GoT.mv (i:=15) (oi:=⟨some 50,_,_,_,_,_⟩) rfl (by rfl) ?y7_15 ?_
 case y7_15=>intro w;go_simp<;>with_reducible rfl
 simp only [Act.put,sA,sZ,sS]
 refine' GoT.mv (i:=16) (oi:=⟨some 51,_,_,_,_,_⟩) rfl (by rfl) ?y7_16 ?_
 case y7_16=>intro w;go_simp<;>with_reducible rfl
 simp only [Act.put,sA,sZ,sS]
 refine GoT.one (i:=17) (o:=⟨none,_,_,_,_,_⟩) rfl (by kernel_rfl) fun K hK=>?_
 go_simp
 refine hK.out _ _ (fun h=>(by cases h)) ?_
 clear hK K
 try simp only [Act.put,sA,sZ,sS]
 refine' GoT.mv (i:=18) (oi:=⟨some 52,_,_,_,_,_⟩) rfl (by rfl) ?y7_18 ?_
 case y7_18=>intro w;go_simp<;>with_reducible rfl
 simp only [Act.put,sA,sZ,sS]
 refine' GoT.mv (i:=19) (oi:=⟨some 53,_,_,_,_,_⟩) rfl (by rfl) ?y7_19 ?_
 case y7_19=>intro w;go_simp<;>with_reducible rfl
 simp only [Act.put,sA,sZ,sS]
 refine GoT.one (i:=20) (o:=⟨none,_,_,_,_,_⟩) rfl (by kernel_rfl) fun K hK=>?_
 go_simp
 refine hK.out _ _ (fun h=>(by cases h)) ?_
 clear hK K
 try simp only [Act.put,sA,sZ,sS]
 refine GoT.done (by kernel_rfl) ?_
 go_wp2_with fail
 go_ret2
 obtain ⟨r1,r2,r3⟩:=H.out.put ⟨xk,xl,xr,xf,xt,xa,xi⟩ HA4.out HPP.out HG2.out HG3.out HG4.out HL.out
 exact ⟨ret_pair (by omega),_,_,r1,r2,r3⟩
end Go.Proofs.YtkbaaonchdeneaaGreat
