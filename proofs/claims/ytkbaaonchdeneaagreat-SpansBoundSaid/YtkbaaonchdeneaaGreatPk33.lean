/- frame: its nodes once made; the nodes that make up a range; the way down to a leaf. frame.Canon: the nodes that make up a range. frame.Path: from the root to a leaf. -/
import Derived.BigQuiet
import Derived.Deep.QuietTactic
import Derived.Deep.LoopGhost
import Derived.Deep.Light
import Derived.Laws.OwnMore
import Derived.OwnWalk
import Derived.Deep.DeepCutAuto
import Derived.Deep.CutBlock
import Derived.Test.YtkbaaonchdeneaaGreatPkSpansTellP9
import Derived.Test.YtkbaaonchdeneaaGreatPkSpansTellP7
import Derived.Test.YtkbaaonchdeneaaGreatPk6
set_option maxHeartbeats 4000000
set_option maxRecDepth 100000
namespace Go.Proofs.YtkbaaonchdeneaaGreat
open Go.RowKit Go.Shelf
attribute [local go_sem ↓] Go.wp_at_zero Go.wp_at_succ
structure FrmD (w:World) (b:Nat) (vn:Value) (n:Nat):Prop where
 head:w.heap[b]? = some (.cells #[.int .u32 1,.int .i32 0,.int .u32 0,vn,.int .i64 (n:Int),.bool true] 312 (0,0))
 row:KD.row w 0 vn (nodesN n)
 out:b∉blk vn
theorem FrmD.upd {w w':World} {b:Nat} {vn:Value} {n:Nat} (h:FrmD w b vn n) {F:List Nat} (hu:Upd F w w') (h1:b∉F) (h2:∀y∈blk vn,y∉F):FrmD w' b vn n:=
 ⟨(hu.block b (lt_of_block h.head) h1).trans h.head,own_upd h.row hu h2,h.out⟩
def AllPost (w:World) (b n:Nat) (e:Ending) (w':World):Prop:=
 ∃A C,e=.returned (.slice A (nodesN n).length C)∧KD.row w' w.heap.size (.slice A (nodesN n).length C) (nodesN n)∧Upd [b] w w'∧FrmD w' b (.slice A (nodesN n).length C) n
def NodesPostD (w:World) (b n:Nat) (e:Ending) (w':World):Prop:=
 ∃A C,e=.returned (.slice A (nodesN n).length C)∧KD.row w' w.heap.size (.slice A (nodesN n).length C) (nodesN n)∧Upd [b] w w'∧∃vn,FrmD w' b vn n∧∀y∈blk vn,w.heap.size≤y
theorem frameAllD (b n:Nat) (w:World) (hn:n<400000) (h:FrameAt w b n) :
 Calls Tryz.prog 225 #[.pointer (some ⟨b,0,none⟩)] w (AllPost w b n):=by
 have hbw:=lt_of_block h
 have hmf:∀(fn:Fn) (first cap:Array Value) (w:World),(Instr.makeFunc fn first cap).run Tryz.prog w=.ok (.func fn first cap) w:=fun _ _ _ _=>rfl
 have hu0:Upd [] w (w.alloc (.cells #[.pointer (some ⟨b,0,none⟩)] 212)):=(Upd.refl _ _).alloc _
 have hl0:(w.alloc (.cells #[.pointer (some ⟨b,0,none⟩)] 212)).cell? ⟨w.heap.size,0,none⟩=some (.pointer (some ⟨b,0,none⟩)):=by rw [World.cell?_alloc_at _ _ _ _ rfl];rfl
 have h0:=(hu0.block b hbw (by simp)).trans h
 have hs0:w.heap.size<(w.alloc (.cells #[.pointer (some ⟨b,0,none⟩)] 212)).heap.size:=by simp
 generalize hW0:w.alloc (.cells #[.pointer (some ⟨b,0,none⟩)] 212)=W0 at hu0 hl0 h0 hs0
 have hbl:(⟨b,1,none⟩:Addr)≠⟨w.heap.size,0,none⟩:=fun e=>by injection e with e _ _;omega
 have h1:(W0.setCell ⟨b,1,none⟩ (.int .i32 1)).heap[b]? = some (.cells #[.int .u32 0,.int .i32 1,.int .u32 0,.slice none 0 0,.int .i64 (n:Int),.bool true] 312 (0,0)):=heap_set h0 1 _
 have hl1:(W0.setCell ⟨b,1,none⟩ (.int .i32 1)).cell? ⟨w.heap.size,0,none⟩=some (.pointer (some ⟨b,0,none⟩)):=(World.cell?_setCell_other _ _ _ _ hbl).trans hl0
 have hu1:Upd [b] W0 (W0.setCell ⟨b,1,none⟩ (.int .i32 1)):=(Upd.refl _ _).setCell (.inl (by simp)) _
 obtain ⟨⟨c0,c1,_⟩,cf⟩:=six_cells h0
 have hcl:Calls Tryz.prog 261 #[.pointer (some ⟨w.heap.size,0,none⟩)] (W0.setCell ⟨b,1,none⟩ (.int .i32 1)) fun e w'=>e=.returned (.tuple #[])∧MadeR (W0.setCell ⟨b,1,none⟩ (.int .i32 1)) b n w':=by
  rcases Nat.eq_zero_or_pos n with rfl | hp
  ·exact allIn_zero b _ _ hl1 h1
  ·exact allIn_pos b _ n _ hp hn hl1 h1
 have hdo:=do_first b _ _ W0 hcl (fun w' hr=>by
  obtain ⟨vn,g1,_,_⟩:=hr
  obtain ⟨⟨e0,e1,_⟩,ef⟩:=six_cells g1
  exact ⟨e0,e1,ef 0,ef 1⟩) c0 c1 (cf 1)
 have HDO:=Lib.hid hdo
 have HU:=Lib.hid (And.intro hu0 hu1)
 have HL:=Lib.hid hl1
 have HW:=Lib.hid hW0
 have HS:=Lib.hid hs0
 clear hdo hcl hu0 hu1 hl1 h1 h0 c0 c1 cf h hbl hW0
 go_enter Tryz.func225,Tryz.ntmps225
 go_upto_region 1 with fail
 rw [HW.out]
 go_wp2_with fail
 (with_reducible refine HDO.out.mono ?_)
 rintro e w' ⟨rfl,w2,⟨vn,g1,g2,g3⟩,rfl⟩
 obtain ⟨A,C,rfl⟩:=own_form g2
 have k1:=heap_set (heap_set g1 0 (.int .u32 1)) 1 (.int .i32 0)
 have k2:Upd [b] w2 ((w2.setCell ⟨b,0,none⟩ (.int .u32 1)).setCell ⟨b,1,none⟩ (.int .i32 0)).drew:=(((Upd.refl [b] w2).setCell (p:=⟨b,0,none⟩) (.inl (by simp)) _).setCell (p:=⟨b,1,none⟩) (.inl (by simp)) _).drew
 have hs1:W0.heap.size=(W0.setCell ⟨b,1,none⟩ (.int .i32 1)).heap.size:=by simp [World.setCell]
 have hbv:b∉blk (.slice A (nodesN n).length C):=fun hc=>by
  have:=own_ge g2 b hc
  rw [←hs1] at this
  omega
 have k3:KD.row ((w2.setCell ⟨b,0,none⟩ (.int .u32 1)).setCell ⟨b,1,none⟩ (.int .i32 0)).drew W0.heap.size (.slice A (nodesN n).length C) (nodesN n):=by
  rw [hs1]
  exact own_upd g2 k2 (fun y hy hc=>hbv (by simp at hc;rw [←hc];exact hy))
 have hlb2:w.heap.size≠b:=by omega
 have k4:((w2.setCell ⟨b,0,none⟩ (.int .u32 1)).setCell ⟨b,1,none⟩ (.int .i32 0)).drew.cell? ⟨w.heap.size,0,none⟩=some (.pointer (some ⟨b,0,none⟩)):=
  ((g3.trans k2).cell (p:=⟨w.heap.size,0,none⟩) (by rw [←hs1];exact HS.out) (by simpa using hlb2)).trans HL.out
 have k5:((w2.setCell ⟨b,0,none⟩ (.int .u32 1)).setCell ⟨b,1,none⟩ (.int .i32 0)).drew.cell? ⟨b,3,none⟩=some (.slice A (nodesN n).length C):=by
  rw [World.cell?_drew]
  unfold World.cell?
  rw [k1]
  rfl
 have k6:FrmD ((w2.setCell ⟨b,0,none⟩ (.int .u32 1)).setCell ⟨b,1,none⟩ (.int .i32 0)).drew b (.slice A (nodesN n).length C) n:=⟨k1,own_base k3 (Nat.zero_le _),hbv⟩
 have HF6:=Lib.hid k6
 have HE:=Lib.hid (And.intro k3 (HU.out.1.mono (G:=[b]) (by simp) |>.trans (HU.out.2.trans (g3.trans k2))))
 have HSZ:w.heap.size≤W0.heap.size:=Nat.le_of_lt HS.out
 clear k1 k2 k3 k6 g1 g2 g3 hs1 hbv hlb2
 generalize ((w2.setCell ⟨b,0,none⟩ (.int .u32 1)).setCell ⟨b,1,none⟩ (.int .i32 0)).drew=W3 at *
 go_wp2_with fail
 go_ret
 exact ⟨A,C,rfl,own_base HE.out.1 HSZ,HE.out.2,HF6.out⟩
theorem frameNodesD (b n:Nat) (w:World) (hn:n<400000) (h:FrameAt w b n) :
 Calls Tryz.prog 154 #[.pointer (some ⟨b,0,none⟩)] w (NodesPostD w b n):=by
 obtain ⟨i0,hi,hz0,hz1,hz2⟩:=info_parts info_nd
 have hbw:=lt_of_block h
 have hu0:Upd [] w (w.alloc (.cells #[] 339)):=(Upd.refl _ _).alloc _
 have hr0:(w.alloc (.cells #[] 339)).ownsRow w.heap.size 339 7 (.slice (some ⟨w.heap.size,0,none⟩) 0 0) 0 []:=⟨rfl,.inr ⟨w.heap.size,0,#[],rfl,Nat.le_refl _,heap_alloc_new w _,Nat.le_refl _,Nat.zero_le _,rfl,rfl⟩⟩
 have hs0:w.heap.size<(w.alloc (.cells #[] 339)).heap.size:=by simp
 have hnn:=frameNone b n w h
 have hal:=frameAllD b n (w.alloc (.cells #[] 339)) hn ((hu0.block b hbw (by simp)).trans h)
 have hl:=nodesN_len n
 obtain ⟨N,hN⟩:∃N,(nodesN n).length=N:=⟨_,rfl⟩
 have HN:=Lib.hid hnn
 have HA:=Lib.hid hal
 have HU:=Lib.hid hu0
 have HR:=Lib.hid hr0
 have HNE:=Lib.hid hN
 have hNb:N<1000000:=by omega
 clear hnn hal hu0 hr0 h hl hN
 go_enter Tryz.func154,Tryz.ntmps154
 go_wp2_with fail
 (with_reducible refine HN.out.mono ?_)
 rintro e w' ⟨rfl,rfl⟩
 go_wp2_with fail
 (with_reducible refine HA.out.mono ?_)
 rintro e w' ⟨A,C,rfl,g1,g2,g3⟩
 have HF:=Lib.hid g3
 have HGE:=Lib.hid (fun y hy=>own_ge g1 y hy)
 clear g3
 have k1:w'.ownsRow w.heap.size 339 7 (.slice (some ⟨w.heap.size,0,none⟩) 0 0) 0 []:=own_upd HR.out g2 (by simp [blk];omega)
 have k2:=sees_of_own g1
 rw [HNE.out] at k2 ⊢
 have k3:w.heap.size≤w'.heap.size:=by have:=g2.size;omega
 have HK:=Lib.hid (And.intro k1 k2)
 have HG:=Lib.hid g2
 clear k1 k2 g1 g2
 go_wp2_with (at_builtin;refine wpList_app _ rfl _ _ 224 rfl w.heap.size 339 i0 (.agg #[.int .u8 0,.int .i64 0,.int .i64 0,.int .i64 0,.int .i64 0,.int .i64 0,.int .i64 0]) 7 56 Tryz.underlying224 hi hz0 hz1 hz2 rfl (by decide) _ 0 [] rfl HK.out.1 _ N (KD.all (nodesN n)) rfl HK.out.2 (KD.all_one _) (by unfold maxLen;omega) (by omega) k3 ?_)
 intro A2 C2 w2 HP
 have HP2:=Lib.hid HP
 clear HP
 go_wp2_with fail
 go_ret
 have e1:=HP2.out.own
 have e2:=HP2.out.upd
 refine ⟨A2,C2,?_,?_,?_,?_⟩
 ·rw [HNE.out];rfl
 ·rw [HNE.out]
  unfold Kind.row
  rw [HNE.out]
  have e1':w2.ownsRow w.heap.size 339 7 (.slice A2 N C2) N (KD.all (nodesN n)):=by simpa using e1
  exact e1'
 ·exact ((HU.out.mono (by simp)).trans HG.out).trans' e2 (fun y hy=>.inr (by simp [blk] at hy;omega))
 ·have hs:=HF.out
  have hb:=lt_of_block hs.head
  refine ⟨_,hs.upd e2 ?_ ?_,fun y hy=>by have:=HGE.out y hy;simp at this;omega⟩
  ·intro hc;simp [blk] at hc;omega
  ·intro y hy hc
   have:=HGE.out y hy
   simp [blk] at hc this
   omega
end Go.Proofs.YtkbaaonchdeneaaGreat
namespace Go.Proofs.YtkbaaonchdeneaaGreat
open Go.RowKit Go.Shelf
theorem do_done (b:Nat) (f:Value) (w:World) (h0:w.cell? ⟨b,0,none⟩=some (.int .u32 1)) :
 Calls Tryz.prog 260 #[.pointer (some ⟨b,0,none⟩),f] w fun e w'=>e=.returned (.tuple #[])∧Upd [] w w':=by
 have hl:=run_call_load (P:=Tryz.prog) Tryz.func322 (by kernel_rfl) (by kernel_rfl) (by kernel_rfl) .u32 (by kernel_rfl) h0
 have hnot:∀(x:Bool) (w:World),(Op.unary .not (.bool x)).run Tryz.prog w=.ok (.bool (!x)) w:=fun _ _=>rfl
 go_enter Tryz.func260,Tryz.ntmps260
 go_wp2_with (go_at_call 302;go_in)
 go_end0
 exact ⟨rfl,Upd.refl _ _⟩
theorem frameNoneD (b n:Nat) (vn:Value) (w:World) (h:FrmD w b vn n) :
 Calls Tryz.prog 224 #[.pointer (some ⟨b,0,none⟩)] w fun e w'=>e=.returned (.bool false)∧w=w':=by
 have c5:w.cell? ⟨b,5,none⟩=some (.bool true):=by have:=h.head;simp [World.cell?,this]
 clear h
 go_enter Tryz.func224,Tryz.ntmps224
 go_wp2_with fail
 go_ret
 exact ⟨rfl,rfl⟩
theorem frameLeavesD (b n:Nat) (vn:Value) (w:World) (h:FrmD w b vn n) :
 Calls Tryz.prog 223 #[.pointer (some ⟨b,0,none⟩)] w fun e w'=>e=.returned (.int .i64 (n:Int))∧w=w':=by
 have c4:w.cell? ⟨b,4,none⟩=some (.int .i64 (n:Int)):=by have:=h.head;simp [World.cell?,this]
 have HN:=Lib.hid (frameNoneD b n vn w h)
 clear h
 go_enter Tryz.func223,Tryz.ntmps223
 go_wp2_with fail
 (with_reducible refine HN.out.mono ?_)
 rintro e w' ⟨rfl,rfl⟩
 go_wp2_with fail
 go_ret
 exact ⟨rfl,rfl⟩
theorem frameRootD (b n:Nat) (vn:Value) (w:World) (hn:n<1000000) (h0:0<n) (h:FrmD w b vn n) :
 Calls Tryz.prog 153 #[.pointer (some ⟨b,0,none⟩)] w fun e w'=>e=.returned (.int .i64 ((2*n - 2:Nat):Int))∧w=w':=by
 have c4:w.cell? ⟨b,4,none⟩=some (.int .i64 (n:Int)):=by have:=h.head;simp [World.cell?,this]
 have HN:=Lib.hid (frameLeavesD b n vn w h)
 clear h
 have hd:((n:Int)==0)=false:=by simp;omega
 have b0:(0:Int)≤(n:Int):=Int.natCast_nonneg _
 have b1:(n:Int)<1000000:=by omega
 have hr:((2*n - 2:Nat):Int)=2*(n:Int) - 2:=by omega
 have HRR:=Lib.hid hr
 clear hr
 go_enter Tryz.func153,Tryz.ntmps153
 go_wp2_with fail
 (with_reducible refine HN.out.mono ?_)
 rintro e w' ⟨rfl,rfl⟩
 go_wp2_with fail
 go_ret
 exact ⟨by rw [HRR.out];rfl,rfl⟩
theorem frameAllE (b n:Nat) (vn:Value) (w:World) (h:FrmD w b vn n) :
 Calls Tryz.prog 225 #[.pointer (some ⟨b,0,none⟩)] w fun e w'=>e=.returned vn∧Upd [] w w':=by
 have hbw:=lt_of_block h.head
 have hmf:∀(fn:Fn) (first cap:Array Value) (w:World),(Instr.makeFunc fn first cap).run Tryz.prog w=.ok (.func fn first cap) w:=fun _ _ _ _=>rfl
 have hu0:Upd [] w (w.alloc (.cells #[.pointer (some ⟨b,0,none⟩)] 212)):=(Upd.refl _ _).alloc _
 have hl0:(w.alloc (.cells #[.pointer (some ⟨b,0,none⟩)] 212)).cell? ⟨w.heap.size,0,none⟩=some (.pointer (some ⟨b,0,none⟩)):=by rw [World.cell?_alloc_at _ _ _ _ rfl];rfl
 have h0:=h.upd hu0 (by simp) (by simp)
 have hs0:w.heap.size<(w.alloc (.cells #[.pointer (some ⟨b,0,none⟩)] 212)).heap.size:=by simp
 generalize hW0:w.alloc (.cells #[.pointer (some ⟨b,0,none⟩)] 212)=W0 at hu0 hl0 h0 hs0
 have hdo:=do_done b (.func (.func 261) #[] #[.pointer (some ⟨w.heap.size,0,none⟩)]) W0 (six_cells h0.head).1.1
 have HDO:=Lib.hid hdo
 have HU:=Lib.hid hu0
 have HL:=Lib.hid hl0
 have HW:=Lib.hid hW0
 have HS:=Lib.hid hs0
 have H0:=Lib.hid h0
 clear hdo hu0 h h0 hW0
 go_enter Tryz.func225,Tryz.ntmps225
 go_upto_region 1 with fail
 rw [HW.out]
 go_wp2_with fail
 (with_reducible refine HDO.out.mono ?_)
 rintro e w' ⟨rfl,hu⟩
 have k4:w'.cell? ⟨w.heap.size,0,none⟩=some (.pointer (some ⟨b,0,none⟩)):=(hu.cell (p:=⟨w.heap.size,0,none⟩) HS.out (by simp)).trans HL.out
 have k5:=(six_cells (H0.out.upd hu (by simp) (by simp)).head).1.2.2.2.1
 have HU2:=Lib.hid (HU.out.trans hu)
 clear hu
 go_wp2_with fail
 go_ret
 exact ⟨rfl,HU2.out⟩
open Go.RowKit
attribute [local go_sem ↓] Go.wp_at_zero Go.wp_at_succ
theorem infoIntS:(Tryz.prog.info? 3).map (fun i=>(i.zero,i.size,i.bytes))=some (some (.int .i64 0),1,8):=by kernel_rfl
structure SubN (n f t o:Nat):Prop where
 lt:f<t
 le:t≤n
 at_:∀(k:Nat) (x:Nd),(nodesL f t o)[k]? = some x→(nodesN n)[o+k]? = some x
theorem sub_all {n:Nat} (h:0<n):SubN n 0 n 0:=⟨h,Nat.le_refl _,fun k x hx=>by
 unfold nodesN
 rw [if_neg (by omega),Nat.zero_add]
 exact hx⟩
theorem sub_kids {n f t o:Nat} (h:SubN n f t o) (h1:f+1<t):SubN n f (mid f t) o∧SubN n (mid f t) t (o+2*(mid f t - f) - 1)∧
 (nodesN n)[o+2*(t - f) - 2]? = some ⟨2,((o+2*(mid f t - f) - 2:Nat):Int),((o+2*(mid f t - f) - 1+2*(t - mid f t) - 2:Nat):Int),f,t,0,0⟩:=by
 have hm:=mid_in h1
 have hn:=nodesL_node o h1
 have l1:=nodesL_length o hm.1
 have l2:=nodesL_length (o+2*(mid f t - f) - 1) hm.2
 have hle:=h.le
 refine ⟨⟨hm.1,by omega,fun k x hx=>h.at_ k x ?_⟩,⟨hm.2,h.le,fun k x hx=>?_⟩,?_⟩
 ·rw [hn,List.getElem?_append_left ((List.getElem?_eq_some_iff.1 hx).1)]
  exact hx
 ·have hk:=(List.getElem?_eq_some_iff.1 hx).1
  have:=h.at_ (2*(mid f t - f) - 1+k) x (by
   rw [hn,List.getElem?_append_right (by omega),List.getElem?_append_left (by omega),←hx]
   congr 1
   omega)
  rw [←this]
  congr 1
  omega
 ·have:=h.at_ (2*(t - f) - 2) _ (by
   rw [hn,List.getElem?_append_right (by omega),List.getElem?_append_right (by omega)]
   have e:2*(t - f) - 2 - (nodesL f (mid f t) o).length - (nodesL (mid f t) t (o+2*(mid f t - f) - 1)).length=0:=by omega
   rw [e]
   rfl)
  rw [←this]
  congr 1
  omega
theorem sub_leaf {n f t o:Nat} (h:SubN n f t o) (h1:¬f+1<t):(nodesN n)[o+2*(t - f) - 2]? = some ⟨1,-1,-1,f,t,0,f⟩:=by
 have:=h.at_ 0 _ (by rw [nodesL_leaf o h1];rfl)
 have hl:=h.lt
 rw [←this]
 congr 1
 omega
theorem sub_root {n f t o:Nat} (h:SubN n f t o):∃k l r it,(nodesN n)[o+2*(t - f) - 2]? = some ⟨k,l,r,f,t,0,it⟩:=by
 by_cases h1:f+1<t
 ·exact ⟨_,_,_,_,(sub_kids h h1).2.2⟩
 ·exact ⟨_,_,_,_,sub_leaf h h1⟩
theorem sub_lt {n f t o:Nat} (h:SubN n f t o):o+2*(t - f) - 2<2*n - 1:=by
 obtain ⟨k,l,r,it,e⟩:=sub_root h
 have:=(List.getElem?_eq_some_iff.1 e).1
 rwa [nodesN_len] at this
def topP (e:Nat×Nat×Nat):Nat:=e.2.2+2*(e.2.1 - e.1) - 2
def sizP (S:List (Nat×Nat×Nat)):Nat:=(S.map fun e=>2*(e.2.1 - e.1) - 1).sum
def canS (a b:Nat) (S:List (Nat×Nat×Nat)):List Nat:=S.flatMap fun e=>canonL a b e.1 e.2.1 e.2.2
structure CanSt (w wr:World) (n a b:Nat) (vo vu:Value) (S:List (Nat×Nat×Nat)) (U:List Nat):Prop where
 ro:KN.row wr w.heap.size vo (S.reverse.map topP)
 ru:KN.row wr w.heap.size vu U
 dis:∀y∈blk vo,y∉blk vu
 sub:∀e∈S,SubN n e.1 e.2.1 e.2.2
 all:U++canS a b S=canonL a b 0 n 0
 upd:Upd [] w wr
theorem row_at {α:Type} {K:Kind α} {w:World} {base:Nat} {v:Value} {l:List α} (h:K.row w base v l) {k:Nat} {x:α} (hx:l[k]? = some x) :
 ∃g C,v=.slice (some ⟨g,0,none⟩) l.length C∧(∀j u,(K.enc x)[j]? = some u→w.cell? ⟨g,k*K.sz+j,none⟩=some u)∧(∀j,w.frozen? ⟨g,j,none⟩=false):=by
 have hk:=(List.getElem?_eq_some_iff.1 hx).1
 obtain ⟨g,C,rfl,_,_⟩:=World.ownsRow.form h (by omega)
 obtain ⟨b,o,h1,h2,h3,h4⟩:=(See.of_row h).at hx
 cases h1
 refine ⟨g,C,rfl,fun j u hu=>?_,fun j=>World.ownsRow.frozenAt h j⟩
 have:=h4 j u hu
 rwa [Nat.zero_add] at this
theorem int_decS {a b:Nat} {c:Bool} (h:decide (a≤b)=c):decide ((a:Int)≤(b:Int))=c:=by
 rw [←h];exact decide_eq_decide.2 (by omega)
theorem canonL_len:∀(d a b f t o:Nat),t - f≤d→f<t→(canonL a b f t o).length≤2*(t - f) - 1
 |0,_,_,_,_,_,hd,hft=>by omega
 |d+1,a,b,f,t,o,hd,hft=>by
  by_cases h:t≤a∨b≤f
  ·rw [canonL_out h];exact Nat.zero_le _
  ·by_cases h1:a≤f∧t≤b
   ·rw [canonL_in h h1,List.length_singleton];omega
   ·have h2:f+1<t:=by omega
    have hm:=mid_in h2
    rw [canonL_node h h1 h2,List.length_append]
    have:=canonL_len d a b f (mid f t) o (by omega) hm.1
    have:=canonL_len d a b (mid f t) t (o+2*(mid f t - f) - 1) (by omega) hm.2
    omega
theorem len_siz {n:Nat}:∀{S:List (Nat×Nat×Nat)},(∀e∈S,SubN n e.1 e.2.1 e.2.2)→S.length≤sizP S
 | [],_=>Nat.zero_le _
 |(f,t,o)::S,h=>by
  have h1:=(h _ (List.mem_cons_self ..)).lt
  have h2:=len_siz (S:=S) fun e he=>h e (List.mem_cons_of_mem _ he)
  rw [show sizP ((f,t,o)::S)=2*(t - f) - 1+sizP S by simp [sizP],List.length_cons]
  dsimp only at h1
  omega
theorem canS_cons (a b f t o:Nat) (S:List (Nat×Nat×Nat)):canS a b ((f,t,o)::S)=canonL a b f t o++canS a b S:=rfl
theorem sizP_cons (f t o:Nat) (S:List (Nat×Nat×Nat)):sizP ((f,t,o)::S)=2*(t - f) - 1+sizP S:=by simp [sizP]
theorem canonC (b_:Nat) (vn:Value) (n a b:Nat) (w:World) (hn:n<400000) (hab:a<b) (hbn:b≤n) (h:FrmD w b_ vn n) :
 Calls Tryz.prog 255 #[.pointer (some ⟨b_,0,none⟩),.int .i64 (a:Int),.int .i64 (b:Int)] w fun e w'=>
  ∃(k:Nat) (A:Option Addr) (C:Nat),e=.returned (.tuple #[.slice A (canonL a b 0 n 0).length C,.int .i64 (k:Int),.int .i64 0])∧KN.row w' w.heap.size (.slice A (canonL a b 0 n 0).length C) (canonL a b 0 n 0)∧Upd [] w w':=by
 obtain ⟨i0,hi,hz0,hz1,hz2⟩:=info_parts infoIntS
 have hbw:=lt_of_block h.head
 have c4:w.cell? ⟨b_,4,none⟩=some (.int .i64 (n:Int)):=(six_cells h.head).1.2.2.2.2.1
 have a0:(0:Int)≤(a:Int):=Int.natCast_nonneg _
 have b0:(0:Int)≤(b:Int):=Int.natCast_nonneg _
 have hd1:decide ((a:Int)<0)=false:=decide_eq_false (by omega)
 have hd2:decide ((b:Int)<(a:Int))=false:=decide_eq_false (by omega)
 have hd3:decide ((n:Int)<(b:Int))=false:=decide_eq_false (by omega)
 have hd4:((a:Int)==(b:Int))=false:=by simp;omega
 have HN:=Lib.hid (frameNoneD b_ n vn w h)
 have HA:=Lib.hid (frameAllE b_ n vn w h)
 have H0:=Lib.hid h
 obtain ⟨An,Cn,rfl⟩:=own_form h.row
 clear h
 go_enter Tryz.func255,Tryz.ntmps255
 go_wp2_with fail
 (with_reducible refine HN.out.mono ?_)
 rintro e w' ⟨rfl,rfl⟩
 go_wp2_with fail
 (with_reducible refine HA.out.mono ?_)
 rintro e w1 ⟨rfl,hu1⟩
 have hr:=frameRootD b_ n _ w1 (by omega) (by omega) (H0.out.upd hu1 (by simp) (by simp))
 have HR:=Lib.hid hr
 have HU1:=Lib.hid hu1
 clear hr hu1 hd1 hd2 hd3 hd4 c4
 go_wp2_with fail
 (with_reducible refine HR.out.mono ?_)
 rintro e w' ⟨rfl,rfl⟩
 go_wp2_with fail
 have hst:CanSt w (w1.alloc (.cells #[.int .i64 ((2*n - 2:Nat):Int)] 3)) n a b (.slice (some ⟨w1.heap.size,0,none⟩) 1 1) (.slice none 0 0) [(0,n,0)] []:={
  ro:=by
   have:=World.ownsRow_lit (base:=w.heap.size) (e:=3) (size:=1) w1 #[.int .i64 ((2*n - 2:Nat):Int)] 1 HU1.out.size (by decide) rfl
   simpa [Kind.row,KN,topP,Kind.all] using this
  ru:=World.ownsRow_nil _ _ _ _
  dis:=by simp [blk]
  sub:=fun e he=>by
   simp at he
   subst he
   exact sub_all (by omega)
  all:=by rw [canS_cons];simp [canS]
  upd:=HU1.out.alloc _ }
 have hsz0:sizP [(0,n,0)]=2*n - 1:=by simp [sizP]
 go_loopg [10,11,12] (2*n - 1) (fun m s10 s11 s12 wr=>∃(vo vu:Value) (S:List (Nat×Nat×Nat)) (U:List Nat) (k:Nat),sizP S=m∧s10=vu∧s11=.int .i64 (k:Int)∧s12=vo∧k+sizP S≤2*n - 1∧CanSt w wr n a b vo vu S U)
 case atStart=>exact ⟨_,_,_,_,0,hsz0,rfl,rfl,rfl,by omega,hst⟩
 case round=>
  obtain ⟨vo,vu,S,U,k,hm,rfl,rfl,rfl,hk,hs⟩:=hrel
  clear hst hsz0
  obtain ⟨g,C,rfl⟩:=own_form hs.ro
  obtain ⟨gu,Cu,rfl⟩:=own_form hs.ru
  have k0:(0:Int)≤(k:Int):=Int.natCast_nonneg _
  have hkb:k<1000000:=by omega
  cases S with
  |nil=>
   have hU:=hs.all
   simp [canS] at hU
   have HS:=Lib.hid hs
   have HUU:=Lib.hid hU
   clear hs hU hm hk
   go_wp2_with fail
   go_ret3
   refine ⟨k,gu,Cu,by rw [←HUU.out];rfl,?_,HS.out.upd⟩
   rw [←HUU.out]
   exact HS.out.ru
  |cons e S=>
   obtain ⟨f,t,o⟩:=e
   have hsub:=hs.sub _ (List.mem_cons_self ..)
   dsimp only at hsub
   obtain ⟨p,hp⟩:∃p,topP (f,t,o)=p:=⟨_,rfl⟩
   have hrev:((f,t,o)::S).reverse.map topP=S.reverse.map topP++[p]:=by simp [hp]
   obtain ⟨N,hN⟩:∃N,(S.reverse.map topP).length=N:=⟨_,rfl⟩
   have hNS:S.length=N:=by rw [←hN];simp
   have hlen2:(S.reverse.map topP++[p]).length=N+1:=by simp [hNS]
   have hro:=hs.ro
   rw [hrev,hlen2] at hro hs
   rw [hrev,hlen2]
   have hx:(S.reverse.map topP++[p])[N]? = some p:=by rw [←hN];simp
   obtain ⟨g',C',hg,ec,-⟩:=row_at hro hx
   rw [hlen2] at hg
   injection hg with hg1 _ hg3
   subst hg1 hg3
   have hp0:wr.cell? ⟨g',N,none⟩=some (.int .i64 (p:Int)):=by
    have:=ec 0 _ rfl
    simpa [KN] using this
   have hro2:=hro
   unfold Kind.row at hro2
   rw [hlen2] at hro2
   have hcut:=fun w'=>cut_head (P:=Tryz.prog) Tryz.underlying163 hi g' (N+1) C N (by have:=own_cap hro2;omega) w'
   have hls:=len_siz hs.sub
   rw [List.length_cons,hNS] at hls
   have hNb:N<1000000:=by omega
   have N0:(0:Int)≤(N:Int):=Int.natCast_nonneg _
   have HS:=Lib.hid hs
   have HK:=Lib.hid (And.intro hm hk)
   have HSUB:=Lib.hid hsub
   have HP:=Lib.hid hp
   have HREV:=Lib.hid (And.intro hrev (And.intro hN (And.intro hNS hlen2)))
   have HRO:=Lib.hid hro2
   clear hs hm hk hsub hp hrev hN hNS hlen2 hro hro2 hx ec hls
   have hpl:=sub_lt HSUB.out
   have hpe:o+2*(t - f) - 2=p:=HP.out
   obtain ⟨xk,xl,xr,xi,hnd⟩:=sub_root HSUB.out
   rw [hpe] at hnd hpl
   have hN1:=own_upd H0.out.row HS.out.upd (by simp)
   obtain ⟨gn,Cn',hgn,en1,-⟩:=row_at (K:=KD) hN1 hnd
   injection hgn with hgn1 _ hgn3
   subst hgn1 hgn3
   have n0:wr.cell? ⟨gn,p*7,none⟩=some (.int .u8 xk):=en1 0 _ rfl
   have n1:wr.cell? ⟨gn,p*7+1,none⟩=some (.int .i64 xl):=en1 1 _ rfl
   have n2:wr.cell? ⟨gn,p*7+2,none⟩=some (.int .i64 xr):=en1 2 _ rfl
   have n3:wr.cell? ⟨gn,p*7+3,none⟩=some (.int .i64 (f:Int)):=en1 3 _ rfl
   have n4:wr.cell? ⟨gn,p*7+4,none⟩=some (.int .i64 (t:Int)):=en1 4 _ rfl
   have n5:wr.cell? ⟨gn,p*7+5,none⟩=some (.int .i64 0):=en1 5 _ rfl
   have n6:wr.cell? ⟨gn,p*7+6,none⟩=some (.int .i64 xi):=en1 6 _ rfl
   have p0:(0:Int)≤(p:Int):=Int.natCast_nonneg _
   have hNL:=nodesN_len n
   have p1:(p:Int)<((nodesN n).length:Int):=by omega
   have HND:=Lib.hid hnd
   clear hN1 en1 hnd hpe hNL hpl
   obtain ⟨wl,hwl⟩:∃wl:World,wl=wr:=⟨_,rfl⟩
   subst hwl
   go_upto_region 17 with fail
   have hW2:Upd [] wl (wl.alloc (.cells #[.int .u8 xk,.int .i64 xl,.int .i64 xr,.int .i64 (f:Int),.int .i64 (t:Int),.int .i64 0,.int .i64 xi] 339)):=(Upd.refl _ _).alloc _
   have d1:(wl.alloc (.cells #[.int .u8 xk,.int .i64 xl,.int .i64 xr,.int .i64 (f:Int),.int .i64 (t:Int),.int .i64 0,.int .i64 xi] 339)).cell? ⟨wl.heap.size,1,none⟩=some (.int .i64 xl):=by rw [World.cell?_alloc_at _ _ _ _ rfl];rfl
   have d2:(wl.alloc (.cells #[.int .u8 xk,.int .i64 xl,.int .i64 xr,.int .i64 (f:Int),.int .i64 (t:Int),.int .i64 0,.int .i64 xi] 339)).cell? ⟨wl.heap.size,2,none⟩=some (.int .i64 xr):=by rw [World.cell?_alloc_at _ _ _ _ rfl];rfl
   have d3:(wl.alloc (.cells #[.int .u8 xk,.int .i64 xl,.int .i64 xr,.int .i64 (f:Int),.int .i64 (t:Int),.int .i64 0,.int .i64 xi] 339)).cell? ⟨wl.heap.size,3,none⟩=some (.int .i64 (f:Int)):=by rw [World.cell?_alloc_at _ _ _ _ rfl];rfl
   have d4:(wl.alloc (.cells #[.int .u8 xk,.int .i64 xl,.int .i64 xr,.int .i64 (f:Int),.int .i64 (t:Int),.int .i64 0,.int .i64 xi] 339)).cell? ⟨wl.heap.size,4,none⟩=some (.int .i64 (t:Int)):=by rw [World.cell?_alloc_at _ _ _ _ rfl];rfl
   have HW2:=Lib.hid hW2
   clear hW2 n0 n1 n2 n3 n4 n5 n6
   generalize (wl.alloc (.cells #[.int .u8 xk,.int .i64 xl,.int .i64 xr,.int .i64 (f:Int),.int .i64 (t:Int),.int .i64 0,.int .i64 xi] 339))=W2 at HW2 d1 d2 d3 d4 ⊢
   have hst2:∃vo,vo=Value.slice (some ⟨g',0,none⟩) N C∧KN.row W2 w.heap.size vo (S.reverse.map topP):=⟨_,rfl,by
    have h1:=own_take HRO.out N (by omega)
    have h2:=own_upd h1 HW2.out (by simp)
    unfold Kind.row
    rw [HREV.out.2.1]
    have e:(KN.all (S.reverse.map topP++[p])).take (N*1)=KN.all (S.reverse.map topP):=by
     have:=KN.all_take (S.reverse.map topP++[p]) N
     rw [show KN.sz=1 from rfl] at this
     rw [←this,←HREV.out.2.1,List.take_left' rfl]
    rw [show KN.sz=1 from rfl] at h2
    rw [e] at h2
    exact h2⟩
   have hru2:KN.row W2 w.heap.size (.slice gu U.length Cu) U:=own_upd HS.out.ru HW2.out (by simp)
   have hdis2:∀y∈blk (.slice (some ⟨g',0,none⟩) N C),y∉blk (.slice gu U.length Cu):=fun y hy=>HS.out.dis y (by simpa [blk] using hy)
   have hup2:Upd [] w W2:=HS.out.upd.trans HW2.out
   have hsub2:∀e∈S,SubN n e.1 e.2.1 e.2.2:=fun e he=>HS.out.sub e (List.mem_cons_of_mem _ he)
   have hall:=HS.out.all
   rw [canS_cons] at hall
   have hsz:=HK.out.1
   rw [sizP_cons] at hsz
   have hkk:=HK.out.2
   rw [sizP_cons] at hkk
   obtain ⟨vo,hvo,hro2⟩:=hst2
   have HX:=Lib.hid (And.intro hru2 (And.intro hdis2 (And.intro hup2 (And.intro hsub2 (And.intro hall (And.intro hsz (And.intro hkk hro2)))))))
   have hft:=HSUB.out.lt
   have hwz:w.heap.size≤W2.heap.size:=hup2.size
   clear hru2 hdis2 hup2 hsub2 hall hsz hkk hro2 hcut
   obtain ⟨q1,hq1⟩:∃q,decide (t≤a)=q:=⟨_,rfl⟩
   obtain ⟨q2,hq2⟩:∃q,decide (b≤f)=q:=⟨_,rfl⟩
   obtain ⟨q3,hq3⟩:∃q,decide (a≤f)=q:=⟨_,rfl⟩
   obtain ⟨q4,hq4⟩:∃q,decide (t≤b)=q:=⟨_,rfl⟩
   have z1:=int_decS hq1
   have z2:=int_decS hq2
   have z3:=int_decS hq3
   have z4:=int_decS hq4
   have HQ:=Lib.hid (And.intro hq1 (And.intro hq2 (And.intro hq3 hq4)))
   clear hq1 hq2 hq3 hq4
   subst hvo
   cases q1
   ·have HQ1:=of_decide_eq_false HQ.out.1
    cases q2
    ·have HQ2:=of_decide_eq_false HQ.out.2.1
     cases q3
     ·have HQ3:=of_decide_eq_false HQ.out.2.2.1
      have hf1:f+1<t:=by omega
      have hmi:=mid_in hf1
      obtain ⟨ks1,ks2,ks3⟩:=sub_kids HSUB.out hf1
      have hpe:o+2*(t - f) - 2=p:=HP.out
      rw [hpe,HND.out] at ks3
      obtain ⟨L,hL⟩:∃L,o+2*(mid f t - f) - 2=L:=⟨_,rfl⟩
      obtain ⟨R,hR⟩:∃R,o+2*(mid f t - f) - 1+2*(t - mid f t) - 2=R:=⟨_,rfl⟩
      rw [hL,hR] at ks3
      injection ks3 with ks3
      injection ks3 with _ e1 e2
      subst e1 e2
      have HKS:=Lib.hid (And.intro ks1 (And.intro ks2 (And.intro hL (And.intro hR (And.intro hf1 hmi)))))
      clear ks1 ks2 hL hR hpe hf1 hmi
      go_wp2_with (at_builtin;refine wpList_app _ rfl _ _ 163 rfl w.heap.size 3 i0 (.int .i64 0) 1 8 Tryz.underlying163 hi hz0 hz1 hz2 rfl (by decide) _ _ _ rfl (own_upd (by have h:=HX.out.2.2.2.2.2.2.2;unfold Kind.row at h;rw [HREV.out.2.1] at h;exact h) ((Upd.refl [] W2).alloc _) (by simp)) _ 2 [.int .i64 (R:Int),.int .i64 (L:Int)] rfl (sees_lit W2 #[.int .i64 (R:Int),.int .i64 (L:Int)] 3 1 2 rfl (by decide)) (by simp [Value.oneCell']) (by have:=hNb;unfold maxLen;omega) (by have:=hNb;omega) (by simp;omega) ?_)
      intro A2 C2 W3 HP3
      have HP4:=Lib.hid HP3
      clear HP3 z1 z2 z3 z4
      go_wp2_with fail
      obtain ⟨hru2,hdis2,hup2,hsub2,hall,hsz,hkk,hro2⟩:=HX.out
      obtain ⟨ks1,ks2,hL,hR,hf1,hmi⟩:=HKS.out
      go_roundg (sizP ((f,mid f t,o)::(mid f t,t,o+2*(mid f t - f) - 1)::S))
      case measure=>rw [sizP_cons,sizP_cons];omega
      case rel=>
       have hu3:Upd (blk (.slice (some ⟨g',0,none⟩) N C)) W2 W3:=((Upd.refl _ W2).alloc _).trans HP4.out.upd
       have hgl:g'<W2.heap.size:=own_lt hro2 g' (by simp [blk])
       refine ⟨_,_,(f,mid f t,o)::(mid f t,t,o+2*(mid f t - f) - 1)::S,U,k+1,rfl,rfl,by go_num,rfl,by rw [sizP_cons,sizP_cons];omega,⟨?_,?_,?_,?_,?_,?_⟩⟩
       ·have h1:=HP4.out.own
        rw [←List.map_reverse] at h1
        have e:((f,mid f t,o)::(mid f t,t,o+2*(mid f t - f) - 1)::S).reverse.map topP=S.reverse.map topP++[R,L]:=by
         simp [topP,←hL,←hR]
        rw [e]
        unfold Kind.row
        rw [KN.all_app,List.length_append,HREV.out.2.1]
        exact h1
       ·exact own_upd hru2 hu3 (fun y hy hc=>hdis2 y hc hy)
       ·intro y hy hc
        have hyl:=own_lt hru2 y hc
        rcases HP4.out.at with h | h
        ·rw [h] at hy;exact hdis2 y hy hc
        ·rw [h] at hy;simp at hy;omega
       ·intro e he
        rcases List.mem_cons.1 he with rfl | he
        ·exact ks1
        ·rcases List.mem_cons.1 he with rfl | he
         ·exact ks2
         ·exact hsub2 e he
       ·rw [canS_cons,canS_cons,←List.append_assoc (canonL _ _ _ _ _),←canonL_node (by omega) (by omega) hf1]
        exact hall
       ·exact hup2.trans' hu3 (fun y hy=>.inr (by have:=own_ge hro2 y hy;exact this))
     ·have HQ3:=of_decide_eq_true HQ.out.2.2.1
      cases q4
      ·have HQ4:=of_decide_eq_false HQ.out.2.2.2
       have hf1:f+1<t:=by omega
       have hmi:=mid_in hf1
       obtain ⟨ks1,ks2,ks3⟩:=sub_kids HSUB.out hf1
       have hpe:o+2*(t - f) - 2=p:=HP.out
       rw [hpe,HND.out] at ks3
       obtain ⟨L,hL⟩:∃L,o+2*(mid f t - f) - 2=L:=⟨_,rfl⟩
       obtain ⟨R,hR⟩:∃R,o+2*(mid f t - f) - 1+2*(t - mid f t) - 2=R:=⟨_,rfl⟩
       rw [hL,hR] at ks3
       injection ks3 with ks3
       injection ks3 with _ e1 e2
       subst e1 e2
       have HKS:=Lib.hid (And.intro ks1 (And.intro ks2 (And.intro hL (And.intro hR (And.intro hf1 hmi)))))
       clear ks1 ks2 hL hR hpe hf1 hmi
       go_wp2_with (at_builtin;refine wpList_app _ rfl _ _ 163 rfl w.heap.size 3 i0 (.int .i64 0) 1 8 Tryz.underlying163 hi hz0 hz1 hz2 rfl (by decide) _ _ _ rfl (own_upd (by have h:=HX.out.2.2.2.2.2.2.2;unfold Kind.row at h;rw [HREV.out.2.1] at h;exact h) ((Upd.refl [] W2).alloc _) (by simp)) _ 2 [.int .i64 (R:Int),.int .i64 (L:Int)] rfl (sees_lit W2 #[.int .i64 (R:Int),.int .i64 (L:Int)] 3 1 2 rfl (by decide)) (by simp [Value.oneCell']) (by have:=hNb;unfold maxLen;omega) (by have:=hNb;omega) (by simp;omega) ?_)
       intro A2 C2 W3 HP3
       have HP4:=Lib.hid HP3
       clear HP3 z1 z2 z3 z4
       go_wp2_with fail
       obtain ⟨hru2,hdis2,hup2,hsub2,hall,hsz,hkk,hro2⟩:=HX.out
       obtain ⟨ks1,ks2,hL,hR,hf1,hmi⟩:=HKS.out
       go_roundg (sizP ((f,mid f t,o)::(mid f t,t,o+2*(mid f t - f) - 1)::S))
       case measure=>rw [sizP_cons,sizP_cons];omega
       case rel=>
        have hu3:Upd (blk (.slice (some ⟨g',0,none⟩) N C)) W2 W3:=((Upd.refl _ W2).alloc _).trans HP4.out.upd
        have hgl:g'<W2.heap.size:=own_lt hro2 g' (by simp [blk])
        refine ⟨_,_,(f,mid f t,o)::(mid f t,t,o+2*(mid f t - f) - 1)::S,U,k+1,rfl,rfl,by go_num,rfl,by rw [sizP_cons,sizP_cons];omega,⟨?_,?_,?_,?_,?_,?_⟩⟩
        ·have h1:=HP4.out.own
         rw [←List.map_reverse] at h1
         have e:((f,mid f t,o)::(mid f t,t,o+2*(mid f t - f) - 1)::S).reverse.map topP=S.reverse.map topP++[R,L]:=by
          simp [topP,←hL,←hR]
         rw [e]
         unfold Kind.row
         rw [KN.all_app,List.length_append,HREV.out.2.1]
         exact h1
        ·exact own_upd hru2 hu3 (fun y hy hc=>hdis2 y hc hy)
        ·intro y hy hc
         have hyl:=own_lt hru2 y hc
         rcases HP4.out.at with h | h
         ·rw [h] at hy;exact hdis2 y hy hc
         ·rw [h] at hy;simp at hy;omega
        ·intro e he
         rcases List.mem_cons.1 he with rfl | he
         ·exact ks1
         ·rcases List.mem_cons.1 he with rfl | he
          ·exact ks2
          ·exact hsub2 e he
        ·rw [canS_cons,canS_cons,←List.append_assoc (canonL _ _ _ _ _),←canonL_node (by omega) (by omega) hf1]
         exact hall
        ·exact hup2.trans' hu3 (fun y hy=>.inr (by have:=own_ge hro2 y hy;exact this))
      ·have HQ4:=of_decide_eq_true HQ.out.2.2.2
       have hUl:U.length<1000000:=by
        have h1:=congrArg List.length HS.out.all
        have h2:=canonL_len n a b 0 n 0 (by omega) (by omega)
        rw [List.length_append] at h1
        omega
       go_wp2_with (at_builtin;refine wpList_app _ rfl _ _ 163 rfl w.heap.size 3 i0 (.int .i64 0) 1 8 Tryz.underlying163 hi hz0 hz1 hz2 rfl (by decide) _ _ _ rfl (own_upd (by have h:=HX.out.1;unfold Kind.row at h;exact h) ((Upd.refl [] W2).alloc _) (by simp)) _ 1 [.int .i64 (p:Int)] rfl (sees_lit W2 #[.int .i64 (p:Int)] 3 1 1 rfl (by decide)) (by simp [Value.oneCell']) (by have:=hUl;unfold maxLen;omega) (by have:=hUl;omega) (by simp;omega) ?_)
       intro A2 C2 W3 HP3
       have HP4:=Lib.hid HP3
       clear HP3 z1 z2 z3 z4
       go_wp2_with fail
       obtain ⟨hru2,hdis2,hup2,hsub2,hall,hsz,hkk,hro2⟩:=HX.out
       go_roundg (sizP S)
       case measure=>omega
       case rel=>
        have hu3:Upd (blk (.slice gu U.length Cu)) W2 W3:=((Upd.refl _ W2).alloc _).trans HP4.out.upd
        refine ⟨_,.slice A2 (U++[p]).length C2,S,U++[p],k+1,rfl,by rw [List.length_append];rfl,by go_num,rfl,by omega,⟨?_,?_,?_,hsub2,?_,?_⟩⟩
        ·exact own_upd hro2 hu3 (fun y hy hc=>hdis2 y hy hc)
        ·have h1:=HP4.out.own
         unfold Kind.row
         rw [KN.all_app,List.length_append]
         exact h1
        ·intro y hy hc
         rw [List.length_append] at hc
         have hyl:=own_lt hro2 y hy
         rcases HP4.out.at with h | h
         ·rw [show (List.length [p])=1 from rfl,h] at hc;exact hdis2 y hy hc
         ·rw [show (List.length [p])=1 from rfl,h] at hc;simp at hc;omega
        ·rw [canonL_in (by omega) (by omega)] at hall
         rw [←hall,List.append_assoc]
         have hpe:o+2*(t - f) - 2=p:=HP.out
         rw [hpe]
        ·exact hup2.trans' hu3 (fun y hy=>.inr (by have:=own_ge hru2 y hy;exact this))
    ·have HQ2:=of_decide_eq_true HQ.out.2.1
     go_wp2_with fail
     clear z1 z2 z3 z4
     go_roundg (sizP S)
     case measure=>have:=HX.out.2.2.2.2.2.1;omega
     case rel=>
      obtain ⟨hru2,hdis2,hup2,hsub2,hall,hsz,hkk,hro2⟩:=HX.out
      rw [canonL_out (by omega),List.nil_append] at hall
      exact ⟨_,_,S,U,k+1,rfl,rfl,by go_num,rfl,by omega,⟨hro2,hru2,hdis2,hsub2,hall,hup2⟩⟩
   ·have HQ1:=of_decide_eq_true HQ.out.1
    go_wp2_with fail
    clear z1 z2 z3 z4
    go_roundg (sizP S)
    case measure=>have:=HX.out.2.2.2.2.2.1;omega
    case rel=>
     obtain ⟨hru2,hdis2,hup2,hsub2,hall,hsz,hkk,hro2⟩:=HX.out
     rw [canonL_out (by omega),List.nil_append] at hall
     exact ⟨_,_,S,U,k+1,rfl,rfl,by go_num,rfl,by omega,⟨hro2,hru2,hdis2,hsub2,hall,hup2⟩⟩
attribute [local go_sem ↓] Go.wp_at_zero Go.wp_at_succ
theorem pathL_bound:∀(d s f t o:Nat),t - f≤d→f<t→(pathL s f t o).length≤2*(t - f) - 1
 |0,_,_,_,_,hd,hft=>by omega
 |d+1,s,f,t,o,hd,hft=>by
  by_cases h2:f+1<t
  ·have hm:=mid_in h2
   by_cases hs:s<mid f t
   ·rw [pathL_left h2 hs,List.length_cons]
    have:=pathL_bound d s f (mid f t) o (by omega) hm.1
    omega
   ·rw [pathL_right h2 hs,List.length_cons]
    have:=pathL_bound d s (mid f t) t (o+2*(mid f t - f) - 1) (by omega) hm.2
    omega
  ·rw [pathL_leaf h2,List.length_singleton];omega
theorem pathC (b_:Nat) (vn:Value) (n s:Nat) (w:World) (hn:n<400000) (hsn:s<n) (h:FrmD w b_ vn n) :
 Calls Tryz.prog 217 #[.pointer (some ⟨b_,0,none⟩),.int .i64 (s:Int)] w fun e w'=>
  ∃(A:Option Addr) (C:Nat),e=.returned (.tuple #[.slice A (pathL s 0 n 0).length C,.int .i64 0])∧KN.row w' w.heap.size (.slice A (pathL s 0 n 0).length C) (pathL s 0 n 0)∧Upd [] w w':=by
 obtain ⟨i0,hi,hz0,hz1,hz2⟩:=info_parts infoIntS
 have hbw:=lt_of_block h.head
 have c4:w.cell? ⟨b_,4,none⟩=some (.int .i64 (n:Int)):=(six_cells h.head).1.2.2.2.2.1
 have s0:(0:Int)≤(s:Int):=Int.natCast_nonneg _
 have hd1:decide ((s:Int)<0)=false:=decide_eq_false (by omega)
 have hd2:decide ((n:Int)≤(s:Int))=false:=decide_eq_false (by omega)
 have HN:=Lib.hid (frameNoneD b_ n vn w h)
 have HA:=Lib.hid (frameAllE b_ n vn w h)
 have H0:=Lib.hid h
 obtain ⟨An,Cn,rfl⟩:=own_form h.row
 clear h
 go_enter Tryz.func217,Tryz.ntmps217
 go_wp2_with fail
 (with_reducible refine HN.out.mono ?_)
 rintro e w' ⟨rfl,rfl⟩
 go_wp2_with fail
 (with_reducible refine HA.out.mono ?_)
 rintro e w1 ⟨rfl,hu1⟩
 have hr:=frameRootD b_ n _ w1 (by omega) (by omega) (H0.out.upd hu1 (by simp) (by simp))
 have HR:=Lib.hid hr
 have HU1:=Lib.hid hu1
 clear hr hu1 hd1 hd2 c4
 go_wp2_with fail
 (with_reducible refine HR.out.mono ?_)
 rintro e w' ⟨rfl,rfl⟩
 go_wp2_with fail
 have hst:KN.row (w1.alloc (.cells #[.int .i64 ((2*n - 2:Nat):Int)] 3)) w.heap.size (.slice (some ⟨w1.heap.size,0,none⟩) 1 1) [2*n - 2]:=by
  have:=World.ownsRow_lit (base:=w.heap.size) (e:=3) (size:=1) w1 #[.int .i64 ((2*n - 2:Nat):Int)] 1 HU1.out.size (by decide) rfl
  simpa [Kind.row,KN,Kind.all] using this
 have HST:=Lib.hid (And.intro hst (HU1.out.alloc (.cells #[.int .i64 ((2*n - 2:Nat):Int)] 3)))
 clear hst
 go_loopg [7,8] n (fun m s7 s8 wr=>∃(vu:Value) (f t o:Nat) (V:List Nat) (p:Nat) (U:List Nat),t - f=m∧s7=.int .i64 (p:Int)∧topP (f,t,o)=p∧s8=vu∧U=V++[p]∧SubN n f t o∧(f≤s∧s<t)∧V++pathL s f t o=pathL s 0 n 0∧Upd [] w wr∧KN.row wr w.heap.size vu U)
 case atStart=>exact ⟨_,0,n,0,[],2*n - 2,[2*n - 2],by omega,rfl,by simp [topP],rfl,rfl,sub_all (by omega),⟨Nat.zero_le _,hsn⟩,rfl,HST.out.2,HST.out.1⟩
 case round=>
  obtain ⟨vu,f,t,o,V,p,U,hm,rfl,hp,rfl,hUV,hsub,hfs,hall,hup,hru⟩:=hrel
  obtain ⟨gu,Cu,rfl⟩:=own_form hru
  have hpe:o+2*(t - f) - 2=p:=hp
  have hpl:=sub_lt hsub
  rw [hpe] at hpl
  have hUl:U.length<1000000:=by
   have h1:=congrArg List.length hall
   have h2:=pathL_bound n s 0 n 0 (by omega) (by omega)
   have h3:0<(pathL s f t o).length:=by
    rw [pathL]
    simp
   rw [List.length_append] at h1
   rw [hUV,List.length_append,List.length_singleton]
   omega
  have hNL:=nodesN_len n
  have p0:(0:Int)≤(p:Int):=Int.natCast_nonneg _
  have p1:(p:Int)<((nodesN n).length:Int):=by omega
  have hN1:=own_upd H0.out.row hup (by simp)
  have hwz:w.heap.size≤wr.heap.size:=hup.size
  have HS:=Lib.hid (And.intro hm (And.intro hfs (And.intro hall (And.intro hup hru))))
  have HUV:=Lib.hid hUV
  clear hm hall hup hru hUV hp
  by_cases hf1:f+1<t
  ·have hmi:=mid_in hf1
   obtain ⟨ks1,ks2,ks3⟩:=sub_kids hsub hf1
   rw [hpe] at ks3
   obtain ⟨L,hL⟩:∃L,o+2*(mid f t - f) - 2=L:=⟨_,rfl⟩
   obtain ⟨R,hR⟩:∃R,o+2*(mid f t - f) - 1+2*(t - mid f t) - 2=R:=⟨_,rfl⟩
   obtain ⟨yk,yl,yr,yi,hnl⟩:=sub_root ks1
   have hLl:=sub_lt ks1
   rw [hL] at hnl hLl
   rw [hL,hR] at ks3
   obtain ⟨gn,Cn',hgn,en1,-⟩:=row_at (K:=KD) hN1 ks3
   injection hgn with hgn1 _ hgn3
   subst hgn1 hgn3
   obtain ⟨gn2,Cn2,hgn2,en2,-⟩:=row_at (K:=KD) hN1 hnl
   injection hgn2 with hgn21 _ hgn22
   injection hgn21 with hgn21
   injection hgn21 with hgn21
   subst hgn21 hgn22
   have n0:wr.cell? ⟨gn,p*7,none⟩=some (.int .u8 2):=en1 0 _ rfl
   have n1:wr.cell? ⟨gn,p*7+1,none⟩=some (.int .i64 (L:Int)):=en1 1 _ rfl
   have n2:wr.cell? ⟨gn,p*7+2,none⟩=some (.int .i64 (R:Int)):=en1 2 _ rfl
   have c4:wr.cell? ⟨gn,L*7+4,none⟩=some (.int .i64 ((mid f t:Nat):Int)):=en2 4 _ rfl
   have L0:(0:Int)≤(L:Int):=Int.natCast_nonneg _
   have L1:(L:Int)<((nodesN n).length:Int):=by omega
   have HKS:=Lib.hid (And.intro ks1 (And.intro ks2 (And.intro hL (And.intro hR (And.intro hf1 hmi)))))
   have HPE:=Lib.hid hpe
   clear hN1 en1 en2 hnl ks1 ks2 ks3 hL hR hpe hNL hpl hLl hsub
   obtain ⟨wl,hwl⟩:∃wl:World,wl=wr:=⟨_,rfl⟩
   subst hwl
   by_cases hsm:s<mid f t
   ·have hd:decide ((s:Int)<((mid f t:Nat):Int))=true:=decide_eq_true (by omega)
    go_wp2_with (at_builtin;refine wpList_app _ rfl _ _ 163 rfl w.heap.size 3 i0 (.int .i64 0) 1 8 Tryz.underlying163 hi hz0 hz1 hz2 rfl (by decide) _ _ _ rfl (own_upd (by have h:=HS.out.2.2.2.2;unfold Kind.row at h;exact h) ((Upd.refl [] wl).alloc _) (by simp)) _ 1 [.int .i64 (L:Int)] rfl (sees_lit wl #[.int .i64 (L:Int)] 3 1 1 rfl (by decide)) (by simp [Value.oneCell']) (by have:=hUl;unfold maxLen;omega) (by have:=hUl;omega) (by simp;omega) ?_)
    intro A2 C2 W3 HP3
    have HP4:=Lib.hid HP3
    clear HP3 n0 n1 n2 c4
    go_wp2_with fail
    obtain ⟨hm,hfs,hall,hup,hru⟩:=HS.out
    obtain ⟨ks1,ks2,hL,hR,hf1,hmi⟩:=HKS.out
    go_roundg (mid f t - (f))
    case measure=>omega
    case rel=>
     have hu3:Upd (blk (.slice gu U.length Cu)) wl W3:=((Upd.refl _ wl).alloc _).trans HP4.out.upd
     refine ⟨.slice A2 (U++[L]).length C2,f,mid f t,o,U,L,U++[L],rfl,rfl,hL,by rw [List.length_append];rfl,rfl,ks1,by omega,?_,?_,?_⟩
     ·rw [pathL_left hf1 (by omega)] at hall
      rw [HPE.out] at hall
      rw [HUV.out,List.append_assoc]
      exact hall
     ·exact hup.trans' hu3 (fun y hy=>.inr (by have:=own_ge hru y hy;exact this))
     ·have h1:=HP4.out.own
      unfold Kind.row
      rw [KN.all_app,List.length_append]
      exact h1
   ·have hd:decide ((s:Int)<((mid f t:Nat):Int))=false:=decide_eq_false (by omega)
    go_wp2_with (at_builtin;refine wpList_app _ rfl _ _ 163 rfl w.heap.size 3 i0 (.int .i64 0) 1 8 Tryz.underlying163 hi hz0 hz1 hz2 rfl (by decide) _ _ _ rfl (own_upd (by have h:=HS.out.2.2.2.2;unfold Kind.row at h;exact h) ((Upd.refl [] wl).alloc _) (by simp)) _ 1 [.int .i64 (R:Int)] rfl (sees_lit wl #[.int .i64 (R:Int)] 3 1 1 rfl (by decide)) (by simp [Value.oneCell']) (by have:=hUl;unfold maxLen;omega) (by have:=hUl;omega) (by simp;omega) ?_)
    intro A2 C2 W3 HP3
    have HP4:=Lib.hid HP3
    clear HP3 n0 n1 n2 c4
    go_wp2_with fail
    obtain ⟨hm,hfs,hall,hup,hru⟩:=HS.out
    obtain ⟨ks1,ks2,hL,hR,hf1,hmi⟩:=HKS.out
    go_roundg (t - (mid f t))
    case measure=>omega
    case rel=>
     have hu3:Upd (blk (.slice gu U.length Cu)) wl W3:=((Upd.refl _ wl).alloc _).trans HP4.out.upd
     refine ⟨.slice A2 (U++[R]).length C2,mid f t,t,o+2*(mid f t - f) - 1,U,R,U++[R],rfl,rfl,hR,by rw [List.length_append];rfl,rfl,ks2,by omega,?_,?_,?_⟩
     ·rw [pathL_right hf1 (by omega)] at hall
      rw [HPE.out] at hall
      rw [HUV.out,List.append_assoc]
      exact hall
     ·exact hup.trans' hu3 (fun y hy=>.inr (by have:=own_ge hru y hy;exact this))
     ·have h1:=HP4.out.own
      unfold Kind.row
      rw [KN.all_app,List.length_append]
      exact h1
  ·have hnd:=sub_leaf hsub hf1
   rw [hpe] at hnd
   obtain ⟨gn,Cn',hgn,en1,-⟩:=row_at (K:=KD) hN1 hnd
   injection hgn with hgn1 _ hgn3
   subst hgn1 hgn3
   have n0:wr.cell? ⟨gn,p*7,none⟩=some (.int .u8 1):=en1 0 _ rfl
   have HE:=Lib.hid (show U=pathL s 0 n 0 by
    have:=HS.out.2.2.1
    rw [pathL_leaf hf1,hpe] at this
    rw [HUV.out];exact this)
   clear hN1 en1 hnd hpe hsub
   go_wp2_with fail
   go_ret2
   refine ⟨gu,Cu,by rw [←HE.out];rfl,?_,HS.out.2.2.2.1⟩
   rw [←HE.out]
   exact HS.out.2.2.2.2
end Go.Proofs.YtkbaaonchdeneaaGreat
