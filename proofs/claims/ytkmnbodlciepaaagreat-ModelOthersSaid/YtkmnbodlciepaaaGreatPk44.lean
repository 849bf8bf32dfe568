/- cover.move: a span is held once more, or less. -/
import Derived.IntWalk
import Derived.Test.YtkmnbodlciepaaaGreatPk42
import Derived.Test.YtkmnbodlciepaaaGreatPk43
set_option maxHeartbeats 4000000
set_option maxRecDepth 100000
namespace Go.Proofs.YtkmnbodlciepaaaGreat
open Go.RowKit
open Go.ChangeMaps (setBlock heap_setBlock_same heap_setBlock_other)
attribute [local go_sem ↓] Go.wp_at_zero Go.wp_at_succ
theorem setBlock_upd (w:World) (b:Nat) (o':Obj):Upd [b] w (setBlock w b o'):=
 ⟨rfl,rfl,rfl,by simp [setBlock],fun k _ hk=>by
  have hne:b≠k:=fun e=>hk (by simp [e])
  simp [setBlock,hne]⟩
theorem setBlock_same (w:World) (b:Nat) (o':Obj) (h:b<w.heap.size):(setBlock w b o').heap[b]? = some o':=by
 simp [setBlock,h]
def oN (c:Cnt) (n:Nat):List Int:=if n=0 then [] else oL c 0 n 0 (n+1)
def pN (c:Cnt) (M:List Int) (n:Nat):List Part:=if n=0 then [] else pL c (mf M) 0 n 0 (n+1)
def entN (s:Nat×Nat) (n:Nat):Nat:=if s.1=s.2 then 0 else ent s.1 s.2 0 n
def MovePost (w:World) (b:Nat) (mv nv ov pv:Value) (hb N:Nat) (M:List Int) (L:List Nd) (O:List Int) (P:List Part) (root:Int) (q:Nat×Nat→Int) (k:Nat) (e:Ending) (w':World):Prop:=
 e=.returned (.int .i64 (k:Int))∧(∃en,CovM w' b mv nv ov pv hb M L O P root en)∧HeldAt w' hb N q∧Upd (hb::covF b ov pv) w w'
theorem moveHeld (b:Nat) (mv nv ov pv:Value) (hb N:Nat) (M:List Int) (L:List Nd) (O O':List Int) (P P':List Part) (root en:Int) (w:World) (q:Nat×Nat→Int) (s1 s2:Nat) (y:Int) (k:Nat)
 (h:CovM w b mv nv ov pv hb M L O P root en) (hq:HeldAt w hb N q) (hN:N<1000000) (hs1:s1<1000000) (hs2:s2<1000000) (hy0 : -1≤y) (hy1:y≤1) (hq0:0≤q (s1,s2)) (hq1:q (s1,s2)≤1000000)
 (hch:∀w2,CovM w2 b mv nv ov pv hb M L O P root 0→s1≠s2→Calls Tryz.prog 137 #[.pointer (some ⟨b,0,none⟩),.int .i64 root,.agg #[.int .i64 (s1:Int),.int .i64 (s2:Int)],.int .i64 y] w2 (ChPost w2 b mv nv ov pv hb M L O' P' root (k:Int)))
 (hk:s1=s2→k=0∧O'=O∧P'=P) :
 Calls Tryz.prog 102 #[.pointer (some ⟨b,0,none⟩),.agg #[.int .i64 (s1:Int),.int .i64 (s2:Int)],.int .i64 y] w (MovePost w b mv nv ov pv hb (N+1) M L O' P' root (fun u=>if u=(s1,s2) then q (s1,s2)+y else q u) k):=by
 have hwf:(Lit.int .i64 (q (s1,s2)+y)).wf=true:=by simp [Lit.wf,IntKind.min,IntKind.max,IntKind.signed,IntKind.bits];omega
 have hu1:Upd [] w (w.alloc (.cells #[.int .i64 (s1:Int),.int .i64 (s2:Int)] 152)):=(Upd.refl _ _).alloc _
 have h1:=h.upd0 hu1
 have hq1':=hq.upd hu1 (by simp)
 have x0:(w.alloc (.cells #[.int .i64 (s1:Int),.int .i64 (s2:Int)] 152)).cell? ⟨w.heap.size,0,none⟩=some (.int .i64 (s1:Int)):=by rw [World.cell?_alloc_at _ _ _ _ rfl];rfl
 have x1:(w.alloc (.cells #[.int .i64 (s1:Int),.int .i64 (s2:Int)] 152)).cell? ⟨w.heap.size,1,none⟩=some (.int .i64 (s2:Int)):=by rw [World.cell?_alloc_at _ _ _ _ rfl];rfl
 have hz1:w.heap.size<(w.alloc (.cells #[.int .i64 (s1:Int),.int .i64 (s2:Int)] 152)).heap.size:=by simp
 have hbh:b≠hb:=h.bh
 have hbF:b∈covF b ov pv:=by simp [covF]
 have hhl:hb<w.heap.size:=hq.lt
 have HLT:=Lib.hid h.lt
 have hwq:IntKind.i64.wrap (q (s1,s2)+y)=q (s1,s2)+y:=IntWalk.i64_in _ ⟨by omega,by omega⟩
 have HCH:=Lib.hid hch
 have HKK:=Lib.hid hk
 clear hch hk h hq
 go_enter Tryz.func102,Tryz.ntmps102
 go_upto_region 1 with fail
 generalize (w.alloc (.cells #[.int .i64 (s1:Int),.int .i64 (s2:Int)] 152))=W1 at hu1 h1 hq1' x0 x1 hz1 ⊢
 obtain ⟨st,o1,ME,LK0,rest⟩:=(show HeldAt W1.drew hb N q from hq1').move hN (s1,s2) hs1 hs2 y hwf
 have LK:(Instr.lookup 148 (.map (some hb)) (.agg #[.int .i64 (s1:Int),.int .i64 (s2:Int)]) false).run Tryz.prog W1.drew=.ok (.int .i64 (q (s1,s2))) W1.drew:=LK0
 have ME1:(Instr.mapEntry 148 (.map (some hb)) (.agg #[.int .i64 (s1:Int),.int .i64 (s2:Int)])).run Tryz.prog W1.drew=.ok (.tuple #[.int .i64 (q (s1,s2)),.int .i64 (st:Int)]) (setBlock W1.drew hb o1):=ME
 have hhl1:hb<W1.drew.heap.size:=hq1'.lt
 have hw2:(setBlock W1.drew hb o1).heap[hb]? = some o1:=setBlock_same _ _ _ hhl1
 have SU:=setBlock_upd W1.drew hb o1
 obtain ⟨LK2,o2,ES,hfin⟩:=rest _ hw2
 have LK2':(Instr.lookup 148 (.map (some hb)) (.agg #[.int .i64 (s1:Int),.int .i64 (s2:Int)]) false).run Tryz.prog (setBlock W1.drew hb o1)=.ok (.int .i64 (q (s1,s2))) (setBlock W1.drew hb o1):=LK2
 have SU2:=setBlock_upd (setBlock W1.drew hb o1) hb o2
 have hfin2:=hfin (setBlock (setBlock W1.drew hb o1) hb o2) (setBlock_same _ _ o2 (by simpa [setBlock] using hhl1))
 have UU:=SU.trans SU2
 have HFIN:=Lib.hid hfin2
 have HUU:=Lib.hid UU
 clear ME LK0 rest hfin hfin2 UU SU2 hw2 hhl1 LK2
 generalize setBlock (setBlock W1.drew hb o1) hb o2=W3 at *
 generalize setBlock W1.drew hb o1=W2 at *
 obtain ⟨-,-,-,-,-,y5,-,-⟩:=h1.cells
 have hbw1:b<W1.heap.size:=lt_of_block h1.head
 have LK2:=LK2'
 have y0:=x0
 have y1:=x1
 have H1:=Lib.hid h1
 have HSUL:=Lib.hid (And.intro SU LK2)
 clear LK2' h1 hq1' x0 x1
 refine GoT.start [7,10] (fun w'=>w'.cell? ⟨b,5,none⟩=some (.map (some hb))∧w'.cell? ⟨w.heap.size,0,none⟩=some (.int .i64 (s1:Int))∧w'.cell? ⟨w.heap.size,1,none⟩=some (.int .i64 (s2:Int))∧(Instr.lookup 148 (.map (some hb)) (.agg #[.int .i64 (s1:Int),.int .i64 (s2:Int)]) false).run Tryz.prog w'=.ok (.int .i64 (q (s1,s2))) w') (by kernel_rfl) ?_ fun hS=>?_
 ·exact ⟨y5,y0,y1,LK⟩
 refine' GoT.mv (i:=0) (oi:=⟨some 7,_,_,_,_,_⟩) rfl (by rfl) ?y1_0 ?_
 case y1_0=>intro w;go_simp<;>with_reducible rfl
 simp only [Act.put,sA,sZ,sS]
 refine' GoT.mv (i:=1) (oi:=⟨some 8,_,_,_,_,_⟩) rfl (by rfl) ?y1_1 ?_
 case y1_1=>intro w;go_simp<;>with_reducible rfl
 simp only [Act.put,sA,sZ,sS]
 refine' GoT.mv (i:=2) (oi:=⟨some 9,_,_,_,_,_⟩) rfl (by rfl) ?y1_2 ?_
 case y1_2=>intro w;go_simp<;>with_reducible rfl
 simp only [Act.put,sA,sZ,sS]
 refine' GoT.tk 2 (i:=3) (oi:=⟨some 10,_,_,_,_,_⟩) rfl (by rfl) ?y1_3 ?_
 case y1_3=>intro w hSw;go_simp<;>with_reducible rfl
 simp only [Act.put,sA,sZ,sS]
 refine' GoT.tk 2 (i:=4) (oi:=⟨some 11,_,_,_,_,_⟩) rfl (by rfl) ?y1_4 ?_
 case y1_4=>intro w hSw;go_simp<;>with_reducible rfl
 simp only [Act.put,sA,sZ,sS]
 refine' GoT.tk 2 (i:=5) (oi:=⟨some 12,_,_,_,_,_⟩) rfl (by rfl) ?y1_5 ?_
 case y1_5=>intro w hSw;go_simp<;>with_reducible rfl
 simp only [Act.put,sA,sZ,sS]
 refine' GoT.mv (i:=6) (oi:=⟨some 13,_,_,_,_,_⟩) rfl (by rfl) ?y1_6 ?_
 case y1_6=>intro w;go_simp<;>with_reducible rfl
 simp only [Act.put,sA,sZ,sS]
 refine' GoT.mv (i:=7) (oi:=⟨some 14,_,_,_,_,_⟩) rfl (by rfl) ?y1_7 ?_
 case y1_7=>intro w;go_simp<;>with_reducible rfl
 simp only [Act.put,sA,sZ,sS]
 refine GoT.one (i:=8) (o:=⟨some 15,_,_,_,_,_⟩) rfl (by kernel_rfl) fun K hK=>?_
 go_simp
 refine hK.out _ _ (fun _ h=>?_) ?_
 ·exact ⟨(SU.cell (p:=⟨b,5,none⟩) hbw1 (by simpa using hbh)).trans h.1,(SU.cell (p:=⟨w.heap.size,0,none⟩) hz1 (by simp;omega)).trans h.2.1,(SU.cell (p:=⟨w.heap.size,1,none⟩) hz1 (by simp;omega)).trans h.2.2.1,LK2⟩
 clear hK K
 try simp only [Act.put,sA,sZ,sS]
 refine' GoT.mv (i:=9) (oi:=⟨some 16,_,_,_,_,_⟩) rfl (by rfl) ?y1_9 ?_
 case y1_9=>intro w;go_simp<;>with_reducible rfl
 simp only [Act.put,sA,sZ,sS]
 refine GoT.one (i:=10) (o:=⟨none,_,_,_,_,_⟩) rfl (by kernel_rfl) fun K hK=>?_
 go_simp
 refine hK.out _ _ (fun h=>(by cases h)) ?_
 clear hK K
 try simp only [Act.put,sA,sZ,sS]
 refine GoT.done (by kernel_rfl) ?_
 have h3:=(H1.out.upd0 ((Upd.refl [] W1).drew)).upd HUU.out (by simpa using hbh) (fun y hy hc=>H1.out.hm (by simp at hc;rw [←hc];exact hy)) (fun y hy hc=>H1.out.hn (by simp at hc;rw [←hc];exact hy)) (fun y hy hc=>H1.out.ho (by simp at hc;rw [←hc];exact hy)) (fun y hy hc=>H1.out.hp (by simp at hc;rw [←hc];exact hy))
 have z0:W3.cell? ⟨w.heap.size,0,none⟩=some (.int .i64 (s1:Int)):=(HUU.out.cell (p:=⟨w.heap.size,0,none⟩) hz1 (by simp;omega)).trans y0
 have z1:W3.cell? ⟨w.heap.size,1,none⟩=some (.int .i64 (s2:Int)):=(HUU.out.cell (p:=⟨w.heap.size,1,none⟩) hz1 (by simp;omega)).trans y1
 have hz3:w.heap.size<W3.heap.size:=Nat.lt_of_lt_of_le hz1 HUU.out.size
 obtain ⟨-,-,-,-,-,-,c6,cf⟩:=h3.cells
 have f6:=cf 6
 have hu3:Upd [hb] w W3:=((hu1.drew).mono (by simp)).trans HUU.out
 have H3:=Lib.hid h3
 have HU3:=Lib.hid hu3
 clear h3 hu3 hu1 cf y5 y0 y1 LK LK2 ME1 ES SU HSUL
 by_cases hs:s1=s2
 ·obtain ⟨rfl,rfl,rfl⟩:=HKK.out hs
  have hd:((s1:Int)==(s2:Int))=true:=by rw [hs];simp
  have HE:=Lib.hid hs
  clear hs
  go_wp2_with fail
  go_ret
  exact ⟨rfl,⟨_,H3.out⟩,HFIN.out,HU3.out.mono (by simp)⟩
 ·have hd:((s1:Int)==(s2:Int))=false:=by simp;omega
  have HS:=Lib.hid hs
  clear hs
  have hbl:(⟨b,6,none⟩:Addr)≠⟨w.heap.size,0,none⟩:=fun e=>by have:=HLT.out b (by simp [covF]);injection e with e _ _;omega
  have hbl1:(⟨b,6,none⟩:Addr)≠⟨w.heap.size,1,none⟩:=fun e=>by injection e with _ e _;omega
  have h4:=H3.out.enter 0
  have k0:(W3.setCell ⟨b,6,none⟩ (.int .i64 0)).cell? ⟨w.heap.size,0,none⟩=some (.int .i64 (s1:Int)):=(World.cell?_setCell_other _ _ _ _ hbl).trans z0
  have k1:(W3.setCell ⟨b,6,none⟩ (.int .i64 0)).cell? ⟨w.heap.size,1,none⟩=some (.int .i64 (s2:Int)):=(World.cell?_setCell_other _ _ _ _ hbl1).trans z1
  have HK:=Lib.hid (And.intro k0 k1)
  have HF4:=Lib.hid (show HeldAt (W3.setCell ⟨b,6,none⟩ (.int .i64 0)) hb (N+1) (fun u=>if u=(s1,s2) then q (s1,s2)+y else q u) from HFIN.out.upd ((Upd.refl [b] W3).setCell (p:=⟨b,6,none⟩) (.inl (by simp)) _) (by simpa using Ne.symm hbh))
  have H4:=Lib.hid h4
  have HU4:=Lib.hid (show Upd (hb::covF b ov pv) w (W3.setCell ⟨b,6,none⟩ (.int .i64 0)) from (HU3.out.mono (by simp)).setCell (.inl (by simp [covF])) _)
  clear k0 k1 h4 hbl hbl1
  go_upto_region 5 with fail
  generalize W3.setCell ⟨b,6,none⟩ (.int .i64 0)=W4 at HK H4 HU4 HF4 ⊢
  have r1:W4.drew.cell? ⟨b,1,none⟩=some (.int .i64 root):=H4.out.cells.2.1
  have r0:=HK.out
  have hc:=HCH.out W4.drew (H4.out.upd0 ((Upd.refl [] W4).drew)) HS.out
  have HC:=Lib.hid hc
  clear hc z0 z1 c6 f6
  refine GoT.start [7] (fun w'=>w'.cell? ⟨b,1,none⟩=some (.int .i64 root)∧w'.cell? ⟨w.heap.size,0,none⟩=some (.int .i64 (s1:Int))∧w'.cell? ⟨w.heap.size,1,none⟩=some (.int .i64 (s2:Int))) (by kernel_rfl) ?_ fun hS=>?_
  ·exact ⟨r1,r0⟩
  refine' GoT.mv (i:=0) (oi:=⟨some 25,_,_,_,_,_⟩) rfl (by rfl) ?y5_0 ?_
  case y5_0=>intro w;go_simp<;>with_reducible rfl
  simp only [Act.put,sA,sZ,sS]
  refine' GoT.mv (i:=1) (oi:=⟨some 26,_,_,_,_,_⟩) rfl (by rfl) ?y5_1 ?_
  case y5_1=>intro w;go_simp<;>with_reducible rfl
  simp only [Act.put,sA,sZ,sS]
  refine' GoT.mv (i:=2) (oi:=⟨some 27,_,_,_,_,_⟩) rfl (by rfl) ?y5_2 ?_
  case y5_2=>intro w;go_simp<;>with_reducible rfl
  simp only [Act.put,sA,sZ,sS]
  refine' GoT.mv (i:=3) (oi:=⟨some 28,_,_,_,_,_⟩) rfl (by rfl) ?y5_3 ?_
  case y5_3=>intro w;go_simp<;>with_reducible rfl
  simp only [Act.put,sA,sZ,sS]
  refine' GoT.tk 1 (i:=4) (oi:=⟨some 29,_,_,_,_,_⟩) rfl (by rfl) ?y5_4 ?_
  case y5_4=>intro w hSw;go_simp<;>with_reducible rfl
  simp only [Act.put,sA,sZ,sS]
  refine' GoT.tk 1 (i:=5) (oi:=⟨some 30,_,_,_,_,_⟩) rfl (by rfl) ?y5_5 ?_
  case y5_5=>intro w hSw;go_simp<;>with_reducible rfl
  simp only [Act.put,sA,sZ,sS]
  refine' GoT.mv (i:=6) (oi:=⟨some 31,_,_,_,_,_⟩) rfl (by rfl) ?y5_6 ?_
  case y5_6=>intro w;go_simp<;>with_reducible rfl
  simp only [Act.put,sA,sZ,sS]
  refine GoT.one (i:=7) (o:=⟨some 32,_,_,_,_,_⟩) rfl (by kernel_rfl) fun K hK=>?_
  go_simp
  go_at_call 137
  (with_reducible refine HC.out.mono ?_)
  rintro e w6 ⟨rfl,h6,hu6⟩
  have l6:w6.cell? ⟨b,6,none⟩=some (.int .i64 (k:Int)):=h6.cells.2.2.2.2.2.2.1
  have H6:=Lib.hid h6
  have HU6:=Lib.hid hu6
  clear h6 hu6
  refine hK.out _ _ (fun h=>(by cases h)) ?_
  clear hK K
  try simp only [Act.put,sA,sZ,sS]
  refine GoT.done (by kernel_rfl) ?_
  go_wp2_with fail
  go_ret
  have hF:HeldAt w6 hb (N+1) (fun u=>if u=(s1,s2) then q (s1,s2)+y else q u):=by
   have g1:HeldAt W4.drew hb (N+1) (fun u=>if u=(s1,s2) then q (s1,s2)+y else q u):=HF4.out
   exact g1.upd HU6.out (by simp [covF,hbh.symm,H4.out.ho,H4.out.hp])
  exact ⟨rfl,⟨_,H6.out⟩,hF,HU4.out.drew.trans (HU6.out.mono (fun x hx=>.inl (List.mem_cons_of_mem _ hx)))⟩
end Go.Proofs.YtkmnbodlciepaaaGreat
