/- Boxes that are none. Printed by genNnB.py. Boxes that are none: Get, At, Area, Rim. The law BoxesNone. -/
import Derived.Test.YtkbaaonchdeneaaGreatPbBoxesCoverP5
import Derived.Test.YtkbaaonchdeneaaGreatPb53
set_option maxHeartbeats 8000000
set_option maxRecDepth 100000
namespace Go.Proofs.YtkbaaonchdeneaaGreat.GN
open Go.RowKit
attribute [local go_sem ↓] Go.wp_at_zero Go.wp_at_succ
def O8 (w:World) (v:Value):Prop:=v=.pointer none∨∃q,v=.pointer (some ⟨q,0,none⟩)∧w.cell? ⟨q,0,none⟩=some (.pointer none)
theorem O8.upd {w w':World} {v:Value} (h:O8 w v) (hu:Bf [] w w'):O8 w' v:=by
 rcases h with h | ⟨q,h,hc⟩
 ·exact .inl h
 ·exact .inr ⟨q,h,(hu.cell (World.block_lt_of_cell? _ _ hc) (by simp)).trans hc⟩
theorem O8.ptr {w:World} {v:Value} (h:O8 w v):∃o,v=.pointer o:=by
 rcases h with h | ⟨q,h,-⟩
 ·exact ⟨_,h⟩
 ·exact ⟨_,h⟩
theorem VN (v:Value) (w:World) (h:O8 w v):Calls Tryz.prog 59 #[v] w fun e w'=>e=.returned (.bool true)∧w=w':=by
 rcases h with rfl | ⟨q,rfl,hc⟩
 ·go_enter Tryz.func59,Tryz.ntmps59
  go_wp2_with fail
  go_ret
  exact ⟨rfl,rfl⟩
 ·go_enter Tryz.func59,Tryz.ntmps59
  go_wp2_with fail
  go_ret
  exact ⟨rfl,rfl⟩
theorem a8A (v:Value) (s:Bx) (w:World) (h:O8 w v):Calls Tryz.prog 21 #[v,L8 s] w fun e w'=>e=.returned (.tuple #[.int .i64 0,.bool false])∧Bf [] w w':=by
 obtain ⟨o,rfl⟩:=h.ptr;have HN0:=AQ (fun (w2:World) (hu:Bf [] w w2)=>VN _ w2 (h.upd hu));unfold L8;clear h;go_enter Tryz.func21,Tryz.ntmps21
 go_upto_region 1 with fail
 obtain ⟨W,hW,SE,-⟩:=BJ w #[.int .i64 s.x1,.int .i64 s.x2,.int .i64 s.y1,.int .i64 s.y2,.int .u32 (s.id:Int)] 28;rw [←hW];clear hW;have HN:=AQ (fun (w2:World) (hu:Bf [] W w2)=>HN0.out w2 (SE.trans hu));refine Bj.start [] (fun w'=>Bf [] W w') (by kernel_rfl) ?_ fun hS=>?_
 ·exact (Bf.refl _ _).drew
 refine' Bj.mw 0 (oi:=⟨some 6,_,_,_,_,_⟩) ?_
 simp only [Act.put,sA,sZ,sS];refine Bj.one (i:=1) (o:=⟨some 7,_,_,_,_,_⟩) rfl (by kernel_rfl) fun K hK=>?_
 go_simp
 go_at_call 59
 (with_reducible refine (HN.out _ hS).mono ?_);rintro e w1 ⟨rfl,rfl⟩;refine hK.out _ _ (fun _ h=>?_) ?_
 ·exact h
 clear hK K;try simp only [Act.put,sA,sZ,sS]
 refine' Bj.mw 2 (oi:=⟨some 8,_,_,_,_,_⟩) ?_
 simp only [Act.put,sA,sZ,sS];refine' Bj.move (i:=3) (oi:=⟨some 9,_,_,_,_,_⟩) (v:=_) rfl (by kernel_rfl) (by kernel_rfl) (by kernel_rfl) (fun _ _ _ h=>h) (Or.inr ⟨by rfl,rfl⟩) ?b2x
 simp only [Act.put,sA,sZ,sS];refine Bj.one (i:=4) (o:=⟨some 10,_,_,_,_,_⟩) rfl (by kernel_rfl) fun K hK=>?_
 rw [if_neg (by simp [Region.wanted,yielded])];refine hK.out _ _ (fun _ h=>?_) ?_
 ·exact h
 clear hK K;try simp only [Act.put,sA,sZ,sS]
 refine' Bj.move (i:=5) (oi:=⟨some 11,_,_,_,_,_⟩) (v:=_) rfl (by kernel_rfl) (by kernel_rfl) (by kernel_rfl) (fun _ _ _ h=>h) (Or.inr ⟨by rfl,rfl⟩) ?b2y
 simp only [Act.put,sA,sZ,sS];refine' Bj.mw 6 (oi:=⟨some 12,_,_,_,_,_⟩) ?_
 simp only [Act.put,sA,sZ,sS];refine' Bj.mw 7 (oi:=⟨some 13,_,_,_,_,_⟩) ?_
 simp only [Act.put,sA,sZ,sS];refine' Bj.move (i:=8) (oi:=⟨some 14,_,_,_,_,_⟩) (v:=_) rfl (by kernel_rfl) (by kernel_rfl) (by kernel_rfl) (fun _ _ _ h=>h) (Or.inr ⟨by rfl,rfl⟩) ?b1C
 simp only [Act.put,sA,sZ,sS];refine' Bj.move (i:=9) (oi:=⟨some 15,_,_,_,_,_⟩) (v:=_) rfl (by kernel_rfl) (by kernel_rfl) (by kernel_rfl) (fun _ _ _ h=>h) (Or.inr ⟨by rfl,rfl⟩) ?b1D
 simp only [Act.put,sA,sZ,sS];refine' Bj.move (i:=10) (oi:=⟨some 16,_,_,_,_,_⟩) (v:=_) rfl (by kernel_rfl) (by kernel_rfl) (by kernel_rfl) (fun _ _ _ h=>h) (Or.inr ⟨by rfl,rfl⟩) ?a7C
 simp only [Act.put,sA,sZ,sS];refine' Bj.move (i:=11) (oi:=⟨some 17,_,_,_,_,_⟩) (v:=_) rfl (by kernel_rfl) (by kernel_rfl) (by kernel_rfl) (fun _ _ _ h=>h) (Or.inr ⟨by rfl,rfl⟩) ?a7D
 simp only [Act.put,sA,sZ,sS];refine' Bj.move (i:=12) (oi:=⟨some 18,_,_,_,_,_⟩) (v:=_) rfl (by kernel_rfl) (by kernel_rfl) (by kernel_rfl) (fun _ _ _ h=>h) (Or.inr ⟨by rfl,rfl⟩) ?a7E
 simp only [Act.put,sA,sZ,sS];refine' Bj.move (i:=13) (oi:=⟨some 19,_,_,_,_,_⟩) (v:=_) rfl (by kernel_rfl) (by kernel_rfl) (by kernel_rfl) (fun _ _ _ h=>h) (Or.inr ⟨by rfl,rfl⟩) ?a7F
 simp only [Act.put,sA,sZ,sS];refine' Bj.move (i:=14) (oi:=⟨some 20,_,_,_,_,_⟩) (v:=_) rfl (by kernel_rfl) (by kernel_rfl) (by kernel_rfl) (fun _ _ _ h=>h) (Or.inr ⟨by rfl,rfl⟩) ?a7G
 simp only [Act.put,sA,sZ,sS];refine' Bj.move (i:=15) (oi:=⟨some 21,_,_,_,_,_⟩) (v:=_) rfl (by kernel_rfl) (by kernel_rfl) (by kernel_rfl) (fun _ _ _ h=>h) (Or.inr ⟨by rfl,rfl⟩) ?a7H
 simp only [Act.put,sA,sZ,sS];refine' Bj.move (i:=16) (oi:=⟨some 22,_,_,_,_,_⟩) (v:=_) rfl (by kernel_rfl) (by kernel_rfl) (by kernel_rfl) (fun _ _ _ h=>h) (Or.inr ⟨by rfl,rfl⟩) ?a7I
 simp only [Act.put,sA,sZ,sS];refine' Bj.move (i:=17) (oi:=⟨some 23,_,_,_,_,_⟩) (v:=_) rfl (by kernel_rfl) (by kernel_rfl) (by kernel_rfl) (fun _ _ _ h=>h) (Or.inr ⟨by rfl,rfl⟩) ?a7J
 simp only [Act.put,sA,sZ,sS];refine' Bj.move (i:=18) (oi:=⟨some 24,_,_,_,_,_⟩) (v:=_) rfl (by kernel_rfl) (by kernel_rfl) (by kernel_rfl) (fun _ _ _ h=>h) (Or.inr ⟨by rfl,rfl⟩) ?a7K
 simp only [Act.put,sA,sZ,sS];refine Bj.one (i:=19) (o:=⟨some 25,_,_,_,_,_⟩) rfl (by kernel_rfl) fun K hK=>?_
 rw [if_neg (by simp [Region.wanted,yielded])];refine hK.out _ _ (fun _ h=>?_) ?_
 ·exact h
 clear hK K;try simp only [Act.put,sA,sZ,sS]
 refine' Bj.move (i:=20) (oi:=⟨some 26,_,_,_,_,_⟩) (v:=_) rfl (by kernel_rfl) (by kernel_rfl) (by kernel_rfl) (fun _ _ _ h=>h) (Or.inr ⟨by rfl,rfl⟩) ?a7L
 simp only [Act.put,sA,sZ,sS];refine' Bj.mw 21 (oi:=⟨some 27,_,_,_,_,_⟩) ?_
 simp only [Act.put,sA,sZ,sS];refine Bj.done (by kernel_rfl) ?_
 go_wp2_with fail
 go_ret2
 exact ⟨rfl,SE.trans hS⟩
theorem a5A (v:Value) (x:Nat) (w:World) (h:O8 w v):Calls Tryz.prog 22 #[v,.int .u32 (x:Int)] w fun e w'=>e=.returned (.tuple #[.int .i64 0,.bool false])∧Bf [] w w':=by
 have HN:=AQ (fun (w2:World) (hu:Bf [] w w2)=>VN _ w2 (h.upd hu));obtain ⟨o,rfl⟩:=h.ptr;clear h;go_enter Tryz.func22,Tryz.ntmps22
 go_wp2_with fail
 (with_reducible refine (HN.out _ (Bf.refl _ _)).mono ?_);rintro e w' ⟨rfl,rfl⟩;go_wp2_with fail
 go_ret2
 exact ⟨rfl,Bf.refl _ _⟩
theorem a8B (v:Value) (w:World) (h:O8 w v):Calls Tryz.prog 15 #[v] w fun e w'=>e=.returned (.int .i64 0)∧Bf [] w w':=by
 have HN:=AQ (fun (w2:World) (hu:Bf [] w w2)=>VN _ w2 (h.upd hu));obtain ⟨o,rfl⟩:=h.ptr;clear h;go_enter Tryz.func15,Tryz.ntmps15
 go_wp2_with fail
 (with_reducible refine (HN.out _ (Bf.refl _ _)).mono ?_);rintro e w' ⟨rfl,rfl⟩;go_wp2_with fail
 go_ret
 exact ⟨rfl,Bf.refl _ _⟩
theorem zX (v:Value) (w:World) (h:O8 w v):Calls Tryz.prog 19 #[v] w fun e w'=>e=.returned (.int .i64 0)∧Bf [] w w':=by
 have HN:=AQ (fun (w2:World) (hu:Bf [] w w2)=>VN _ w2 (h.upd hu));obtain ⟨o,rfl⟩:=h.ptr;clear h;go_enter Tryz.func19,Tryz.ntmps19
 go_wp2_with fail
 (with_reducible refine (HN.out _ (Bf.refl _ _)).mono ?_);rintro e w' ⟨rfl,rfl⟩;go_wp2_with fail
 go_ret
 exact ⟨rfl,Bf.refl _ _⟩
theorem a5B (v:Value) (w:World) (h:O8 w v):Calls Tryz.prog 18 #[v] w fun e w'=>e=.returned (.int .i64 0)∧Bf [] w w':=by
 have HN:=AQ (fun (w2:World) (hu:Bf [] w w2)=>VN _ w2 (h.upd hu));obtain ⟨o,rfl⟩:=h.ptr;clear h;go_enter Tryz.func18,Tryz.ntmps18
 go_wp2_with fail
 (with_reducible refine (HN.out _ (Bf.refl _ _)).mono ?_);rintro e w' ⟨rfl,rfl⟩;go_wp2_with fail
 go_ret
 exact ⟨rfl,Bf.refl _ _⟩
theorem zY (v:Value) (w:World) (h:O8 w v):Calls Tryz.prog 77 #[v] w fun e w'=>e=.returned (.slice none 0 0)∧Bf [] w w':=by
 have HN:=AQ (fun (w2:World) (hu:Bf [] w w2)=>VN _ w2 (h.upd hu));obtain ⟨o,rfl⟩:=h.ptr;clear h;go_enter Tryz.func77,Tryz.ntmps77
 go_wp2_with fail
 (with_reducible refine (HN.out _ (Bf.refl _ _)).mono ?_);rintro e w' ⟨rfl,rfl⟩;go_wp2_with fail
 go_ret
 exact ⟨rfl,Bf.refl _ _⟩
end Go.Proofs.YtkbaaonchdeneaaGreat.GN
namespace Go.Proofs.YtkbaaonchdeneaaGreat.GN
open Go.RowKit
theorem a8C (v:Value) (x:Nat) (w:World) (h:O8 w v):Calls Tryz.prog 23 #[v,.int .u32 (x:Int)] w fun e w'=>e=.returned (.tuple #[.agg #[.int .i64 0,.int .i64 0,.int .i64 0,.int .i64 0,.int .u32 0],.bool false])∧Bf [] w w':=by
 obtain ⟨W,hW,hu0,hq0⟩:=BJ w #[.int .i64 0,.int .i64 0,.int .i64 0,.int .i64 0,.int .u32 0] 28;have HN:=AQ (VN v W (h.upd hu0));have ET:=AQ hu0;have HQ:=AQ hq0;obtain ⟨o,rfl⟩:=h.ptr;have hs5:Ic (((((W.setCell ⟨w.heap.size,0,none⟩ (.int .i64 0)).setCell ⟨w.heap.size,1,none⟩ (.int .i64 0)).setCell ⟨w.heap.size,2,none⟩ (.int .i64 0)).setCell ⟨w.heap.size,3,none⟩ (.int .i64 0)).setCell ⟨w.heap.size,4,none⟩ (.int .u32 0)) w.heap.size #[.int .i64 0,.int .i64 0,.int .i64 0,.int .i64 0,.int .u32 0] 28:=(((((hq0.set 0 (.int .i64 0)).set 1 (.int .i64 0)).set 2 (.int .i64 0)).set 3 (.int .i64 0)).set 4 (.int .u32 0));have GR:Bf [w.heap.size] W (((((W.setCell ⟨w.heap.size,0,none⟩ (.int .i64 0)).setCell ⟨w.heap.size,1,none⟩ (.int .i64 0)).setCell ⟨w.heap.size,2,none⟩ (.int .i64 0)).setCell ⟨w.heap.size,3,none⟩ (.int .i64 0)).setCell ⟨w.heap.size,4,none⟩ (.int .u32 0)):=((((((Bf.refl [w.heap.size] W).setCell (p:=⟨w.heap.size,0,none⟩) (.inl (by simp)) _).setCell (p:=⟨w.heap.size,1,none⟩) (.inl (by simp)) _).setCell (p:=⟨w.heap.size,2,none⟩) (.inl (by simp)) _).setCell (p:=⟨w.heap.size,3,none⟩) (.inl (by simp)) _).setCell (p:=⟨w.heap.size,4,none⟩) (.inl (by simp)) _);have HS5:=Ai hs5 GR;obtain ⟨y0,y1,y2,y3,y4⟩:=hq0.cells5;have f0:=hq0.frozen 0;have f1:=hq0.frozen 1;have f2:=hq0.frozen 2;have f3:=hq0.frozen 3;have f4:=hq0.frozen 4;have Ro:=AQ hW;clear h hW hu0 hq0 hs5 GR;go_enter Tryz.func23,Tryz.ntmps23
 go_upto_region 1 with fail
 rw [←Ro.out];go_wp2_with fail
 (with_reducible refine HN.out.mono ?_);rintro e w' ⟨rfl,rfl⟩;go_wp2_with fail
 obtain ⟨g5,u5⟩:=HS5.out;obtain ⟨z0,z1,z2,z3,z4⟩:=g5.cells5;exact bodyPost_ret (v:=.tuple #[.agg #[.int .i64 0,.int .i64 0,.int .i64 0,.int .i64 0,.int .u32 0],.bool false]) (by simp [results,Tryz.results23,go_sem,z0,z1,z2,z3,z4]) rfl ⟨rfl,ET.out.trans' u5 (fun k hk=>by simp at hk;subst hk;right;omega)⟩
theorem b1S (v:Value) (x y:Int) (w:World) (h:O8 w v):Calls Tryz.prog 17 #[v,.int .i64 x,.int .i64 y] w fun e w'=>e=.returned (.tuple #[.slice none 0 0,.int .i64 0])∧Bf [] w w':=by
 obtain ⟨W,hW,hu0,-,-⟩:=Pj w #[.int .i64 x] #[.int .i64 y] 2 2;have HN:=AQ (VN v W (h.upd hu0));have ET:=AQ hu0;obtain ⟨o,rfl⟩:=h.ptr;have Ro:=AQ hW;clear h hW hu0;go_enter Tryz.func17,Tryz.ntmps17
 go_upto_region 1 with fail
 rw [←Ro.out];go_wp2_with fail
 (with_reducible refine HN.out.mono ?_);rintro e w' ⟨rfl,rfl⟩;go_wp2_with fail
 go_ret2
 exact ⟨rfl,ET.out⟩
theorem sO:(BZ []).toNat=0:=by
 rw [show BZ []=0 from Dn fun x _ _=>Dn fun y _ _=>rfl];rfl
theorem a5C (v:Value) (w:World) (h:O8 w v):Calls Tryz.prog 24 #[v] w fun e w'=>∃n:Nat,e=.returned (.tuple #[.agg #[.int .u64 0,.int .u64 0],.int .i64 (n:Int)])∧Bf [] w w':=by
 obtain ⟨W,hW⟩:=AO (w.alloc (.cells #[.int .u64 0,.int .u64 0] 52));have hu0:Bf [] w W:=by rw [←hW];exact (Bf.refl _ _).alloc _
 have hz:Dy W w.heap.size 0:=by rw [←hW];exact heap_alloc_new _ _
 have HL:=AQ (zY v W (h.upd hu0));have HB:=AQ (fun (w:World)=>QU (.slice none 0 0) [] w ⟨rfl,.inl ⟨rfl,rfl⟩⟩ (by decide) (by simp));obtain ⟨o,rfl⟩:=h.ptr;have HW:=AQ hW;have ET:=Ai hu0 hz;clear h hW hu0 hz;go_enter Tryz.func24,Tryz.ntmps24
 go_upto_region 1 with fail
 rw [HW.out];go_wp2_with fail
 (with_reducible refine HL.out.mono ?_);rintro e w1 ⟨rfl,hu⟩;have HB1:=AQ (HB.out w1);have RX:=AQ hu;clear hu;go_wp2_with fail
 (with_reducible refine HB1.out.mono ?_);rintro e w2 ⟨rfl,hu2⟩;have hz2:Dy w2 w.heap.size 0:=(ET.2.Bh RX.out).Bh hu2;have h2:w2.heap[w.heap.size]? = some (.cells #[.int .u64 0,.int .u64 0] 52 (0,0)):=hz2;have r0:w2.cell? ⟨w.heap.size,0,none⟩=some (.int .u64 0):=by simp [World.cell?,h2]
 have r1:w2.cell? ⟨w.heap.size,1,none⟩=some (.int .u64 0):=by simp [World.cell?,h2]
 have f0:w2.frozen? ⟨w.heap.size,0,none⟩=false:=by simp [World.frozen?,h2]
 have f1:w2.frozen? ⟨w.heap.size,1,none⟩=false:=by simp [World.frozen?,h2]
 have hv:ED (BZ []).toNat=.agg #[.int .u64 0,.int .u64 0]:=by rw [sO];rfl
 obtain ⟨EE,hEE⟩:∃EE:Nat,X9 []=EE:=⟨_,rfl⟩;rw [hv,hEE];have Gv:=AQ (hz2.set (n2:=0) (h2:=0) (l2:=0) rfl rfl);have Yy:=AQ (show Bf [] w ((w2.setCell ⟨w.heap.size,0,none⟩ (.int .u64 ((0:Nat):Int))).setCell ⟨w.heap.size,1,none⟩ (.int .u64 ((0:Nat):Int))) from ((((ET.1.trans RX.out).trans hu2).setCell (.inr (Nat.le_refl _)) _).setCell (.inr (Nat.le_refl _)) _));clear hz2 h2 hu2 hv hEE;go_wp2_with fail
 obtain ⟨e0,e1,-⟩:=Gv.out.cells;try rw [Exit.noGoto_ret]
 exact bodyPost_ret (v:=.tuple #[.agg #[.int .u64 0,.int .u64 0],.int .i64 (EE:Int)]) (by simp at e0 e1;simp [results,Tryz.results24,go_sem,e0,e1]) rfl ⟨EE,rfl,Yy.out⟩
theorem zZ:(DU []).toNat=0:=by
 have h:Ep []=0:=Dn fun x _ _=>Dk fun y=>rfl
 show (Ep []+Ep []).toNat=0
 rw [h];rfl
theorem a8D (v:Value) (w:World) (h:O8 w v):Calls Tryz.prog 25 #[v] w fun e w'=>∃n:Nat,e=.returned (.tuple #[.agg #[.int .u64 0,.int .u64 0],.int .i64 (n:Int)])∧Bf [] w w':=by
 obtain ⟨W,hW⟩:=AO (w.alloc (.cells #[.int .u64 0,.int .u64 0] 52));have hu0:Bf [] w W:=by rw [←hW];exact (Bf.refl _ _).alloc _
 have hz:Dy W w.heap.size 0:=by rw [←hW];exact heap_alloc_new _ _
 have HL:=AQ (zY v W (h.upd hu0));have HB:=AQ (fun (w:World)=>Yd (.slice none 0 0) [] w ⟨rfl,.inl ⟨rfl,rfl⟩⟩ (by decide) (by simp));obtain ⟨o,rfl⟩:=h.ptr;have HW:=AQ hW;have ET:=Ai hu0 hz;clear h hW hu0 hz;go_enter Tryz.func25,Tryz.ntmps25
 go_upto_region 1 with fail
 rw [HW.out];go_wp2_with fail
 (with_reducible refine HL.out.mono ?_);rintro e w1 ⟨rfl,hu⟩;have HB1:=AQ (HB.out w1);have RX:=AQ hu;clear hu;go_wp2_with fail
 (with_reducible refine HB1.out.mono ?_);rintro e w2 ⟨rfl,hu2⟩;have hz2:Dy w2 w.heap.size 0:=(ET.2.Bh RX.out).Bh hu2;have h2:w2.heap[w.heap.size]? = some (.cells #[.int .u64 0,.int .u64 0] 52 (0,0)):=hz2;have r0:w2.cell? ⟨w.heap.size,0,none⟩=some (.int .u64 0):=by simp [World.cell?,h2]
 have r1:w2.cell? ⟨w.heap.size,1,none⟩=some (.int .u64 0):=by simp [World.cell?,h2]
 have f0:w2.frozen? ⟨w.heap.size,0,none⟩=false:=by simp [World.frozen?,h2]
 have f1:w2.frozen? ⟨w.heap.size,1,none⟩=false:=by simp [World.frozen?,h2]
 have hv:ED (DU []).toNat=.agg #[.int .u64 0,.int .u64 0]:=by rw [zZ];rfl
 obtain ⟨EE,hEE⟩:∃EE:Nat,Yx []=EE:=⟨_,rfl⟩;rw [hv,hEE];have Gv:=AQ (hz2.set (n2:=0) (h2:=0) (l2:=0) rfl rfl);have Yy:=AQ (show Bf [] w ((w2.setCell ⟨w.heap.size,0,none⟩ (.int .u64 ((0:Nat):Int))).setCell ⟨w.heap.size,1,none⟩ (.int .u64 ((0:Nat):Int))) from ((((ET.1.trans RX.out).trans hu2).setCell (.inr (Nat.le_refl _)) _).setCell (.inr (Nat.le_refl _)) _));clear hz2 h2 hu2 hv hEE;go_wp2_with fail
 obtain ⟨e0,e1,-⟩:=Gv.out.cells;try rw [Exit.noGoto_ret]
 exact bodyPost_ret (v:=.tuple #[.agg #[.int .u64 0,.int .u64 0],.int .i64 (EE:Int)]) (by simp at e0 e1;simp [results,Tryz.results25,go_sem,e0,e1]) rfl ⟨EE,rfl,Yy.out⟩
end Go.Proofs.YtkbaaonchdeneaaGreat.GN
namespace Go.Proofs.YtkbaaonchdeneaaGreat.GN
open Go.RowKit
structure NnW (w0 w:World) (s:Bx) (b z l:Nat):Prop where
 sp:Ic w b #[.int .i64 s.x1,.int .i64 s.x2,.int .i64 s.y1,.int .i64 s.y2,.int .u32 (s.id:Int)] 28
 no:O8 w (.pointer (some ⟨z,0,none⟩))
 c0:w.cell? ⟨l,0,none⟩=some (.pointer none)
 c1:w.cell? ⟨l,1,none⟩=some (.pointer (some ⟨z,0,none⟩))
 up:Bf [] w0 w
theorem NnW.upd {w0 w w':World} {s:Bx} {b z l:Nat} (h:NnW w0 w s b z l) (hu:Bf [] w w'):NnW w0 w' s b z l:=
 ⟨h.sp.Bh hu,h.no.upd hu,(hu.cell (World.block_lt_of_cell? _ _ h.c0) (by simp)).trans h.c0,(hu.cell (World.block_lt_of_cell? _ _ h.c1) (by simp)).trans h.c1,h.up.trans hu⟩
theorem b1T (w:World):(binOp .neq 28 (.agg #[.int .i64 0,.int .i64 0,.int .i64 0,.int .i64 0,.int .u32 0]) (.agg #[.int .i64 0,.int .i64 0,.int .i64 0,.int .i64 0,.int .u32 0])).run Tryz.prog w=.ok (.bool false) w:=by
 rw [run_neq_struct,run_equalIn_agg _ _ _ _ _ (by kernel_rfl) (by kernel_rfl)];go_simp
theorem boxesNone (s:Bx) (w:World):Calls Tryz.prog 4 #[L8 s] w fun e w'=>e=.returned (.bool true)∧Bf [] w w':=by
 unfold L8;go_enter Tryz.func4,Tryz.ntmps4
 go_upto_block 0 with fail
 obtain ⟨W1,hW1,u1,q1⟩:=BJ w #[.int .i64 s.x1,.int .i64 s.x2,.int .i64 s.y1,.int .i64 s.y2,.int .u32 (s.id:Int)] 28;rw [←hW1];obtain ⟨W2,hW2,u2,q2⟩:=BJ W1 #[.pointer none,.pointer none,.slice none 0 0] 44;rw [←hW2];obtain ⟨W3,hW3,u3,q3⟩:=BJ W2 #[.pointer none,.pointer (some ⟨w.heap.size+1,0,none⟩)] 23;have e1:W1.heap.size=w.heap.size+1:=by rw [hW1];simp
 have e2:W2.heap.size=w.heap.size+1+1:=by rw [hW2];simp [e1]
 rw [e1] at q2;rw [e2] at q3;have HW0:=AQ (⟨(q1.Bh u2).Bh u3,.inr ⟨_,rfl,((q2.Bh u3).cell 0)⟩,q3.cell 0,q3.cell 1,(u1.trans u2).trans u3⟩:NnW w W3 s w.heap.size (w.heap.size+1) (w.heap.size+1+1));rw [←hW3];clear hW1 hW2 hW3 u1 u2 u3 q1 q2 q3 e1 e2;generalize w.heap.size+1=z at HW0 ⊢;obtain ⟨b,hb⟩:=AO w.heap.size;rw [hb] at HW0 ⊢;clear hb;have HA:=AQ (fun w=>aN (by decide) Zt (by decide) w);go_wp2_with fail
 go_loopg [21] 2 (fun m s23 wr=>∃k:Nat,m+k=2∧s23=.int .i64 (k:Int)∧NnW w wr s b z (z+1))
 case atStart=>exact ⟨0,rfl,rfl,HW0.out⟩
 case round=>
  obtain ⟨k,hk,rfl,hN⟩:=hrel;have k0:(0:Int)≤(k:Int):=AU _;by_cases hlt:k<2
  ·have hv0:∃o,wr.cell? ⟨z+1,k,none⟩=some (.pointer o)∧O8 wr (.pointer o):=by
    have h3:k=0∨k=1:=by omega
    rcases h3 with rfl | rfl
    ·exact ⟨none,hN.c0,.inl rfl⟩
    ·exact ⟨_,hN.c1,hN.no⟩
   obtain ⟨o,hc,hv1⟩:=hv0;have hlt2:(k:Int)<2:=by omega
   have N1:=AQ hN;obtain ⟨b0,b1,b2,b3,b4⟩:=hN.sp.cells5;have HK:=AQ hk;clear hN hk;go_wp2_with fail
   (with_reducible refine (show Calls Tryz.prog 21 #[.pointer o,.agg #[.int .i64 s.x1,.int .i64 s.x2,.int .i64 s.y1,.int .i64 s.y2,.int .u32 (s.id:Int)]] wr fun e w'=>e=.returned (.tuple #[.int .i64 0,.bool false])∧Bf [] wr w' from (by have h9:=a8A (.pointer o) s wr hv1;unfold L8 at h9;exact h9)).mono ?_);rintro e w2 ⟨rfl,u2⟩;have N2:=AQ (N1.out.upd u2);have hv2:=hv1.upd u2;obtain ⟨b0,b1,b2,b3,b4⟩:=N2.out.sp.cells5;clear u2 hv1;go_wp2_with fail
   (with_reducible refine (a5A _ s.id _ hv2).mono ?_);rintro e w3 ⟨rfl,u3⟩;have N3:=AQ (N2.out.upd u3);have hv3:=hv2.upd u3;obtain ⟨b0,b1,b2,b3,b4⟩:=N3.out.sp.cells5;clear u3 hv2;go_wp2_with fail
   (with_reducible refine (a8C _ s.id _ hv3).mono ?_);rintro e w4 ⟨rfl,u4⟩;have N4:=AQ (N3.out.upd u4);have hv4:=hv3.upd u4;obtain ⟨b0,b1,b2,b3,b4⟩:=N4.out.sp.cells5;clear u4 hv3;go_upto_region 7 with fail
   obtain ⟨W5,hW5,u5,q5⟩:=BJ w4 #[.int .i64 0,.int .i64 0,.int .i64 0,.int .i64 0,.int .u32 0] 28;rw [←hW5];clear hW5;generalize w4.heap.size=qz at q5 ⊢;have N5:=AQ (N4.out.upd u5);have hv5:=hv4.upd u5;have Q5:=AQ q5;clear u5 q5 hv4 b0 b1 b2 b3 b4;obtain ⟨b0,b1,b2,b3,b4⟩:=N5.out.sp.cells5;go_wp2_with fail
   (with_reducible refine (b1S _ s.x1 s.y1 _ hv5).mono ?_);rintro e w6 ⟨rfl,u6⟩;have N6:=AQ (N5.out.upd u6);have hv6:=hv5.upd u6;have Q6:=AQ (Q5.out.Bh u6);clear u6 hv5 b0 b1 b2 b3 b4;go_wp2_with fail
   (with_reducible refine (a5C _ _ hv6).mono ?_);rintro e v7 ⟨n7,rfl,u7⟩;obtain ⟨w7,hx7,y7,a7⟩:=BJ v7 #[.int .u64 0,.int .u64 0] 52;go_upto_region 9 with fail
   rw [←hx7];clear hx7;generalize v7.heap.size=pa at a7 ⊢;have N7:=AQ ((N6.out.upd u7).upd y7);have hv7:=(hv6.upd u7).upd y7;have Q7:=AQ ((Q6.out.Bh u7).Bh y7);have A7:=AQ a7;clear u7 hv6 y7 a7;go_wp2_with fail
   (with_reducible refine (a8D _ _ hv7).mono ?_);rintro e v8 ⟨n8,rfl,u8⟩;obtain ⟨w8,hx8,y8,a8⟩:=BJ v8 #[.int .u64 0,.int .u64 0] 52;go_upto_region 10 with fail
   rw [←hx8];clear hx8;generalize v8.heap.size=pr at a8 ⊢;have N8:=AQ ((N7.out.upd u8).upd y8);have hv8:=(hv7.upd u8).upd y8;have Q8:=Aj ((Q7.out.Bh u8).Bh y8) ((A7.out.Bh u8).Bh y8) a8;clear u8 hv7 y8 a8;go_wp2_with fail
   (with_reducible refine (a8B _ _ hv8).mono ?_);rintro e w9 ⟨rfl,u9⟩;have N9:=AQ (N8.out.upd u9);have hv9:=hv8.upd u9;have Q9:=Aj (Q8.1.Bh u9) (Q8.2.1.Bh u9) (Q8.2.2.Bh u9);clear u9 hv8;go_wp2_with fail
   (with_reducible refine (zX _ _ hv9).mono ?_);rintro e w10 ⟨rfl,u10⟩;have N10:=AQ (N9.out.upd u10);have a8E:=hv9.upd u10;have Q10:=Aj (Q9.1.Bh u10) (Q9.2.1.Bh u10) (Q9.2.2.Bh u10);clear u10 hv9;go_wp2_with fail
   (with_reducible refine (a5B _ _ a8E).mono ?_);rintro e w11 ⟨rfl,u11⟩;have N11:=AQ (N10.out.upd u11);have Q11:=Aj (Q10.1.Bh u11) (Q10.2.1.Bh u11) (Q10.2.2.Bh u11);obtain ⟨b0,b1,b2,b3,b4⟩:=Q11.1.cells5;have ca0:w11.cell? ⟨pa,0,none⟩=some (.int .u64 0):=Q11.2.1.cell 0;have ca1:w11.cell? ⟨pa,1,none⟩=some (.int .u64 0):=Q11.2.1.cell 1;have cr0:w11.cell? ⟨pr,0,none⟩=some (.int .u64 0):=Q11.2.2.cell 0;have cr1:w11.cell? ⟨pr,1,none⟩=some (.int .u64 0):=Q11.2.2.cell 1;have hne:=b1T w11;have hnw:=sK 0 0 w11;clear u11 a8E;go_wp2_with fail
   go_roundg (2 - (k+1))
   case measure=>have:=HK.out;omega
   case rel=>exact ⟨k+1,Ac HK,by go_num,N11.out⟩
  ·have HN:=AQ hN;have hk2:k=2:=by omega
   subst hk2;clear hN hk;go_wp2_with fail
   (with_reducible refine (HA.out _).mono ?_);rintro e w2 ⟨rfl,u2⟩;have HU:=AQ u2;clear u2;go_wp2_with fail
   go_ret
   exact ⟨rfl,HN.out.up.trans HU.out⟩
