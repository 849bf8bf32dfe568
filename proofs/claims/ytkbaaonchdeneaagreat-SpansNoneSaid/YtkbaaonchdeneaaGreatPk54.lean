/- Spans that are none. Printed by genNn.py. Spans that are none: Stab, Count, Meet, Get. The law SpansNone. -/
import Derived.OwnWalk
import Derived.Laws.StructEq
import Derived.Test.YtkbaaonchdeneaaGreatPk53
import Derived.Test.YtkbaaonchdeneaaGreatPk19
set_option maxHeartbeats 8000000
set_option maxRecDepth 100000
namespace Go.Proofs.YtkbaaonchdeneaaGreat.PSp
open Go.RowKit
attribute [local go_sem ↓] Go.wp_at_zero Go.wp_at_succ
def NoSp (w:World) (v:Value):Prop:=v=.pointer none∨∃q,v=.pointer (some ⟨q,0,none⟩)∧w.cell? ⟨q,0,none⟩=some (.pointer none)
theorem NoSp.upd {w w':World} {v:Value} (h:NoSp w v) (hu:Upd [] w w'):NoSp w' v:=by
 rcases h with h | ⟨q,h,hc⟩
 ·exact .inl h
 ·exact .inr ⟨q,h,(hu.cell (World.block_lt_of_cell? _ _ hc) (by simp)).trans hc⟩
theorem NoSp.ptr {w:World} {v:Value} (h:NoSp w v):∃o,v=.pointer o:=by
 rcases h with h | ⟨q,h,-⟩
 ·exact ⟨_,h⟩
 ·exact ⟨_,h⟩
theorem noneT (v:Value) (w:World) (h:NoSp w v):Calls Tryz.prog 81 #[v] w fun e w'=>e=.returned (.bool true)∧w=w':=by
 rcases h with rfl | ⟨q,rfl,hc⟩
 ·go_enter Tryz.func81,Tryz.ntmps81
  go_wp2_with fail
  go_ret
  exact ⟨rfl,rfl⟩
 ·go_enter Tryz.func81,Tryz.ntmps81
  go_wp2_with fail
  go_ret
  exact ⟨rfl,rfl⟩
theorem addNn (v:Value) (s:Sp) (w:World) (h:NoSp w v):Calls Tryz.prog 27 #[v,spV s] w fun e w'=>e=.returned (.tuple #[.int .i64 0,.bool false])∧Upd [] w w':=by
 obtain ⟨o,rfl⟩:=h.ptr
 have HN0:=Lib.hid (fun (w2:World) (hu:Upd [] w w2)=>noneT _ w2 (h.upd hu))
 unfold spV
 clear h
 go_enter Tryz.func27,Tryz.ntmps27
 go_upto_region 1 with fail
 obtain ⟨W,hW,hux,-⟩:=one_newC w #[.int .i64 s.lo,.int .i64 s.hi,.int .u32 (s.id:Int)] 62
 rw [←hW]
 clear hW
 have HN:=Lib.hid (fun (w2:World) (hu:Upd [] W w2)=>HN0.out w2 (hux.trans hu))
 refine GoT.start [] (fun w'=>Upd [] W w') (by kernel_rfl) ?_ fun hS=>?_
 ·exact (Upd.refl _ _).drew
 refine' GoT.mv (i:=0) (oi:=⟨some 6,_,_,_,_,_⟩) rfl (by rfl) ?y1_0 ?_
 case y1_0=>intro w;go_simp<;>with_reducible rfl
 simp only [Act.put,sA,sZ,sS]
 refine GoT.one (i:=1) (o:=⟨some 7,_,_,_,_,_⟩) rfl (by kernel_rfl) fun K hK=>?_
 go_simp
 go_at_call 81
 (with_reducible refine (HN.out _ hS).mono ?_)
 rintro e w1 ⟨rfl,rfl⟩
 refine hK.out _ _ (fun _ h=>?_) ?_
 ·exact h
 clear hK K
 try simp only [Act.put,sA,sZ,sS]
 refine' GoT.mv (i:=2) (oi:=⟨some 8,_,_,_,_,_⟩) rfl (by rfl) ?y1_2 ?_
 case y1_2=>intro w;go_simp<;>with_reducible rfl
 simp only [Act.put,sA,sZ,sS]
 refine' GoT.move (i:=3) (oi:=⟨some 9,_,_,_,_,_⟩) (v:=_) rfl (by kernel_rfl) (by kernel_rfl) (by kernel_rfl) (fun _ _ _ h=>h) (Or.inr ⟨by rfl,rfl⟩) ?r1_3
 simp only [Act.put,sA,sZ,sS]
 refine GoT.one (i:=4) (o:=⟨some 10,_,_,_,_,_⟩) rfl (by kernel_rfl) fun K hK=>?_
 rw [if_neg (by simp [Region.wanted,yielded])]
 refine hK.out _ _ (fun _ h=>?_) ?_
 ·exact h
 clear hK K
 try simp only [Act.put,sA,sZ,sS]
 refine' GoT.move (i:=5) (oi:=⟨some 11,_,_,_,_,_⟩) (v:=_) rfl (by kernel_rfl) (by kernel_rfl) (by kernel_rfl) (fun _ _ _ h=>h) (Or.inr ⟨by rfl,rfl⟩) ?r1_5
 simp only [Act.put,sA,sZ,sS]
 refine' GoT.mv (i:=6) (oi:=⟨some 12,_,_,_,_,_⟩) rfl (by rfl) ?y1_6 ?_
 case y1_6=>intro w;go_simp<;>with_reducible rfl
 simp only [Act.put,sA,sZ,sS]
 refine' GoT.mv (i:=7) (oi:=⟨some 13,_,_,_,_,_⟩) rfl (by rfl) ?y1_7 ?_
 case y1_7=>intro w;go_simp<;>with_reducible rfl
 simp only [Act.put,sA,sZ,sS]
 refine' GoT.move (i:=8) (oi:=⟨some 14,_,_,_,_,_⟩) (v:=_) rfl (by kernel_rfl) (by kernel_rfl) (by kernel_rfl) (fun _ _ _ h=>h) (Or.inr ⟨by rfl,rfl⟩) ?r1_8
 simp only [Act.put,sA,sZ,sS]
 refine' GoT.move (i:=9) (oi:=⟨some 15,_,_,_,_,_⟩) (v:=_) rfl (by kernel_rfl) (by kernel_rfl) (by kernel_rfl) (fun _ _ _ h=>h) (Or.inr ⟨by rfl,rfl⟩) ?r1_9
 simp only [Act.put,sA,sZ,sS]
 refine' GoT.move (i:=10) (oi:=⟨some 16,_,_,_,_,_⟩) (v:=_) rfl (by kernel_rfl) (by kernel_rfl) (by kernel_rfl) (fun _ _ _ h=>h) (Or.inr ⟨by rfl,rfl⟩) ?r1_10
 simp only [Act.put,sA,sZ,sS]
 refine' GoT.move (i:=11) (oi:=⟨some 17,_,_,_,_,_⟩) (v:=_) rfl (by kernel_rfl) (by kernel_rfl) (by kernel_rfl) (fun _ _ _ h=>h) (Or.inr ⟨by rfl,rfl⟩) ?r1_11
 simp only [Act.put,sA,sZ,sS]
 refine' GoT.move (i:=12) (oi:=⟨some 18,_,_,_,_,_⟩) (v:=_) rfl (by kernel_rfl) (by kernel_rfl) (by kernel_rfl) (fun _ _ _ h=>h) (Or.inr ⟨by rfl,rfl⟩) ?r1_12
 simp only [Act.put,sA,sZ,sS]
 refine' GoT.move (i:=13) (oi:=⟨some 19,_,_,_,_,_⟩) (v:=_) rfl (by kernel_rfl) (by kernel_rfl) (by kernel_rfl) (fun _ _ _ h=>h) (Or.inr ⟨by rfl,rfl⟩) ?r1_13
 simp only [Act.put,sA,sZ,sS]
 refine' GoT.move (i:=14) (oi:=⟨some 20,_,_,_,_,_⟩) (v:=_) rfl (by kernel_rfl) (by kernel_rfl) (by kernel_rfl) (fun _ _ _ h=>h) (Or.inr ⟨by rfl,rfl⟩) ?r1_14
 simp only [Act.put,sA,sZ,sS]
 refine' GoT.move (i:=15) (oi:=⟨some 21,_,_,_,_,_⟩) (v:=_) rfl (by kernel_rfl) (by kernel_rfl) (by kernel_rfl) (fun _ _ _ h=>h) (Or.inr ⟨by rfl,rfl⟩) ?r1_15
 simp only [Act.put,sA,sZ,sS]
 refine' GoT.move (i:=16) (oi:=⟨some 22,_,_,_,_,_⟩) (v:=_) rfl (by kernel_rfl) (by kernel_rfl) (by kernel_rfl) (fun _ _ _ h=>h) (Or.inr ⟨by rfl,rfl⟩) ?r1_16
 simp only [Act.put,sA,sZ,sS]
 refine' GoT.move (i:=17) (oi:=⟨some 23,_,_,_,_,_⟩) (v:=_) rfl (by kernel_rfl) (by kernel_rfl) (by kernel_rfl) (fun _ _ _ h=>h) (Or.inr ⟨by rfl,rfl⟩) ?r1_17
 simp only [Act.put,sA,sZ,sS]
 refine' GoT.move (i:=18) (oi:=⟨some 24,_,_,_,_,_⟩) (v:=_) rfl (by kernel_rfl) (by kernel_rfl) (by kernel_rfl) (fun _ _ _ h=>h) (Or.inr ⟨by rfl,rfl⟩) ?r1_18
 simp only [Act.put,sA,sZ,sS]
 refine GoT.one (i:=19) (o:=⟨some 25,_,_,_,_,_⟩) rfl (by kernel_rfl) fun K hK=>?_
 rw [if_neg (by simp [Region.wanted,yielded])]
 refine hK.out _ _ (fun _ h=>?_) ?_
 ·exact h
 clear hK K
 try simp only [Act.put,sA,sZ,sS]
 refine' GoT.move (i:=20) (oi:=⟨some 26,_,_,_,_,_⟩) (v:=_) rfl (by kernel_rfl) (by kernel_rfl) (by kernel_rfl) (fun _ _ _ h=>h) (Or.inr ⟨by rfl,rfl⟩) ?r1_20
 simp only [Act.put,sA,sZ,sS]
 refine' GoT.mv (i:=21) (oi:=⟨some 27,_,_,_,_,_⟩) rfl (by rfl) ?y1_21 ?_
 case y1_21=>intro w;go_simp<;>with_reducible rfl
 simp only [Act.put,sA,sZ,sS]
 refine GoT.done (by kernel_rfl) ?_
 go_wp2_with fail
 go_ret2
 exact ⟨rfl,hux.trans hS⟩
theorem dropNn (v:Value) (x:Nat) (w:World) (h:NoSp w v):Calls Tryz.prog 28 #[v,.int .u32 (x:Int)] w fun e w'=>e=.returned (.tuple #[.int .i64 0,.bool false])∧Upd [] w w':=by
 have HN:=Lib.hid (fun (w2:World) (hu:Upd [] w w2)=>noneT _ w2 (h.upd hu))
 obtain ⟨o,rfl⟩:=h.ptr
 clear h
 go_enter Tryz.func28,Tryz.ntmps28
 go_wp2_with fail
 (with_reducible refine (HN.out _ (Upd.refl _ _)).mono ?_)
 rintro e w' ⟨rfl,rfl⟩
 go_wp2_with fail
 go_ret2
 exact ⟨rfl,Upd.refl _ _⟩
theorem lenNn (v:Value) (w:World) (h:NoSp w v):Calls Tryz.prog 33 #[v] w fun e w'=>e=.returned (.int .i64 0)∧Upd [] w w':=by
 have HN:=Lib.hid (fun (w2:World) (hu:Upd [] w w2)=>noneT _ w2 (h.upd hu))
 obtain ⟨o,rfl⟩:=h.ptr
 clear h
 go_enter Tryz.func33,Tryz.ntmps33
 go_wp2_with fail
 (with_reducible refine (HN.out _ (Upd.refl _ _)).mono ?_)
 rintro e w' ⟨rfl,rfl⟩
 go_wp2_with fail
 go_ret
 exact ⟨rfl,Upd.refl _ _⟩
theorem storedNn (v:Value) (w:World) (h:NoSp w v):Calls Tryz.prog 42 #[v] w fun e w'=>e=.returned (.int .i64 0)∧Upd [] w w':=by
 have HN:=Lib.hid (fun (w2:World) (hu:Upd [] w w2)=>noneT _ w2 (h.upd hu))
 obtain ⟨o,rfl⟩:=h.ptr
 clear h
 go_enter Tryz.func42,Tryz.ntmps42
 go_wp2_with fail
 (with_reducible refine (HN.out _ (Upd.refl _ _)).mono ?_)
 rintro e w' ⟨rfl,rfl⟩
 go_wp2_with fail
 go_ret
 exact ⟨rfl,Upd.refl _ _⟩
theorem workNn (v:Value) (w:World) (h:NoSp w v):Calls Tryz.prog 41 #[v] w fun e w'=>e=.returned (.int .i64 0)∧Upd [] w w':=by
 have HN:=Lib.hid (fun (w2:World) (hu:Upd [] w w2)=>noneT _ w2 (h.upd hu))
 obtain ⟨o,rfl⟩:=h.ptr
 clear h
 go_enter Tryz.func41,Tryz.ntmps41
 go_wp2_with fail
 (with_reducible refine (HN.out _ (Upd.refl _ _)).mono ?_)
 rintro e w' ⟨rfl,rfl⟩
 go_wp2_with fail
 go_ret
 exact ⟨rfl,Upd.refl _ _⟩
theorem treesNn (v:Value) (w:World) (h:NoSp w v):Calls Tryz.prog 85 #[v] w fun e w'=>e=.returned (.slice none 0 0)∧Upd [] w w':=by
 have HN:=Lib.hid (fun (w2:World) (hu:Upd [] w w2)=>noneT _ w2 (h.upd hu))
 obtain ⟨o,rfl⟩:=h.ptr
 clear h
 go_enter Tryz.func85,Tryz.ntmps85
 go_wp2_with fail
 (with_reducible refine (HN.out _ (Upd.refl _ _)).mono ?_)
 rintro e w' ⟨rfl,rfl⟩
 go_wp2_with fail
 go_ret
 exact ⟨rfl,Upd.refl _ _⟩
end Go.Proofs.YtkbaaonchdeneaaGreat.PSp
namespace Go.Proofs.YtkbaaonchdeneaaGreat.PSp
open Go.RowKit
theorem stabNn (v:Value) (x:Int) (w:World) (h:NoSp w v):Calls Tryz.prog 29 #[v,.int .i64 x] w fun e w'=>e=.returned (.tuple #[.slice none 0 0,.int .i64 0])∧Upd [] w w':=by
 have HN:=Lib.hid (treesNn v w h)
 obtain ⟨o,rfl⟩:=h.ptr
 clear h
 go_enter Tryz.func29,Tryz.ntmps29
 go_wp2_with fail
 (with_reducible refine HN.out.mono ?_)
 rintro e w1 ⟨rfl,u1⟩
 have HU:=Lib.hid u1
 clear u1
 go_wp2_with fail
 go_loopg [6,7,15] 0 (fun m so st s wr=>so=.slice none 0 0∧st=.int .i64 0∧s=.int .i64 0∧wr=w1)
 case atStart=>exact ⟨rfl,rfl,rfl,rfl⟩
 case round=>
  obtain ⟨rfl,rfl,rfl,rfl⟩:=hrel
  go_wp2_with fail
  (with_reducible refine (sortU 0 (.slice none 0 0) [] wr (by unfold Kind.row;simpa [Kind.all] using World.ownsRow_nil wr 0 KU.eT KU.sz) (by decide)).mono ?_)
  rintro e w2 ⟨rfl,-,u2⟩
  have HU2:=Lib.hid (HU.out.trans (u2.mono (by simp [blk])))
  clear u2
  go_wp2_with fail
  go_ret2
  exact ⟨rfl,HU2.out⟩
theorem countNn (v:Value) (x:Int) (w:World) (h:NoSp w v):Calls Tryz.prog 31 #[v,.int .i64 x] w fun e w'=>e=.returned (.tuple #[.int .i64 0,.int .i64 0])∧Upd [] w w':=by
 have HN:=Lib.hid (treesNn v w h)
 obtain ⟨o,rfl⟩:=h.ptr
 clear h
 go_enter Tryz.func31,Tryz.ntmps31
 go_wp2_with fail
 (with_reducible refine HN.out.mono ?_)
 rintro e w1 ⟨rfl,u1⟩
 have HU:=Lib.hid u1
 clear u1
 go_wp2_with fail
 go_loopg [6,7,15] 0 (fun m so st s wr=>so=.int .i64 0∧st=.int .i64 0∧s=.int .i64 0∧wr=w1)
 case atStart=>exact ⟨rfl,rfl,rfl,rfl⟩
 case round=>
  obtain ⟨rfl,rfl,rfl,rfl⟩:=hrel
  go_wp2_with fail
  go_ret2
  exact ⟨rfl,HU.out⟩
theorem meetNn (v:Value) (x y:Int) (w:World) (h:NoSp w v):Calls Tryz.prog 30 #[v,.int .i64 x,.int .i64 y] w fun e w'=>e=.returned (.tuple #[.slice none 0 0,.int .i64 0])∧Upd [] w w':=by
 have HN:=Lib.hid (treesNn v w h)
 obtain ⟨o,rfl⟩:=h.ptr
 clear h
 go_enter Tryz.func30,Tryz.ntmps30
 go_wp2_with fail
 (with_reducible refine HN.out.mono ?_)
 rintro e w1 ⟨rfl,u1⟩
 have HU:=Lib.hid u1
 clear u1
 go_wp2_with fail
 go_loopg [8,9,17] 0 (fun m so st s wr=>so=.slice none 0 0∧st=.int .i64 0∧s=.int .i64 0∧wr=w1)
 case atStart=>exact ⟨rfl,rfl,rfl,rfl⟩
 case round=>
  obtain ⟨rfl,rfl,rfl,rfl⟩:=hrel
  go_wp2_with fail
  (with_reducible refine (sortU 0 (.slice none 0 0) [] wr (by unfold Kind.row;simpa [Kind.all] using World.ownsRow_nil wr 0 KU.eT KU.sz) (by decide)).mono ?_)
  rintro e w2 ⟨rfl,-,u2⟩
  have HU2:=Lib.hid (HU.out.trans (u2.mono (by simp [blk])))
  clear u2
  go_wp2_with fail
  go_ret2
  exact ⟨rfl,HU2.out⟩
theorem getNn (v:Value) (x:Nat) (w:World) (h:NoSp w v):Calls Tryz.prog 36 #[v,.int .u32 (x:Int)] w fun e w'=>e=.returned (.tuple #[.agg #[.int .i64 0,.int .i64 0,.int .u32 0],.bool false])∧Upd [] w w':=by
 obtain ⟨W,hW,hu0,hq0⟩:=one_newC w #[.int .i64 0,.int .i64 0,.int .u32 0] 62
 have HN:=Lib.hid (noneT v W (h.upd hu0))
 have HU0:=Lib.hid hu0
 have HQ:=Lib.hid hq0
 obtain ⟨o,rfl⟩:=h.ptr
 have hs5:HcC (((W.setCell ⟨w.heap.size,0,none⟩ (.int .i64 0)).setCell ⟨w.heap.size,1,none⟩ (.int .i64 0)).setCell ⟨w.heap.size,2,none⟩ (.int .u32 0)) w.heap.size #[.int .i64 0,.int .i64 0,.int .u32 0] 62:=((hq0.set 0 (.int .i64 0)).set 1 (.int .i64 0)).set 2 (.int .u32 0)
 have hu5:Upd [w.heap.size] W (((W.setCell ⟨w.heap.size,0,none⟩ (.int .i64 0)).setCell ⟨w.heap.size,1,none⟩ (.int .i64 0)).setCell ⟨w.heap.size,2,none⟩ (.int .u32 0)):=(((Upd.refl _ _).setCell (p:=⟨w.heap.size,0,none⟩) (.inl (by simp)) _).setCell (p:=⟨w.heap.size,1,none⟩) (.inl (by simp)) _).setCell (p:=⟨w.heap.size,2,none⟩) (.inl (by simp)) _
 have HS5:=Lib.hid (And.intro hs5 hu5)
 obtain ⟨y0,y1,y2⟩:=hq0.cells3
 have f0:=hq0.frozen 0
 have f1:=hq0.frozen 1
 have f2:=hq0.frozen 2
 have HWD:=Lib.hid hW
 clear h hW hu0 hq0 hs5 hu5
 go_enter Tryz.func36,Tryz.ntmps36
 go_upto_region 1 with fail
 rw [←HWD.out]
 go_wp2_with fail
 (with_reducible refine HN.out.mono ?_)
 rintro e w' ⟨rfl,rfl⟩
 go_wp2_with fail
 obtain ⟨g5,u5⟩:=HS5.out
 obtain ⟨z0,z1,z2⟩:=g5.cells3
 exact bodyPost_ret (v:=.tuple #[.agg #[.int .i64 0,.int .i64 0,.int .u32 0],.bool false]) (by simp [results,Tryz.results36,go_sem,z0,z1,z2]) rfl ⟨rfl,HU0.out.trans' u5 (fun k hk=>by simp at hk;subst hk;right;omega)⟩
end Go.Proofs.YtkbaaonchdeneaaGreat.PSp
namespace Go.Proofs.YtkbaaonchdeneaaGreat.PSp
open Go.RowKit
structure NnW (w0 w:World) (s:Sp) (b z l:Nat):Prop where
 sp:HcC w b #[.int .i64 s.lo,.int .i64 s.hi,.int .u32 (s.id:Int)] 62
 no:NoSp w (.pointer (some ⟨z,0,none⟩))
 c0:w.cell? ⟨l,0,none⟩=some (.pointer none)
 c1:w.cell? ⟨l,1,none⟩=some (.pointer (some ⟨z,0,none⟩))
 up:Upd [] w0 w
theorem NnW.upd {w0 w w':World} {s:Sp} {b z l:Nat} (h:NnW w0 w s b z l) (hu:Upd [] w w'):NnW w0 w' s b z l:=
 ⟨h.sp.upd0 hu,h.no.upd hu,(hu.cell (World.block_lt_of_cell? _ _ h.c0) (by simp)).trans h.c0,(hu.cell (World.block_lt_of_cell? _ _ h.c1) (by simp)).trans h.c1,h.up.trans hu⟩
theorem neZ (w:World):(binOp .neq 62 (.agg #[.int .i64 0,.int .i64 0,.int .u32 0]) (.agg #[.int .i64 0,.int .i64 0,.int .u32 0])).run Tryz.prog w=.ok (.bool false) w:=by
 rw [run_neq_struct,run_equalIn_agg _ _ _ _ _ (by kernel_rfl) (by kernel_rfl)]
 go_simp
theorem spansNone (s:Sp) (x:Int) (w:World):Calls Tryz.prog 9 #[spV s,.int .i64 x] w fun e w'=>e=.returned (.bool true)∧Upd [] w w':=by
 unfold spV
 go_enter Tryz.func9,Tryz.ntmps9
 go_upto_block 0 with fail
 obtain ⟨W1,hW1,u1,q1⟩:=one_newC w #[.int .i64 s.lo,.int .i64 s.hi,.int .u32 (s.id:Int)] 62
 rw [←hW1]
 obtain ⟨W2,hW2,u2,q2⟩:=one_newC W1 #[.pointer none,.pointer none,.slice none 0 0] 84
 rw [←hW2]
 obtain ⟨W3,hW3,u3,q3⟩:=one_newC W2 #[.pointer none,.pointer (some ⟨w.heap.size+1,0,none⟩)] 58
 have e1:W1.heap.size=w.heap.size+1:=by rw [hW1];simp
 have e2:W2.heap.size=w.heap.size+1+1:=by rw [hW2];simp [e1]
 rw [e1] at q2
 rw [e2] at q3
 have HW0:=Lib.hid (⟨(q1.upd0 u2).upd0 u3,.inr ⟨_,rfl,((q2.upd0 u3).cell 0)⟩,q3.cell 0,q3.cell 1,(u1.trans u2).trans u3⟩:NnW w W3 s w.heap.size (w.heap.size+1) (w.heap.size+1+1))
 rw [←hW3]
 clear hW1 hW2 hW3 u1 u2 u3 q1 q2 q3 e1 e2
 generalize w.heap.size+1=z at HW0 ⊢
 obtain ⟨b,hb⟩:∃b,w.heap.size=b:=⟨_,rfl⟩
 rw [hb] at HW0 ⊢
 clear hb
 have HA:=Lib.hid (fun w=>awake24 w)
 go_wp2_with fail
 go_loopg [23] 2 (fun m s23 wr=>∃k:Nat,m+k=2∧s23=.int .i64 (k:Int)∧NnW w wr s b z (z+1))
 case atStart=>exact ⟨0,rfl,rfl,HW0.out⟩
 case round=>
  obtain ⟨k,hk,rfl,hN⟩:=hrel
  have k0:(0:Int)≤(k:Int):=Int.natCast_nonneg _
  by_cases hlt:k<2
  ·have hv0:∃o,wr.cell? ⟨z+1,k,none⟩=some (.pointer o)∧NoSp wr (.pointer o):=by
    have h3:k=0∨k=1:=by omega
    rcases h3 with rfl | rfl
    ·exact ⟨none,hN.c0,.inl rfl⟩
    ·exact ⟨_,hN.c1,hN.no⟩
   obtain ⟨o,hc,hv1⟩:=hv0
   have hlt2:(k:Int)<2:=by omega
   have N1:=Lib.hid hN
   obtain ⟨b0,b1,b2⟩:=hN.sp.cells3
   have HK:=Lib.hid hk
   clear hN hk
   go_wp2_with fail
   (with_reducible refine (show Calls Tryz.prog 27 #[.pointer o,.agg #[.int .i64 s.lo,.int .i64 s.hi,.int .u32 (s.id:Int)]] wr fun e w'=>e=.returned (.tuple #[.int .i64 0,.bool false])∧Upd [] wr w' from (by have h9:=addNn (.pointer o) s wr hv1;unfold spV at h9;exact h9)).mono ?_)
   rintro e w2 ⟨rfl,u2⟩
   have N2:=Lib.hid (N1.out.upd u2)
   have hv2:=hv1.upd u2
   obtain ⟨b0,b1,b2⟩:=N2.out.sp.cells3
   clear u2 hv1
   go_wp2_with fail
   (with_reducible refine (dropNn _ s.id _ hv2).mono ?_)
   rintro e w3 ⟨rfl,u3⟩
   have N3:=Lib.hid (N2.out.upd u3)
   have hv3:=hv2.upd u3
   obtain ⟨b0,b1,b2⟩:=N3.out.sp.cells3
   clear u3 hv2
   go_wp2_with fail
   (with_reducible refine (getNn _ s.id _ hv3).mono ?_)
   rintro e w4 ⟨rfl,u4⟩
   have N4:=Lib.hid (N3.out.upd u4)
   have hv4:=hv3.upd u4
   obtain ⟨b0,b1,b2⟩:=N4.out.sp.cells3
   clear u4 hv3
   go_wp2_with fail
   go_upto_region 7 with fail
   obtain ⟨W5,hW5,u5,q5⟩:=one_newC w4 #[.int .i64 0,.int .i64 0,.int .u32 0] 62
   rw [←hW5]
   clear hW5
   generalize w4.heap.size=qz at q5 ⊢
   have N5:=Lib.hid (N4.out.upd u5)
   have hv5:=hv4.upd u5
   have Q5:=Lib.hid q5
   clear u5 q5 hv4 b0 b1 b2
   go_wp2_with fail
   (with_reducible refine (stabNn _ x _ hv5).mono ?_)
   rintro e w6 ⟨rfl,u6⟩
   have N6:=Lib.hid (N5.out.upd u6)
   have hv6:=hv5.upd u6
   have Q6:=Lib.hid (Q5.out.upd0 u6)
   clear u6 hv5
   go_wp2_with fail
   (with_reducible refine (countNn _ x _ hv6).mono ?_)
   rintro e w7 ⟨rfl,u7⟩
   have N7:=Lib.hid (N6.out.upd u7)
   have hv7:=hv6.upd u7
   have Q7:=Lib.hid (Q6.out.upd0 u7)
   obtain ⟨b0,b1,b2⟩:=N7.out.sp.cells3
   clear u7 hv6
   go_wp2_with fail
   (with_reducible refine (meetNn _ s.lo x _ hv7).mono ?_)
   rintro e w8 ⟨rfl,u8⟩
   have N8:=Lib.hid (N7.out.upd u8)
   have hv8:=hv7.upd u8
   have Q8:=Lib.hid (Q7.out.upd0 u8)
   clear u8 hv7 b0 b1 b2
   go_wp2_with fail
   (with_reducible refine (lenNn _ _ hv8).mono ?_)
   rintro e w9 ⟨rfl,u9⟩
   have N9:=Lib.hid (N8.out.upd u9)
   have hv9:=hv8.upd u9
   have Q9:=Lib.hid (Q8.out.upd0 u9)
   clear u9 hv8
   go_wp2_with fail
   (with_reducible refine (storedNn _ _ hv9).mono ?_)
   rintro e w10 ⟨rfl,u10⟩
   have N10:=Lib.hid (N9.out.upd u10)
   have hv10:=hv9.upd u10
   have Q10:=Lib.hid (Q9.out.upd0 u10)
   clear u10 hv9
   go_wp2_with fail
   (with_reducible refine (workNn _ _ hv10).mono ?_)
   rintro e w11 ⟨rfl,u11⟩
   have N11:=Lib.hid (N10.out.upd u11)
   have Q11:=Lib.hid (Q10.out.upd0 u11)
   obtain ⟨b0,b1,b2⟩:=Q11.out.cells3
   have hne:=neZ w11
   clear u11 hv10
   go_wp2_with fail
   go_roundg (2 - (k+1))
   case measure=>have:=HK.out;omega
   case rel=>exact ⟨k+1,by have:=HK.out;omega,by go_num,N11.out⟩
  ·have HN:=Lib.hid hN
   have hk2:k=2:=by omega
   subst hk2
   clear hN hk
   go_wp2_with fail
   (with_reducible refine (HA.out _).mono ?_)
   rintro e w2 ⟨rfl,u2⟩
   have HU:=Lib.hid u2
   clear u2
   go_wp2_with fail
   go_ret
   exact ⟨rfl,HN.out.up.trans HU.out⟩
end Go.Proofs.YtkbaaonchdeneaaGreat.PSp
