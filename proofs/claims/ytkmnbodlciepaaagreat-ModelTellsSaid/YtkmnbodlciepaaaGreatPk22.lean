/- model.change: something comes, or goes. Printed by mkchg.py. -/
import Derived.StillTailTactics
import Derived.Test.YtkmnbodlciepaaaGreatPk19
import Derived.Test.YtkmnbodlciepaaaGreatPk20
import Derived.Test.YtkmnbodlciepaaaGreatPk16
import Derived.Test.YtkmnbodlciepaaaGreatPk21
set_option maxHeartbeats 8000000
set_option maxRecDepth 100000
namespace Go.Proofs.YtkmnbodlciepaaaGreat
open Go.RowKit
def HpC (w:World) (p:Nat) (l:Array Value) (t:TypeId):Prop:=w.heap[p]? = some (.cells l t (0,0))
theorem HpC.cell {w:World} {q:Nat} {l:Array Value} {t:TypeId} (h:HpC w q l t) (k:Nat):w.cell? ⟨q,k,none⟩=l[k]?:=by
 unfold HpC at h;simp only [World.cell?,h];rfl
theorem HpC.frozen {w:World} {q:Nat} {l:Array Value} {t:TypeId} (h:HpC w q l t) (k:Nat):w.frozen? ⟨q,k,none⟩=false:=by
 unfold HpC at h;simp [World.frozen?,h]
theorem HpC.upd {F:List Nat} {w w':World} {q:Nat} {l:Array Value} {t:TypeId} (h:HpC w q l t) (hu:Upd F w w') (hq:q∉F):HpC w' q l t:=by
 unfold HpC at h ⊢;rw [hu.block q (lt_of_block h) hq,h]
theorem CelB.upd {F:List Nat} {w w':World} {B:Nat} {l:List Value} (h:CelB w B l) (hu:Upd F w w') (hB:B∉F):CelB w' B l:=fun k v hk=>(hu.cell (World.block_lt_of_cell? w _ (h k v hk)) hB).trans (h k v hk)
theorem CelB.of_hp {w:World} {B:Nat} {l:Array Value} {t:TypeId} (h:HpC w B l t):CelB w B l.toList:=CelB.of_heap (by unfold HpC at h;simpa using h)
theorem HpC.set {w:World} {q:Nat} {l:Array Value} {t:TypeId} (h:HpC w q l t) (k:Nat) (v:Value):HpC (w.setCell ⟨q,k,none⟩ v) q (l.setIfInBounds k v) t:=heap_setCell_same w q k _ _ _ h
theorem HpC.put3 {w:World} {q:Nat} {a b c:Value} {t:TypeId} (h:HpC w q #[a,b,c] t) (a' b' c':Value) :
 HpC (((w.setCell ⟨q,0,none⟩ a').setCell ⟨q,1,none⟩ b').setCell ⟨q,2,none⟩ c') q #[a',b',c'] t∧Upd [q] w (((w.setCell ⟨q,0,none⟩ a').setCell ⟨q,1,none⟩ b').setCell ⟨q,2,none⟩ c'):=
 ⟨((h.set 0 a').set 1 b').set 2 c',(((Upd.refl [q] w).setCell (p:=⟨q,0,none⟩) (.inl (by simp)) _).setCell (p:=⟨q,1,none⟩) (.inl (by simp)) _).setCell (p:=⟨q,2,none⟩) (.inl (by simp)) _⟩
theorem HpC.put5 {w:World} {q:Nat} {a b c d e:Value} {t:TypeId} (h:HpC w q #[a,b,c,d,e] t) (a' b' c' d' e':Value) :
 HpC (((((w.setCell ⟨q,0,none⟩ a').setCell ⟨q,1,none⟩ b').setCell ⟨q,2,none⟩ c').setCell ⟨q,3,none⟩ d').setCell ⟨q,4,none⟩ e') q #[a',b',c',d',e'] t∧Upd [q] w (((((w.setCell ⟨q,0,none⟩ a').setCell ⟨q,1,none⟩ b').setCell ⟨q,2,none⟩ c').setCell ⟨q,3,none⟩ d').setCell ⟨q,4,none⟩ e'):=
 ⟨((((h.set 0 a').set 1 b').set 2 c').set 3 d').set 4 e',(((((Upd.refl [q] w).setCell (p:=⟨q,0,none⟩) (.inl (by simp)) _).setCell (p:=⟨q,1,none⟩) (.inl (by simp)) _).setCell (p:=⟨q,2,none⟩) (.inl (by simp)) _).setCell (p:=⟨q,3,none⟩) (.inl (by simp)) _).setCell (p:=⟨q,4,none⟩) (.inl (by simp)) _⟩
def PtrTo (l:Array Value) (t:TypeId) (x:Value) (w:World):Prop:=∃p,x=.pointer (some ⟨p,0,none⟩)∧HpC w p l t
theorem PtrTo.upd0 {l:Array Value} {t:TypeId} {x:Value} {w w':World} (h:PtrTo l t x w) (hu:Upd [] w w'):PtrTo l t x w':=by
 obtain ⟨p,e,h⟩:=h
 exact ⟨p,e,h.upd hu (by simp)⟩
theorem PtrTo.new (w:World) (l:Array Value) (t:TypeId):PtrTo l t (.pointer (some ⟨w.heap.size,0,none⟩)) (w.alloc (.cells l t)):=⟨_,rfl,heap_alloc_new _ _⟩
def SbAt (w:World) (p5 p6:Nat) (o:OpP):Prop:=CelB w p5 [.int .i64 o.a,.int .i64 o.b,.int .u32 (o.id:Int)]∧CelB w p6 [.int .i64 o.a,.int .i64 o.b,.int .i64 o.c,.int .i64 o.d,.int .u32 (o.id:Int)]
def ChgPost (w:World) (h p s x:Nat) (r:Md×RepP) (e:Ending) (w':World):Prop:=(∃v,e=.returned v∧RepAt w' v r.2)∧MdAt w' h p s x r.1∧Upd [p,s,x] w w'
structure ChgF (w:World) (b q p5 p6 h p s x:Nat) (o:OpP) (m:Md):Prop where
 op:CelB w b (opL o)
 rp:RpAt w q repZ
 sb:SbAt w p5 p6 o
 md:MdAt w h p s x m
theorem ChgF.upd0 {w w':World} {b q p5 p6 h p s x:Nat} {o:OpP} {m:Md} (f:ChgF w b q p5 p6 h p s x o m) (hu:Upd [] w w'):ChgF w' b q p5 p6 h p s x o m:=
 ⟨f.op.upd0 hu,f.rp.upd hu (by simp),⟨f.sb.1.upd0 hu,f.sb.2.upd0 hu⟩,f.md.upd0 hu⟩
theorem change_ok {m:Md} (h:m.ok) {o:OpP} (hid:o.id<4294967296) (ho:1≤o.code∧o.code≤6):(changeM m o).1.ok:=by
 have:=doM_ok (A:=fun _=>0) (R:=fun _=>0) h hid
 unfold doM at this
 rw [if_neg (by omega),if_pos (by omega)] at this
 exact this
theorem come_ids {α:Type} (key:α→Nat) (room:Nat) (l:List α) (x:α):(comeM key room l x).2.ids = []:=by
 unfold comeM;split
 ·rfl
 ·split<;>rfl
theorem lose_ids {α:Type} (key:α→Nat) (l:List α) (k:Nat):(loseM key l k).2.ids = []:=by
 unfold loseM;split<;>rfl
theorem RepAt.updE {F:List Nat} {w w':World} {v:Value} {r:RepP} (h:RepAt w v r) (hi:r.ids = []) (hu:Upd F w w'):RepAt w' v r:=by
 obtain ⟨A,C,hi',lo,h1,h2,h3⟩:=h
 exact ⟨A,C,hi',lo,h1,h2.upd hu (fun hc=>by rw [hi] at hc;simp at hc),h3⟩
theorem chg_err {w w1 w2:World} {h p s x q:Nat} {m:Md} {v:Value} {r:RepP} (g:MdAt w h p s x m) (hu:Upd [] w w1) (hq:w.heap.size≤q) (hre:RepAt w1 v r) (hids:r.ids = []) (hu2:Upd [q] w1 w2):ChgPost w h p s x (m,r) (.returned v) w2:=by
 have u2:Upd [] w w2:=hu.trans' hu2 (fun y hy=>.inr (by simp at hy;omega))
 exact ⟨⟨v,rfl,hre.updE hids hu2⟩,g.upd0 u2,u2.mono (by simp)⟩
theorem chg_endP {w wc w1 w2:World} {h p s x q:Nat} {m:Md} {z:List Pt×RepP} {v:Value} (g:MdAt w h p s x m) (hok:({ m with ps:=z.1 }:Md).ok) (hu:Upd [] w wc) (hq:w.heap.size≤q) (hre:RepAt w1 v z.2) (hids:z.2.ids = [])
 (hm:MapU MKP w1 p (findK Pt.id z.1) z.1.length) (hup:Upd [p] wc w1) (hu2:Upd [q] w1 w2):ChgPost w h p s x (({ m with ps:=z.1 }:Md),z.2) (.returned v) w2:=by
 have u1:Upd [p] w w1:=(hu.mono (by simp)).trans hup
 have u2:Upd [p] w w2:=u1.trans' hu2 (fun y hy=>.inr (by simp at hy;omega))
 have l0:=lt_of_block g.head
 have l1:=g.ps.lt
 have l2:=g.ss.lt
 have l3:=g.bs.lt
 have e1:=g.ps.not_cells g.head
 have e2:=g.ss.not_cells g.head
 have e3:=g.bs.not_cells g.head
 obtain ⟨n1,n2,n3⟩:=g.ne
 refine ⟨⟨v,rfl,hre.updE hids hu2⟩,⟨(u2.block h l0 (by simp;omega)).trans g.head,hm.upd hu2 (by simp;omega),g.ss.upd u2 (by simp;omega),g.bs.upd u2 (by simp;omega),hok,g.ne⟩,u2.mono (by simp)⟩
theorem chg_endS {w wc w1 w2:World} {h p s x q:Nat} {m:Md} {z:List Sp×RepP} {v:Value} (g:MdAt w h p s x m) (hok:({ m with ss:=z.1 }:Md).ok) (hu:Upd [] w wc) (hq:w.heap.size≤q) (hre:RepAt w1 v z.2) (hids:z.2.ids = [])
 (hm:MapU MKS w1 s (findK Sp.id z.1) z.1.length) (hup:Upd [s] wc w1) (hu2:Upd [q] w1 w2):ChgPost w h p s x (({ m with ss:=z.1 }:Md),z.2) (.returned v) w2:=by
 have u1:Upd [s] w w1:=(hu.mono (by simp)).trans hup
 have u2:Upd [s] w w2:=u1.trans' hu2 (fun y hy=>.inr (by simp at hy;omega))
 have l0:=lt_of_block g.head
 have l1:=g.ps.lt
 have l2:=g.ss.lt
 have l3:=g.bs.lt
 have e1:=g.ps.not_cells g.head
 have e2:=g.ss.not_cells g.head
 have e3:=g.bs.not_cells g.head
 obtain ⟨n1,n2,n3⟩:=g.ne
 refine ⟨⟨v,rfl,hre.updE hids hu2⟩,⟨(u2.block h l0 (by simp;omega)).trans g.head,g.ps.upd u2 (by simp;omega),hm.upd hu2 (by simp;omega),g.bs.upd u2 (by simp;omega),hok,g.ne⟩,u2.mono (by simp)⟩
theorem chg_endB {w wc w1 w2:World} {h p s x q:Nat} {m:Md} {z:List Bx×RepP} {v:Value} (g:MdAt w h p s x m) (hok:({ m with bs:=z.1 }:Md).ok) (hu:Upd [] w wc) (hq:w.heap.size≤q) (hre:RepAt w1 v z.2) (hids:z.2.ids = [])
 (hm:MapU MKB w1 x (findK Bx.id z.1) z.1.length) (hup:Upd [x] wc w1) (hu2:Upd [q] w1 w2):ChgPost w h p s x (({ m with bs:=z.1 }:Md),z.2) (.returned v) w2:=by
 have u1:Upd [x] w w1:=(hu.mono (by simp)).trans hup
 have u2:Upd [x] w w2:=u1.trans' hu2 (fun y hy=>.inr (by simp at hy;omega))
 have l0:=lt_of_block g.head
 have l1:=g.ps.lt
 have l2:=g.ss.lt
 have l3:=g.bs.lt
 have e1:=g.ps.not_cells g.head
 have e2:=g.ss.not_cells g.head
 have e3:=g.bs.not_cells g.head
 obtain ⟨n1,n2,n3⟩:=g.ne
 refine ⟨⟨v,rfl,hre.updE hids hu2⟩,⟨(u2.block h l0 (by simp;omega)).trans g.head,g.ps.upd u2 (by simp;omega),g.ss.upd u2 (by simp;omega),hm.upd hu2 (by simp;omega),hok,g.ne⟩,u2.mono (by simp)⟩
theorem changeC {w:World} {h p s x:Nat} {m:Md} (g:MdAt w h p s x m) (o:OpP) (hid:o.id<4294967296) (hp:m.ps.length<1000000) (hs:m.ss.length<1000000) (hb:m.bs.length<1000000) (ho:1≤o.code∧o.code≤6) :
 Calls Tryz.prog 33 #[.pointer (some ⟨h,0,none⟩),opV o] w (ChgPost w h p s x (changeM m o)):=by
 have HG:=Lib.hid (And.intro g (And.intro hid (And.intro hp (And.intro hs (And.intro hb ho)))))
 clear g hid hp hs hb ho
 obtain ⟨r,hr⟩:∃r,changeM m o=r:=⟨_,rfl⟩
 rw [hr]
 have HR:=Lib.hid hr
 clear hr
 obtain ⟨oc,oa,ob,occ,od,oi⟩:=o
 unfold opV
 dsimp only
 have hu:Upd [] w ((w.alloc (.cells #[.int .u8 (oc:Int),.int .i64 oa,.int .i64 ob,.int .i64 occ,.int .i64 od,.int .u32 (oi:Int)] 43)).alloc (.cells repZ 39)):=((Upd.refl _ _).alloc _).alloc _
 have hc3:CelB ((w.alloc (.cells #[.int .u8 (oc:Int),.int .i64 oa,.int .i64 ob,.int .i64 occ,.int .i64 od,.int .u32 (oi:Int)] 43)).alloc (.cells repZ 39)) w.heap.size (opL ⟨oc,oa,ob,occ,od,oi⟩):=(CelB.of_heap (heap_alloc_new w (.cells #[.int .u8 (oc:Int),.int .i64 oa,.int .i64 ob,.int .i64 occ,.int .i64 od,.int .u32 (oi:Int)] 43))).upd0 ((Upd.refl [] _).alloc _)
 have hc4:RpAt ((w.alloc (.cells #[.int .u8 (oc:Int),.int .i64 oa,.int .i64 ob,.int .i64 occ,.int .i64 od,.int .u32 (oi:Int)] 43)).alloc (.cells repZ 39)) (w.heap.size+1) repZ:=by
  have:=heap_alloc_new (w.alloc (.cells #[.int .u8 (oc:Int),.int .i64 oa,.int .i64 ob,.int .i64 occ,.int .i64 od,.int .u32 (oi:Int)] 43)) (.cells repZ 39)
  unfold RpAt
  simpa using this
 have HC:=Lib.hid (And.intro hc3 (And.intro hc4 hu))
 clear hu hc3 hc4
 go_enter Tryz.func33,Tryz.ntmps33
 go_upto_region 1 with fail
 generalize ((w.alloc (.cells #[.int .u8 (oc:Int),.int .i64 oa,.int .i64 ob,.int .i64 occ,.int .i64 od,.int .u32 (oi:Int)] 43)).alloc (.cells repZ 39))=W at HC ⊢
 go_cut [5,6] (fun s5 s6 wc=>∃p5 p6,s5=.pointer (some ⟨p5,0,none⟩)∧s6=.pointer (some ⟨p6,0,none⟩)∧SbAt wc p5 p6 ⟨oc,oa,ob,occ,od,oi⟩∧Upd [] W wc)
 case first=>
  refine GoT.start [] (fun w'=>CelB w' w.heap.size (opL ⟨oc,oa,ob,occ,od,oi⟩)) (by kernel_rfl) ?_ fun hS=>?_
  ·exact HC.out.1.upd0 (Upd.refl [] _).drew
  refine' GoT.mv (i:=0) (oi:=⟨some 7,_,_,_,_,_⟩) rfl (by rfl) ?y1_0 ?_
  case y1_0=>intro w;go_simp<;>with_reducible rfl
  simp only [Act.put,sA,sZ,sS]
  refine' GoT.tk 1 (i:=1) (oi:=⟨some 8,_,_,_,_,_⟩) rfl (by rfl) ?y1_1 ?_
  case y1_1=>intro w hSw;have s1:=hSw 1 _ rfl;have s2:=hSw 2 _ rfl;have s3:=hSw 3 _ rfl;have s4:=hSw 4 _ rfl;have s5:=hSw 5 _ rfl;dsimp only at s1 s2 s3 s4 s5;go_simp<;>with_reducible rfl
  simp only [Act.put,sA,sZ,sS]
  refine' GoT.mv (i:=2) (oi:=⟨some 9,_,_,_,_,_⟩) rfl (by rfl) ?y1_2 ?_
  case y1_2=>intro w;go_simp<;>with_reducible rfl
  simp only [Act.put,sA,sZ,sS]
  refine' GoT.tk 1 (i:=3) (oi:=⟨some 10,_,_,_,_,_⟩) rfl (by rfl) ?y1_3 ?_
  case y1_3=>intro w hSw;have s1:=hSw 1 _ rfl;have s2:=hSw 2 _ rfl;have s3:=hSw 3 _ rfl;have s4:=hSw 4 _ rfl;have s5:=hSw 5 _ rfl;dsimp only at s1 s2 s3 s4 s5;go_simp<;>with_reducible rfl
  simp only [Act.put,sA,sZ,sS]
  refine' GoT.mv (i:=4) (oi:=⟨some 11,_,_,_,_,_⟩) rfl (by rfl) ?y1_4 ?_
  case y1_4=>intro w;go_simp<;>with_reducible rfl
  simp only [Act.put,sA,sZ,sS]
  refine' GoT.tk 1 (i:=5) (oi:=⟨some 12,_,_,_,_,_⟩) rfl (by rfl) ?y1_5 ?_
  case y1_5=>intro w hSw;have s1:=hSw 1 _ rfl;have s2:=hSw 2 _ rfl;have s3:=hSw 3 _ rfl;have s4:=hSw 4 _ rfl;have s5:=hSw 5 _ rfl;dsimp only at s1 s2 s3 s4 s5;go_simp<;>with_reducible rfl
  simp only [Act.put,sA,sZ,sS]
  refine' GoT.mv (i:=6) (oi:=⟨some 13,_,_,_,_,_⟩) rfl (by rfl) ?y1_6 ?_
  case y1_6=>intro w;go_simp<;>with_reducible rfl
  simp only [Act.put,sA,sZ,sS]
  refine' GoT.mv (i:=7) (oi:=⟨some 14,_,_,_,_,_⟩) rfl (by rfl) ?y1_7 ?_
  case y1_7=>intro w;go_simp<;>with_reducible rfl
  simp only [Act.put,sA,sZ,sS]
  refine' GoT.tk 1 (i:=8) (oi:=⟨some 15,_,_,_,_,_⟩) rfl (by rfl) ?y1_8 ?_
  case y1_8=>intro w hSw;have s1:=hSw 1 _ rfl;have s2:=hSw 2 _ rfl;have s3:=hSw 3 _ rfl;have s4:=hSw 4 _ rfl;have s5:=hSw 5 _ rfl;dsimp only at s1 s2 s3 s4 s5;go_simp<;>with_reducible rfl
  simp only [Act.put,sA,sZ,sS]
  refine' GoT.mv (i:=9) (oi:=⟨some 16,_,_,_,_,_⟩) rfl (by rfl) ?y1_9 ?_
  case y1_9=>intro w;go_simp<;>with_reducible rfl
  simp only [Act.put,sA,sZ,sS]
  refine' GoT.tk 1 (i:=10) (oi:=⟨some 17,_,_,_,_,_⟩) rfl (by rfl) ?y1_10 ?_
  case y1_10=>intro w hSw;have s1:=hSw 1 _ rfl;have s2:=hSw 2 _ rfl;have s3:=hSw 3 _ rfl;have s4:=hSw 4 _ rfl;have s5:=hSw 5 _ rfl;dsimp only at s1 s2 s3 s4 s5;go_simp<;>with_reducible rfl
  simp only [Act.put,sA,sZ,sS]
  refine' GoT.mv (i:=11) (oi:=⟨some 18,_,_,_,_,_⟩) rfl (by rfl) ?y1_11 ?_
  case y1_11=>intro w;go_simp<;>with_reducible rfl
  simp only [Act.put,sA,sZ,sS]
  refine' GoT.tk 1 (i:=12) (oi:=⟨some 19,_,_,_,_,_⟩) rfl (by rfl) ?y1_12 ?_
  case y1_12=>intro w hSw;have s1:=hSw 1 _ rfl;have s2:=hSw 2 _ rfl;have s3:=hSw 3 _ rfl;have s4:=hSw 4 _ rfl;have s5:=hSw 5 _ rfl;dsimp only at s1 s2 s3 s4 s5;go_simp<;>with_reducible rfl
  simp only [Act.put,sA,sZ,sS]
  refine' GoT.mv (i:=13) (oi:=⟨some 20,_,_,_,_,_⟩) rfl (by rfl) ?y1_13 ?_
  case y1_13=>intro w;go_simp<;>with_reducible rfl
  simp only [Act.put,sA,sZ,sS]
  refine' GoT.tk 1 (i:=14) (oi:=⟨some 21,_,_,_,_,_⟩) rfl (by rfl) ?y1_14 ?_
  case y1_14=>intro w hSw;have s1:=hSw 1 _ rfl;have s2:=hSw 2 _ rfl;have s3:=hSw 3 _ rfl;have s4:=hSw 4 _ rfl;have s5:=hSw 5 _ rfl;dsimp only at s1 s2 s3 s4 s5;go_simp<;>with_reducible rfl
  simp only [Act.put,sA,sZ,sS]
  refine' GoT.mv (i:=15) (oi:=⟨some 22,_,_,_,_,_⟩) rfl (by rfl) ?y1_15 ?_
  case y1_15=>intro w;go_simp<;>with_reducible rfl
  simp only [Act.put,sA,sZ,sS]
  refine' GoT.tk 1 (i:=16) (oi:=⟨some 23,_,_,_,_,_⟩) rfl (by rfl) ?y1_16 ?_
  case y1_16=>intro w hSw;have s1:=hSw 1 _ rfl;have s2:=hSw 2 _ rfl;have s3:=hSw 3 _ rfl;have s4:=hSw 4 _ rfl;have s5:=hSw 5 _ rfl;dsimp only at s1 s2 s3 s4 s5;go_simp<;>with_reducible rfl
  simp only [Act.put,sA,sZ,sS]
  refine' GoT.mv (i:=17) (oi:=⟨some 24,_,_,_,_,_⟩) rfl (by rfl) ?y1_17 ?_
  case y1_17=>intro w;go_simp<;>with_reducible rfl
  simp only [Act.put,sA,sZ,sS]
  refine GoT.rely [(18,5),(19,6)] 2 (Upd []) (fun i x w'=>(i=18→PtrTo #[.int .i64 0,.int .i64 0,.int .u32 0] 54 x w')∧(i=19→PtrTo #[.int .i64 0,.int .i64 0,.int .i64 0,.int .i64 0,.int .u32 0] 59 x w')) [18,19] (L1:=#[true,true,true,true,true,true,true,true,true,true,true,true,true,true,true,true,true,true,true,true,false,false]) (m:=2)
   (by kernel_rfl) (by decide) (by decide) (by kernel_rfl) (by kernel_rfl) (by kernel_rfl) (by kernel_rfl) (by kernel_rfl) (by kernel_rfl) (by kernel_rfl) (by decide)
   (Upd.refl []) (fun _ _ _ h k=>h.trans k) (fun _ _ h=>h.size) (fun _ _ h k=>k.upd0 h) (fun _ _ _ _ h k=>⟨fun e=>(h.1 e).upd0 k,fun e=>(h.2 e).upd0 k⟩) ?_ ?_
  ·intro e he D v w' hR hD hdep
   clear hR hdep
   simp only [List.mem_cons,List.not_mem_nil,or_false] at he
   rcases he with rfl | rfl
   ·refine wpOp_hid (o:=⟨some 5,_,_,_,_,_⟩) rfl fun K hK=>?_
    simp only [fills,putIf,Array.getD_eq_getD_getElem?,List.setIfInBounds_toArray,List.set_cons_zero,List.set_cons_succ,List.getElem?_toArray,List.getElem?_cons_zero,List.getElem?_cons_succ,Option.getD_some]
    go_simp
    refine hK.out _ _ ⟨.pointer (some ⟨w'.heap.size,0,none⟩),by simp [fills,putIf,Act.put],(Upd.refl _ _).alloc _,⟨fun _=>PtrTo.new _ _ _,fun h=>(by cases h)⟩,fun _ k hk=>?_⟩
    simp [blk] at hk
    subst hk
    simp
   ·refine wpOp_hid (o:=⟨some 6,_,_,_,_,_⟩) rfl fun K hK=>?_
    simp only [fills,putIf,Array.getD_eq_getD_getElem?,List.setIfInBounds_toArray,List.set_cons_zero,List.set_cons_succ,List.getElem?_toArray,List.getElem?_cons_zero,List.getElem?_cons_succ,Option.getD_some]
    go_simp
    refine hK.out _ _ ⟨.pointer (some ⟨w'.heap.size,0,none⟩),by simp [fills,putIf,Act.put],(Upd.refl _ _).alloc _,⟨fun h=>(by cases h),fun _=>PtrTo.new _ _ _⟩,fun _ k hk=>?_⟩
    simp [blk] at hk
    subst hk
    simp
  intro v w' hR
  obtain ⟨p5,e5,h5⟩:=(hR.said (18,5) (by simp) rfl).1 rfl
  obtain ⟨p6,e6,h6⟩:=(hR.said (19,6) (by simp) rfl).2 rfl
  have n5:=(hR.news 18 (by simp) rfl p5 (by rw [e5];simp [blk])).1
  have n6:=(hR.news 19 (by simp) rfl p6 (by rw [e6];simp [blk])).1
  have ne:=hR.far 18 (by simp) 19 (by simp) (by decide) rfl rfl p5 (by rw [e5];simp [blk])
  rw [e6] at ne
  simp only [blk,List.mem_singleton] at ne
  have hua:Upd [] W w':=((Upd.refl [] W).drew).trans hR.up
  simp only [fills,putIf,cond_true,e5,e6,List.setIfInBounds_toArray,List.set_cons_zero,List.set_cons_succ]
  clear hR e5 e6 hS
  have hWs:=lt_of_block HC.out.2.1
  have n5':W.heap.size≤p5:=n5
  have n6':W.heap.size≤p6:=n6
  clear n5 n6
  have HB:=Lib.hid (And.intro n5' (And.intro n6' (And.intro hWs ne)))
  clear n5' n6' hWs ne
  refine GoT.one (i:=20) (o:=⟨none,_,_,_,_,_⟩) rfl (by kernel_rfl) fun K hK=>?_
  obtain ⟨f0,f1,f2⟩:_∧_∧_:=⟨h5.frozen 0,h5.frozen 1,h5.frozen 2⟩
  have c0:=h5.cell 0
  have c1:=h5.cell 1
  have c2:=h5.cell 2
  simp only [List.getElem?_toArray,List.getElem?_cons_zero,List.getElem?_cons_succ] at c0 c1 c2
  have h7:=h5.put3 (.int .i64 oa) (.int .i64 ob) (.int .u32 (oi:Int))
  have HS:=Lib.hid (And.intro h7 (And.intro h6 hua))
  clear h5 h6 h7 hua
  go_simp
  refine hK.out _ _ (fun _ h=>h.upd HS.out.1.2 (by have:=HB.out;simp only [List.mem_singleton];omega)) ?_
  clear hK K c0 c1 c2 f0 f1 f2
  simp only [List.setIfInBounds_toArray,List.set_cons_zero,List.set_cons_succ]
  obtain ⟨⟨h5,hup⟩,h6,hua⟩:=HS.out
  have h6:=h6.upd hup (by have:=HB.out;simp only [List.mem_singleton];omega)
  have hub:=hua.trans' hup (fun k hk=>.inr (by have:=HB.out;simp only [List.mem_singleton] at hk;omega))
  clear HS hup hua
  generalize (((w'.setCell ⟨p5,0,none⟩ (.int .i64 oa)).setCell ⟨p5,1,none⟩ (.int .i64 ob)).setCell ⟨p5,2,none⟩ (.int .u32 (oi:Int)))=Wd at h5 h6 hub ⊢
  refine GoT.one (i:=21) (o:=⟨none,_,_,_,_,_⟩) rfl (by kernel_rfl) fun K hK=>?_
  obtain ⟨f0,f1,f2,f3,f4⟩:_∧_∧_∧_∧_:=⟨h6.frozen 0,h6.frozen 1,h6.frozen 2,h6.frozen 3,h6.frozen 4⟩
  have c0:=h6.cell 0
  have c1:=h6.cell 1
  have c2:=h6.cell 2
  have c3:=h6.cell 3
  have c4:=h6.cell 4
  simp only [List.getElem?_toArray,List.getElem?_cons_zero,List.getElem?_cons_succ] at c0 c1 c2 c3 c4
  have h7:=h6.put5 (.int .i64 oa) (.int .i64 ob) (.int .i64 occ) (.int .i64 od) (.int .u32 (oi:Int))
  have HS:=Lib.hid (And.intro h7 (And.intro h5 hub))
  clear h5 h6 h7 hub
  go_simp
  refine hK.out _ _ (fun _ h=>h.upd HS.out.1.2 (by have:=HB.out;simp only [List.mem_singleton];omega)) ?_
  clear hK K c0 c1 c2 c3 c4 f0 f1 f2 f3 f4
  simp only [List.setIfInBounds_toArray,List.set_cons_zero,List.set_cons_succ]
  refine GoT.done (by kernel_rfl) ?_
  obtain ⟨⟨h6,hup⟩,h5,hub⟩:=HS.out
  have h5:=h5.upd hup (by have:=HB.out;simp only [List.mem_singleton];omega)
  have huc:=hub.trans' hup (fun k hk=>.inr (by have:=HB.out;simp only [List.mem_singleton] at hk;omega))
  have HF:=Lib.hid (And.intro (CelB.of_hp h5) (And.intro (CelB.of_hp h6) huc))
  clear HS hup hub h5 h6 huc
  generalize (((((Wd.setCell ⟨p6,0,none⟩ (.int .i64 oa)).setCell ⟨p6,1,none⟩ (.int .i64 ob)).setCell ⟨p6,2,none⟩ (.int .i64 occ)).setCell ⟨p6,3,none⟩ (.int .i64 od)).setCell ⟨p6,4,none⟩ (.int .u32 (oi:Int)))=We at HF ⊢
  go_wp2_with fail
  go_meet
  case rel=>exact ⟨p5,p6,rfl,rfl,⟨HF.out.1,HF.out.2.1⟩,HF.out.2.2⟩
 obtain ⟨p5,p6,rfl,rfl,hsb,huc⟩:=hcut
 have HUW0:=Lib.hid (HC.out.2.2.trans huc)
 have HX0:=Lib.hid (ChgF.mk (HC.out.1.upd0 huc) (RpAt.upd HC.out.2.1 huc (by simp)) hsb (HG.out.1.upd0 HUW0.out))
 clear hsb huc
 obtain ⟨c,hc⟩:∃c:Int,(oc:Int)=c:=⟨_,rfl⟩
 have hk:c=1∨c=2∨c=3∨c=4∨c=5∨c=6:=by have:=HG.out.2.2.2.2.2;dsimp only at this;omega
 have HCC:=Lib.hid hc
 clear hc
 obtain ⟨hop,hrp,hsb,hmd⟩:=HX0.out
 have o0:=hop 0 _ rfl
 have o1:=hop 1 _ rfl
 have o2:=hop 2 _ rfl
 have o3:=hop 3 _ rfl
 have o4:=hop 4 _ rfl
 have o5:=hop 5 _ rfl
 dsimp only at o0 o1 o2 o3 o4 o5
 rw [HCC.out] at o0
 obtain ⟨m0,m1,m2,m3⟩:=hmd.cells
 have a0:=hsb.1 0 _ rfl
 have a1:=hsb.1 1 _ rfl
 have a2:=hsb.1 2 _ rfl
 have b0:=hsb.2 0 _ rfl
 have b1:=hsb.2 1 _ rfl
 have b2:=hsb.2 2 _ rfl
 have b3:=hsb.2 3 _ rfl
 have b4:=hsb.2 4 _ rfl
 dsimp only at a0 a1 a2 b0 b1 b2 b3 b4
 clear hop hrp hsb hmd
 rcases hk with rfl | rfl | rfl | rfl | rfl | rfl
 ·obtain ⟨z,hz⟩:∃z,comeM Pt.id m.room m.ps ⟨oa,ob,oi⟩=z:=⟨_,rfl⟩
  have hids:=come_ids Pt.id m.room m.ps ⟨oa,ob,oi⟩
  have HM:=Lib.hid (And.intro HX0.out.md.ps HX0.out.md.ok.ps)
  have hcall:=fun (w9:World) (hd:Upd [] wc w9)=>comePC p m.room m.ps oa ob oi _ (HM.out.1.upd hd (by simp)) HM.out.2 HG.out.2.2.1 HG.out.2.1
  have hok:=change_ok HG.out.1.ok (o:=⟨oc,oa,ob,occ,od,oi⟩) HG.out.2.1 HG.out.2.2.2.2.2
  rw [hz] at hids
  simp only [hz] at hcall
  have hr:=HR.out
  unfold changeM at hr hok
  dsimp only [OpP.pt,OpP.sp,OpP.bx] at hr hok
  have hoc:oc=1:=by have:=HCC.out;omega
  subst hoc
  simp only [hz,if_true,if_false,Nat.reduceEqDiff] at hr hok
  have HRO:=Lib.hid (And.intro hr (And.intro hok hids))
  have HCALL:=Lib.hid hcall
  clear hr hok hids hcall hz
  go_upto_region 4 with fail
  go_still_tail 17,(by kernel_rfl)
  change wpList _ _ _ _ _ (wc).drew
  clear o0 o1 o2 o3 o4 o5 m0 m1 m2 m3 a0 a1 a2 b0 b1 b2 b3 b4
  go_wp2_with fail
  (with_reducible refine (HCALL.out _ (Upd.refl [] _).drew).mono ?_)
  rintro e w8 ⟨⟨v,rfl,hre⟩,hmp,hup⟩
  have HV:=Lib.hid (And.intro hre (And.intro hmp hup))
  clear hre hmp hup
  obtain ⟨Av,Cv,hv,lv,hve,hrest⟩:=HV.out.1
  clear hrest
  unfold repV at hve
  subst hve
  have hqb:w.heap.size+1≠p:=(by have:=HX0.out.md.ps.lt;have:=lt_of_block HC.out.2.1;have h9:=HG.out.1.ps.lt;omega)
  have hrp:=RpAt.upd HX0.out.rp ((((Upd.refl [] wc).drew).mono (by simp)).trans HV.out.2.2) (by simpa using hqb)
  clear hqb
  have f0:=hrp.frozen 0
  have f1:=hrp.frozen 1
  have f2:=hrp.frozen 2
  have f3:=hrp.frozen 3
  have f4:=hrp.frozen 4
  have f5:=hrp.frozen 5
  have c0:(w8).cell? ⟨w.heap.size+1,0,none⟩=some (.int .i64 0):=hrp.cell 0
  have c1:(w8).cell? ⟨w.heap.size+1,1,none⟩=some (.slice none 0 0):=hrp.cell 1
  have c2:(w8).cell? ⟨w.heap.size+1,2,none⟩=some (.int .i64 0):=hrp.cell 2
  have c3:(w8).cell? ⟨w.heap.size+1,3,none⟩=some (.bool false):=hrp.cell 3
  have c4:(w8).cell? ⟨w.heap.size+1,4,none⟩=some (.int .u64 0):=hrp.cell 4
  have c5:(w8).cell? ⟨w.heap.size+1,5,none⟩=some (.int .u64 0):=hrp.cell 5
  have HP:=Lib.hid (And.intro (hrp.put (.int .i64 (z.2.err:Int)) (.slice Av z.2.ids.length Cv) (.int .i64 (z.2.cnt:Int)) (.bool z.2.yes) (.int .u64 (hv:Int)) (.int .u64 (lv:Int))) (upd_put (q:=w.heap.size+1) (Upd.refl [w.heap.size+1] (w8)) (.inl (by simp)) (.int .i64 (z.2.err:Int)) (.slice Av z.2.ids.length Cv) (.int .i64 (z.2.cnt:Int)) (.bool z.2.yes) (.int .u64 (hv:Int)) (.int .u64 (lv:Int))))
  clear hrp
  go_wp2_with fail
  have y0:=HP.out.1.cell 0
  have y1:=HP.out.1.cell 1
  have y2:=HP.out.1.cell 2
  have y3:=HP.out.1.cell 3
  have y4:=HP.out.1.cell 4
  have y5:=HP.out.1.cell 5
  simp only [List.getElem?_toArray,List.getElem?_cons_zero,List.getElem?_cons_succ] at y0 y1 y2 y3 y4 y5
  refine bodyPost_ret (v:=repV z.2.err z.2.cnt z.2.yes (.slice Av z.2.ids.length Cv) hv lv) ?_ rfl ?_
  ·simp [repV,results,Tryz.results33,go_sem,y0,y1,y2,y3,y4,y5]
  ·rw [←HRO.out.1]
   exact chg_endP HG.out.1 HRO.out.2.1 (HUW0.out.drew) (by omega) HV.out.1 HRO.out.2.2 HV.out.2.1 HV.out.2.2 HP.out.2
 ·have hri:=fun w9=>rightSpanC oa ob (oi:Int) w9
  obtain ⟨d,hd⟩:∃d,(decide (oa≤ob))=d:=⟨_,rfl⟩
  simp only [hd] at hri
  cases d with
  |false=>
   have hn:¬(oa≤ob):=fun hc=>by simp [hc] at hd
   have HRI:=Lib.hid hri
   clear hri hd
   have hr:=HR.out
   unfold changeM at hr
   dsimp only at hr
   have hoc:oc=2:=by have:=HCC.out;omega
   subst hoc
   simp only [hn,if_true,if_false,Nat.reduceEqDiff] at hr
   have HRO:=Lib.hid hr
   clear hr hn
   go_upto_region 7 with (go_at_call 64;refine (HRI.out _).mono ?_;rintro e w7 ⟨rfl,hu7⟩;have HU7:=Lib.hid hu7;clear hu7)
   have HUW1:=Lib.hid (HUW0.out.trans HU7.out)
   have HX1:=Lib.hid (HX0.out.upd0 HU7.out)
   clear o0 o1 o2 o3 o4 o5 m0 m1 m2 m3 a0 a1 a2 b0 b1 b2 b3 b4
   have hrp:=HX1.out.rp
   have f0:=hrp.frozen 0
   have f1:=hrp.frozen 1
   have f2:=hrp.frozen 2
   have f3:=hrp.frozen 3
   have f4:=hrp.frozen 4
   have f5:=hrp.frozen 5
   have c0:(w7).cell? ⟨w.heap.size+1,0,none⟩=some (.int .i64 0):=hrp.cell 0
   have c1:(w7).cell? ⟨w.heap.size+1,1,none⟩=some (.slice none 0 0):=hrp.cell 1
   have c2:(w7).cell? ⟨w.heap.size+1,2,none⟩=some (.int .i64 0):=hrp.cell 2
   have c3:(w7).cell? ⟨w.heap.size+1,3,none⟩=some (.bool false):=hrp.cell 3
   have c4:(w7).cell? ⟨w.heap.size+1,4,none⟩=some (.int .u64 0):=hrp.cell 4
   have c5:(w7).cell? ⟨w.heap.size+1,5,none⟩=some (.int .u64 0):=hrp.cell 5
   have HP:=Lib.hid (And.intro (hrp.put (.int .i64 261) (.slice none 0 0) (.int .i64 0) (.bool false) (.int .u64 0) (.int .u64 0)) (upd_put (q:=w.heap.size+1) (Upd.refl [w.heap.size+1] (w7)) (.inl (by simp)) (.int .i64 261) (.slice none 0 0) (.int .i64 0) (.bool false) (.int .u64 0) (.int .u64 0)))
   clear hrp
   go_wp2_with fail
   have y0:=HP.out.1.cell 0
   have y1:=HP.out.1.cell 1
   have y2:=HP.out.1.cell 2
   have y3:=HP.out.1.cell 3
   have y4:=HP.out.1.cell 4
   have y5:=HP.out.1.cell 5
   simp only [List.getElem?_toArray,List.getElem?_cons_zero,List.getElem?_cons_succ] at y0 y1 y2 y3 y4 y5
   refine bodyPost_ret (v:=repV 261 0 false (.slice none 0 0) 0 0) ?_ rfl ?_
   ·simp [repV,results,Tryz.results33,go_sem,y0,y1,y2,y3,y4,y5]
   ·rw [←HRO.out]
    exact chg_err HG.out.1 HUW1.out (by omega) (repAt_err _ 261) rfl HP.out.2
  |true=>
   have hy:oa≤ob:=by simpa using hd
   have HRI:=Lib.hid hri
   clear hri hd
   go_upto_region 8 with (go_at_call 64;refine (HRI.out _).mono ?_;rintro e w7 ⟨rfl,hu7⟩;have HU7:=Lib.hid hu7;clear hu7)
   have HUW1:=Lib.hid (HUW0.out.trans HU7.out)
   have HX1:=Lib.hid (HX0.out.upd0 HU7.out)
   clear o0 o1 o2 o3 o4 o5 m0 m1 m2 m3 a0 a1 a2 b0 b1 b2 b3 b4
   obtain ⟨hop,hrp,hsb,hmd⟩:=HX1.out
   have o0:=hop 0 _ rfl
   have o1:=hop 1 _ rfl
   have o2:=hop 2 _ rfl
   have o3:=hop 3 _ rfl
   have o4:=hop 4 _ rfl
   have o5:=hop 5 _ rfl
   dsimp only at o0 o1 o2 o3 o4 o5
   rw [HCC.out] at o0
   obtain ⟨m0,m1,m2,m3⟩:=hmd.cells
   have a0:=hsb.1 0 _ rfl
   have a1:=hsb.1 1 _ rfl
   have a2:=hsb.1 2 _ rfl
   have b0:=hsb.2 0 _ rfl
   have b1:=hsb.2 1 _ rfl
   have b2:=hsb.2 2 _ rfl
   have b3:=hsb.2 3 _ rfl
   have b4:=hsb.2 4 _ rfl
   dsimp only at a0 a1 a2 b0 b1 b2 b3 b4
   clear hop hrp hsb hmd
   obtain ⟨z,hz⟩:∃z,comeM Sp.id m.room m.ss ⟨oa,ob,oi⟩=z:=⟨_,rfl⟩
   have hids:=come_ids Sp.id m.room m.ss ⟨oa,ob,oi⟩
   have HM:=Lib.hid (And.intro HX1.out.md.ss HX1.out.md.ok.ss)
   have hcall:=fun (w9:World) (hd:Upd [] w7 w9)=>comeSC s m.room m.ss oa ob oi _ (HM.out.1.upd hd (by simp)) HM.out.2 HG.out.2.2.2.1 HG.out.2.1
   have hok:=change_ok HG.out.1.ok (o:=⟨oc,oa,ob,occ,od,oi⟩) HG.out.2.1 HG.out.2.2.2.2.2
   rw [hz] at hids
   simp only [hz] at hcall
   have hr:=HR.out
   unfold changeM at hr hok
   dsimp only [OpP.pt,OpP.sp,OpP.bx] at hr hok
   have hoc:oc=2:=by have:=HCC.out;omega
   subst hoc
   simp only [hz,hy,if_true,if_false,Nat.reduceEqDiff] at hr hok
   have HRO:=Lib.hid (And.intro hr (And.intro hok hids))
   have HCALL:=Lib.hid hcall
   clear hr hok hids hcall hz
   go_still_tail 11,(by kernel_rfl)
   change wpList _ _ _ _ _ (w7).drew
   clear o0 o1 o2 o3 o4 o5 m0 m1 m2 m3 a0 a1 a2 b0 b1 b2 b3 b4
   go_wp2_with fail
   (with_reducible refine (HCALL.out _ (Upd.refl [] _).drew).mono ?_)
   rintro e w8 ⟨⟨v,rfl,hre⟩,hmp,hup⟩
   have HV:=Lib.hid (And.intro hre (And.intro hmp hup))
   clear hre hmp hup
   obtain ⟨Av,Cv,hv,lv,hve,hrest⟩:=HV.out.1
   clear hrest
   unfold repV at hve
   subst hve
   have hqb:w.heap.size+1≠s:=(by have:=HX1.out.md.ss.lt;have:=lt_of_block HC.out.2.1;have h9:=HG.out.1.ss.lt;omega)
   have hrp:=RpAt.upd HX1.out.rp ((((Upd.refl [] w7).drew).mono (by simp)).trans HV.out.2.2) (by simpa using hqb)
   clear hqb
   have f0:=hrp.frozen 0
   have f1:=hrp.frozen 1
   have f2:=hrp.frozen 2
   have f3:=hrp.frozen 3
   have f4:=hrp.frozen 4
   have f5:=hrp.frozen 5
   have c0:(w8).cell? ⟨w.heap.size+1,0,none⟩=some (.int .i64 0):=hrp.cell 0
   have c1:(w8).cell? ⟨w.heap.size+1,1,none⟩=some (.slice none 0 0):=hrp.cell 1
   have c2:(w8).cell? ⟨w.heap.size+1,2,none⟩=some (.int .i64 0):=hrp.cell 2
   have c3:(w8).cell? ⟨w.heap.size+1,3,none⟩=some (.bool false):=hrp.cell 3
   have c4:(w8).cell? ⟨w.heap.size+1,4,none⟩=some (.int .u64 0):=hrp.cell 4
   have c5:(w8).cell? ⟨w.heap.size+1,5,none⟩=some (.int .u64 0):=hrp.cell 5
   have HP:=Lib.hid (And.intro (hrp.put (.int .i64 (z.2.err:Int)) (.slice Av z.2.ids.length Cv) (.int .i64 (z.2.cnt:Int)) (.bool z.2.yes) (.int .u64 (hv:Int)) (.int .u64 (lv:Int))) (upd_put (q:=w.heap.size+1) (Upd.refl [w.heap.size+1] (w8)) (.inl (by simp)) (.int .i64 (z.2.err:Int)) (.slice Av z.2.ids.length Cv) (.int .i64 (z.2.cnt:Int)) (.bool z.2.yes) (.int .u64 (hv:Int)) (.int .u64 (lv:Int))))
   clear hrp
   go_wp2_with fail
   have y0:=HP.out.1.cell 0
   have y1:=HP.out.1.cell 1
   have y2:=HP.out.1.cell 2
   have y3:=HP.out.1.cell 3
   have y4:=HP.out.1.cell 4
   have y5:=HP.out.1.cell 5
   simp only [List.getElem?_toArray,List.getElem?_cons_zero,List.getElem?_cons_succ] at y0 y1 y2 y3 y4 y5
   refine bodyPost_ret (v:=repV z.2.err z.2.cnt z.2.yes (.slice Av z.2.ids.length Cv) hv lv) ?_ rfl ?_
   ·simp [repV,results,Tryz.results33,go_sem,y0,y1,y2,y3,y4,y5]
   ·rw [←HRO.out.1]
    exact chg_endS HG.out.1 HRO.out.2.1 (HUW1.out.drew) (by omega) HV.out.1 HRO.out.2.2 HV.out.2.1 HV.out.2.2 HP.out.2
 ·have hri:=fun w9=>rightBoxC oa ob occ od (oi:Int) w9
  obtain ⟨d,hd⟩:∃d,(decide (oa≤ob)&&decide (occ≤od))=d:=⟨_,rfl⟩
  simp only [hd] at hri
  cases d with
  |false=>
   have hn:¬(oa≤ob∧occ≤od):=fun hc=>by simp [hc] at hd
   have HRI:=Lib.hid hri
   clear hri hd
   have hr:=HR.out
   unfold changeM at hr
   dsimp only at hr
   have hoc:oc=3:=by have:=HCC.out;omega
   subst hoc
   simp only [hn,if_true,if_false,Nat.reduceEqDiff] at hr
   have HRO:=Lib.hid hr
   clear hr hn
   go_upto_region 11 with (go_at_call 66;refine (HRI.out _).mono ?_;rintro e w7 ⟨rfl,hu7⟩;have HU7:=Lib.hid hu7;clear hu7)
   have HUW1:=Lib.hid (HUW0.out.trans HU7.out)
   have HX1:=Lib.hid (HX0.out.upd0 HU7.out)
   clear o0 o1 o2 o3 o4 o5 m0 m1 m2 m3 a0 a1 a2 b0 b1 b2 b3 b4
   have hrp:=HX1.out.rp
   have f0:=hrp.frozen 0
   have f1:=hrp.frozen 1
   have f2:=hrp.frozen 2
   have f3:=hrp.frozen 3
   have f4:=hrp.frozen 4
   have f5:=hrp.frozen 5
   have c0:(w7).cell? ⟨w.heap.size+1,0,none⟩=some (.int .i64 0):=hrp.cell 0
   have c1:(w7).cell? ⟨w.heap.size+1,1,none⟩=some (.slice none 0 0):=hrp.cell 1
   have c2:(w7).cell? ⟨w.heap.size+1,2,none⟩=some (.int .i64 0):=hrp.cell 2
   have c3:(w7).cell? ⟨w.heap.size+1,3,none⟩=some (.bool false):=hrp.cell 3
   have c4:(w7).cell? ⟨w.heap.size+1,4,none⟩=some (.int .u64 0):=hrp.cell 4
   have c5:(w7).cell? ⟨w.heap.size+1,5,none⟩=some (.int .u64 0):=hrp.cell 5
   have HP:=Lib.hid (And.intro (hrp.put (.int .i64 261) (.slice none 0 0) (.int .i64 0) (.bool false) (.int .u64 0) (.int .u64 0)) (upd_put (q:=w.heap.size+1) (Upd.refl [w.heap.size+1] (w7)) (.inl (by simp)) (.int .i64 261) (.slice none 0 0) (.int .i64 0) (.bool false) (.int .u64 0) (.int .u64 0)))
   clear hrp
   go_wp2_with fail
   have y0:=HP.out.1.cell 0
   have y1:=HP.out.1.cell 1
   have y2:=HP.out.1.cell 2
   have y3:=HP.out.1.cell 3
   have y4:=HP.out.1.cell 4
   have y5:=HP.out.1.cell 5
   simp only [List.getElem?_toArray,List.getElem?_cons_zero,List.getElem?_cons_succ] at y0 y1 y2 y3 y4 y5
   refine bodyPost_ret (v:=repV 261 0 false (.slice none 0 0) 0 0) ?_ rfl ?_
   ·simp [repV,results,Tryz.results33,go_sem,y0,y1,y2,y3,y4,y5]
   ·rw [←HRO.out]
    exact chg_err HG.out.1 HUW1.out (by omega) (repAt_err _ 261) rfl HP.out.2
  |true=>
   have hy:oa≤ob∧occ≤od:=by simpa using hd
   have HRI:=Lib.hid hri
   clear hri hd
   go_upto_region 12 with (go_at_call 66;refine (HRI.out _).mono ?_;rintro e w7 ⟨rfl,hu7⟩;have HU7:=Lib.hid hu7;clear hu7)
   have HUW1:=Lib.hid (HUW0.out.trans HU7.out)
   have HX1:=Lib.hid (HX0.out.upd0 HU7.out)
   clear o0 o1 o2 o3 o4 o5 m0 m1 m2 m3 a0 a1 a2 b0 b1 b2 b3 b4
   obtain ⟨hop,hrp,hsb,hmd⟩:=HX1.out
   have o0:=hop 0 _ rfl
   have o1:=hop 1 _ rfl
   have o2:=hop 2 _ rfl
   have o3:=hop 3 _ rfl
   have o4:=hop 4 _ rfl
   have o5:=hop 5 _ rfl
   dsimp only at o0 o1 o2 o3 o4 o5
   rw [HCC.out] at o0
   obtain ⟨m0,m1,m2,m3⟩:=hmd.cells
   have a0:=hsb.1 0 _ rfl
   have a1:=hsb.1 1 _ rfl
   have a2:=hsb.1 2 _ rfl
   have b0:=hsb.2 0 _ rfl
   have b1:=hsb.2 1 _ rfl
   have b2:=hsb.2 2 _ rfl
   have b3:=hsb.2 3 _ rfl
   have b4:=hsb.2 4 _ rfl
   dsimp only at a0 a1 a2 b0 b1 b2 b3 b4
   clear hop hrp hsb hmd
   obtain ⟨z,hz⟩:∃z,comeM Bx.id m.room m.bs ⟨oa,ob,occ,od,oi⟩=z:=⟨_,rfl⟩
   have hids:=come_ids Bx.id m.room m.bs ⟨oa,ob,occ,od,oi⟩
   have HM:=Lib.hid (And.intro HX1.out.md.bs HX1.out.md.ok.bs)
   have hcall:=fun (w9:World) (hd:Upd [] w7 w9)=>comeBC x m.room m.bs oa ob occ od oi _ (HM.out.1.upd hd (by simp)) HM.out.2 HG.out.2.2.2.2.1 HG.out.2.1
   have hok:=change_ok HG.out.1.ok (o:=⟨oc,oa,ob,occ,od,oi⟩) HG.out.2.1 HG.out.2.2.2.2.2
   rw [hz] at hids
   simp only [hz] at hcall
   have hr:=HR.out
   unfold changeM at hr hok
   dsimp only [OpP.pt,OpP.sp,OpP.bx] at hr hok
   have hoc:oc=3:=by have:=HCC.out;omega
   subst hoc
   simp only [hz,hy,and_self,if_true,if_false,Nat.reduceEqDiff] at hr hok
   have HRO:=Lib.hid (And.intro hr (And.intro hok hids))
   have HCALL:=Lib.hid hcall
   clear hr hok hids hcall hz
   go_still_tail 11,(by kernel_rfl)
   change wpList _ _ _ _ _ (w7).drew
   clear o0 o1 o2 o3 o4 o5 m0 m1 m2 m3 a0 a1 a2 b0 b1 b2 b3 b4
   go_wp2_with fail
   (with_reducible refine (HCALL.out _ (Upd.refl [] _).drew).mono ?_)
   rintro e w8 ⟨⟨v,rfl,hre⟩,hmp,hup⟩
   have HV:=Lib.hid (And.intro hre (And.intro hmp hup))
   clear hre hmp hup
   obtain ⟨Av,Cv,hv,lv,hve,hrest⟩:=HV.out.1
   clear hrest
   unfold repV at hve
   subst hve
   have hqb:w.heap.size+1≠x:=(by have:=HX1.out.md.bs.lt;have:=lt_of_block HC.out.2.1;have h9:=HG.out.1.bs.lt;omega)
   have hrp:=RpAt.upd HX1.out.rp ((((Upd.refl [] w7).drew).mono (by simp)).trans HV.out.2.2) (by simpa using hqb)
   clear hqb
   have f0:=hrp.frozen 0
   have f1:=hrp.frozen 1
   have f2:=hrp.frozen 2
   have f3:=hrp.frozen 3
   have f4:=hrp.frozen 4
   have f5:=hrp.frozen 5
   have c0:(w8).cell? ⟨w.heap.size+1,0,none⟩=some (.int .i64 0):=hrp.cell 0
   have c1:(w8).cell? ⟨w.heap.size+1,1,none⟩=some (.slice none 0 0):=hrp.cell 1
   have c2:(w8).cell? ⟨w.heap.size+1,2,none⟩=some (.int .i64 0):=hrp.cell 2
   have c3:(w8).cell? ⟨w.heap.size+1,3,none⟩=some (.bool false):=hrp.cell 3
   have c4:(w8).cell? ⟨w.heap.size+1,4,none⟩=some (.int .u64 0):=hrp.cell 4
   have c5:(w8).cell? ⟨w.heap.size+1,5,none⟩=some (.int .u64 0):=hrp.cell 5
   have HP:=Lib.hid (And.intro (hrp.put (.int .i64 (z.2.err:Int)) (.slice Av z.2.ids.length Cv) (.int .i64 (z.2.cnt:Int)) (.bool z.2.yes) (.int .u64 (hv:Int)) (.int .u64 (lv:Int))) (upd_put (q:=w.heap.size+1) (Upd.refl [w.heap.size+1] (w8)) (.inl (by simp)) (.int .i64 (z.2.err:Int)) (.slice Av z.2.ids.length Cv) (.int .i64 (z.2.cnt:Int)) (.bool z.2.yes) (.int .u64 (hv:Int)) (.int .u64 (lv:Int))))
   clear hrp
   go_wp2_with fail
   have y0:=HP.out.1.cell 0
   have y1:=HP.out.1.cell 1
   have y2:=HP.out.1.cell 2
   have y3:=HP.out.1.cell 3
   have y4:=HP.out.1.cell 4
   have y5:=HP.out.1.cell 5
   simp only [List.getElem?_toArray,List.getElem?_cons_zero,List.getElem?_cons_succ] at y0 y1 y2 y3 y4 y5
   refine bodyPost_ret (v:=repV z.2.err z.2.cnt z.2.yes (.slice Av z.2.ids.length Cv) hv lv) ?_ rfl ?_
   ·simp [repV,results,Tryz.results33,go_sem,y0,y1,y2,y3,y4,y5]
   ·rw [←HRO.out.1]
    exact chg_endB HG.out.1 HRO.out.2.1 (HUW1.out.drew) (by omega) HV.out.1 HRO.out.2.2 HV.out.2.1 HV.out.2.2 HP.out.2
 ·obtain ⟨z,hz⟩:∃z,loseM Pt.id m.ps oi=z:=⟨_,rfl⟩
  have hids:=lose_ids Pt.id m.ps oi
  have HM:=Lib.hid (And.intro HX0.out.md.ps HX0.out.md.ok.ps)
  have hcall:=fun (w9:World) (hd:Upd [] wc w9)=>losePC p m.ps oi _ (HM.out.1.upd hd (by simp)) HM.out.2 HG.out.2.1
  have hok:=change_ok HG.out.1.ok (o:=⟨oc,oa,ob,occ,od,oi⟩) HG.out.2.1 HG.out.2.2.2.2.2
  rw [hz] at hids
  simp only [hz] at hcall
  have hr:=HR.out
  unfold changeM at hr hok
  dsimp only [OpP.pt,OpP.sp,OpP.bx] at hr hok
  have hoc:oc=4:=by have:=HCC.out;omega
  subst hoc
  simp only [hz,if_true,if_false,Nat.reduceEqDiff] at hr hok
  have HRO:=Lib.hid (And.intro hr (And.intro hok hids))
  have HCALL:=Lib.hid hcall
  clear hr hok hids hcall hz
  go_upto_region 14 with fail
  go_still_tail 6,(by kernel_rfl)
  change wpList _ _ _ _ _ (wc).drew
  clear o0 o1 o2 o3 o4 o5 m0 m1 m2 m3 a0 a1 a2 b0 b1 b2 b3 b4
  go_wp2_with fail
  (with_reducible refine (HCALL.out _ (Upd.refl [] _).drew).mono ?_)
  rintro e w8 ⟨⟨v,rfl,hre⟩,hmp,hup⟩
  have HV:=Lib.hid (And.intro hre (And.intro hmp hup))
  clear hre hmp hup
  obtain ⟨Av,Cv,hv,lv,hve,hrest⟩:=HV.out.1
  clear hrest
  unfold repV at hve
  subst hve
  have hqb:w.heap.size+1≠p:=(by have:=HX0.out.md.ps.lt;have:=lt_of_block HC.out.2.1;have h9:=HG.out.1.ps.lt;omega)
  have hrp:=RpAt.upd HX0.out.rp ((((Upd.refl [] wc).drew).mono (by simp)).trans HV.out.2.2) (by simpa using hqb)
  clear hqb
  have f0:=hrp.frozen 0
  have f1:=hrp.frozen 1
  have f2:=hrp.frozen 2
  have f3:=hrp.frozen 3
  have f4:=hrp.frozen 4
  have f5:=hrp.frozen 5
  have c0:(w8).cell? ⟨w.heap.size+1,0,none⟩=some (.int .i64 0):=hrp.cell 0
  have c1:(w8).cell? ⟨w.heap.size+1,1,none⟩=some (.slice none 0 0):=hrp.cell 1
  have c2:(w8).cell? ⟨w.heap.size+1,2,none⟩=some (.int .i64 0):=hrp.cell 2
  have c3:(w8).cell? ⟨w.heap.size+1,3,none⟩=some (.bool false):=hrp.cell 3
  have c4:(w8).cell? ⟨w.heap.size+1,4,none⟩=some (.int .u64 0):=hrp.cell 4
  have c5:(w8).cell? ⟨w.heap.size+1,5,none⟩=some (.int .u64 0):=hrp.cell 5
  have HP:=Lib.hid (And.intro (hrp.put (.int .i64 (z.2.err:Int)) (.slice Av z.2.ids.length Cv) (.int .i64 (z.2.cnt:Int)) (.bool z.2.yes) (.int .u64 (hv:Int)) (.int .u64 (lv:Int))) (upd_put (q:=w.heap.size+1) (Upd.refl [w.heap.size+1] (w8)) (.inl (by simp)) (.int .i64 (z.2.err:Int)) (.slice Av z.2.ids.length Cv) (.int .i64 (z.2.cnt:Int)) (.bool z.2.yes) (.int .u64 (hv:Int)) (.int .u64 (lv:Int))))
  clear hrp
  go_wp2_with fail
  have y0:=HP.out.1.cell 0
  have y1:=HP.out.1.cell 1
  have y2:=HP.out.1.cell 2
  have y3:=HP.out.1.cell 3
  have y4:=HP.out.1.cell 4
  have y5:=HP.out.1.cell 5
  simp only [List.getElem?_toArray,List.getElem?_cons_zero,List.getElem?_cons_succ] at y0 y1 y2 y3 y4 y5
  refine bodyPost_ret (v:=repV z.2.err z.2.cnt z.2.yes (.slice Av z.2.ids.length Cv) hv lv) ?_ rfl ?_
  ·simp [repV,results,Tryz.results33,go_sem,y0,y1,y2,y3,y4,y5]
  ·rw [←HRO.out.1]
   exact chg_endP HG.out.1 HRO.out.2.1 (HUW0.out.drew) (by omega) HV.out.1 HRO.out.2.2 HV.out.2.1 HV.out.2.2 HP.out.2
 ·obtain ⟨z,hz⟩:∃z,loseM Sp.id m.ss oi=z:=⟨_,rfl⟩
  have hids:=lose_ids Sp.id m.ss oi
  have HM:=Lib.hid (And.intro HX0.out.md.ss HX0.out.md.ok.ss)
  have hcall:=fun (w9:World) (hd:Upd [] wc w9)=>loseSC s m.ss oi _ (HM.out.1.upd hd (by simp)) HM.out.2 HG.out.2.1
  have hok:=change_ok HG.out.1.ok (o:=⟨oc,oa,ob,occ,od,oi⟩) HG.out.2.1 HG.out.2.2.2.2.2
  rw [hz] at hids
  simp only [hz] at hcall
  have hr:=HR.out
  unfold changeM at hr hok
  dsimp only [OpP.pt,OpP.sp,OpP.bx] at hr hok
  have hoc:oc=5:=by have:=HCC.out;omega
  subst hoc
  simp only [hz,if_true,if_false,Nat.reduceEqDiff] at hr hok
  have HRO:=Lib.hid (And.intro hr (And.intro hok hids))
  have HCALL:=Lib.hid hcall
  clear hr hok hids hcall hz
  go_upto_region 16 with fail
  go_still_tail 6,(by kernel_rfl)
  change wpList _ _ _ _ _ (wc).drew
  clear o0 o1 o2 o3 o4 o5 m0 m1 m2 m3 a0 a1 a2 b0 b1 b2 b3 b4
  go_wp2_with fail
  (with_reducible refine (HCALL.out _ (Upd.refl [] _).drew).mono ?_)
  rintro e w8 ⟨⟨v,rfl,hre⟩,hmp,hup⟩
  have HV:=Lib.hid (And.intro hre (And.intro hmp hup))
  clear hre hmp hup
  obtain ⟨Av,Cv,hv,lv,hve,hrest⟩:=HV.out.1
  clear hrest
  unfold repV at hve
  subst hve
  have hqb:w.heap.size+1≠s:=(by have:=HX0.out.md.ss.lt;have:=lt_of_block HC.out.2.1;have h9:=HG.out.1.ss.lt;omega)
  have hrp:=RpAt.upd HX0.out.rp ((((Upd.refl [] wc).drew).mono (by simp)).trans HV.out.2.2) (by simpa using hqb)
  clear hqb
  have f0:=hrp.frozen 0
  have f1:=hrp.frozen 1
  have f2:=hrp.frozen 2
  have f3:=hrp.frozen 3
  have f4:=hrp.frozen 4
  have f5:=hrp.frozen 5
  have c0:(w8).cell? ⟨w.heap.size+1,0,none⟩=some (.int .i64 0):=hrp.cell 0
  have c1:(w8).cell? ⟨w.heap.size+1,1,none⟩=some (.slice none 0 0):=hrp.cell 1
  have c2:(w8).cell? ⟨w.heap.size+1,2,none⟩=some (.int .i64 0):=hrp.cell 2
  have c3:(w8).cell? ⟨w.heap.size+1,3,none⟩=some (.bool false):=hrp.cell 3
  have c4:(w8).cell? ⟨w.heap.size+1,4,none⟩=some (.int .u64 0):=hrp.cell 4
  have c5:(w8).cell? ⟨w.heap.size+1,5,none⟩=some (.int .u64 0):=hrp.cell 5
  have HP:=Lib.hid (And.intro (hrp.put (.int .i64 (z.2.err:Int)) (.slice Av z.2.ids.length Cv) (.int .i64 (z.2.cnt:Int)) (.bool z.2.yes) (.int .u64 (hv:Int)) (.int .u64 (lv:Int))) (upd_put (q:=w.heap.size+1) (Upd.refl [w.heap.size+1] (w8)) (.inl (by simp)) (.int .i64 (z.2.err:Int)) (.slice Av z.2.ids.length Cv) (.int .i64 (z.2.cnt:Int)) (.bool z.2.yes) (.int .u64 (hv:Int)) (.int .u64 (lv:Int))))
  clear hrp
  go_wp2_with fail
  have y0:=HP.out.1.cell 0
  have y1:=HP.out.1.cell 1
  have y2:=HP.out.1.cell 2
  have y3:=HP.out.1.cell 3
  have y4:=HP.out.1.cell 4
  have y5:=HP.out.1.cell 5
  simp only [List.getElem?_toArray,List.getElem?_cons_zero,List.getElem?_cons_succ] at y0 y1 y2 y3 y4 y5
  refine bodyPost_ret (v:=repV z.2.err z.2.cnt z.2.yes (.slice Av z.2.ids.length Cv) hv lv) ?_ rfl ?_
  ·simp [repV,results,Tryz.results33,go_sem,y0,y1,y2,y3,y4,y5]
  ·rw [←HRO.out.1]
   exact chg_endS HG.out.1 HRO.out.2.1 (HUW0.out.drew) (by omega) HV.out.1 HRO.out.2.2 HV.out.2.1 HV.out.2.2 HP.out.2
 ·obtain ⟨z,hz⟩:∃z,loseM Bx.id m.bs oi=z:=⟨_,rfl⟩
  have hids:=lose_ids Bx.id m.bs oi
  have HM:=Lib.hid (And.intro HX0.out.md.bs HX0.out.md.ok.bs)
  have hcall:=fun (w9:World) (hd:Upd [] wc w9)=>loseBC x m.bs oi _ (HM.out.1.upd hd (by simp)) HM.out.2 HG.out.2.1
  have hok:=change_ok HG.out.1.ok (o:=⟨oc,oa,ob,occ,od,oi⟩) HG.out.2.1 HG.out.2.2.2.2.2
  rw [hz] at hids
  simp only [hz] at hcall
  have hr:=HR.out
  unfold changeM at hr hok
  dsimp only [OpP.pt,OpP.sp,OpP.bx] at hr hok
  have hoc:oc=6:=by have:=HCC.out;omega
  subst hoc
  simp only [hz,if_false,Nat.reduceEqDiff] at hr hok
  have HRO:=Lib.hid (And.intro hr (And.intro hok hids))
  have HCALL:=Lib.hid hcall
  clear hr hok hids hcall hz
  go_upto_region 17 with fail
  go_still_tail 6,(by kernel_rfl)
  change wpList _ _ _ _ _ (wc).drew
  clear o0 o1 o2 o3 o4 o5 m0 m1 m2 m3 a0 a1 a2 b0 b1 b2 b3 b4
  go_wp2_with fail
  (with_reducible refine (HCALL.out _ (Upd.refl [] _).drew).mono ?_)
  rintro e w8 ⟨⟨v,rfl,hre⟩,hmp,hup⟩
  have HV:=Lib.hid (And.intro hre (And.intro hmp hup))
  clear hre hmp hup
  obtain ⟨Av,Cv,hv,lv,hve,hrest⟩:=HV.out.1
  clear hrest
  unfold repV at hve
  subst hve
  have hqb:w.heap.size+1≠x:=(by have:=HX0.out.md.bs.lt;have:=lt_of_block HC.out.2.1;have h9:=HG.out.1.bs.lt;omega)
  have hrp:=RpAt.upd HX0.out.rp ((((Upd.refl [] wc).drew).mono (by simp)).trans HV.out.2.2) (by simpa using hqb)
  clear hqb
  have f0:=hrp.frozen 0
  have f1:=hrp.frozen 1
  have f2:=hrp.frozen 2
  have f3:=hrp.frozen 3
  have f4:=hrp.frozen 4
  have f5:=hrp.frozen 5
  have c0:(w8).cell? ⟨w.heap.size+1,0,none⟩=some (.int .i64 0):=hrp.cell 0
  have c1:(w8).cell? ⟨w.heap.size+1,1,none⟩=some (.slice none 0 0):=hrp.cell 1
  have c2:(w8).cell? ⟨w.heap.size+1,2,none⟩=some (.int .i64 0):=hrp.cell 2
  have c3:(w8).cell? ⟨w.heap.size+1,3,none⟩=some (.bool false):=hrp.cell 3
  have c4:(w8).cell? ⟨w.heap.size+1,4,none⟩=some (.int .u64 0):=hrp.cell 4
  have c5:(w8).cell? ⟨w.heap.size+1,5,none⟩=some (.int .u64 0):=hrp.cell 5
  have HP:=Lib.hid (And.intro (hrp.put (.int .i64 (z.2.err:Int)) (.slice Av z.2.ids.length Cv) (.int .i64 (z.2.cnt:Int)) (.bool z.2.yes) (.int .u64 (hv:Int)) (.int .u64 (lv:Int))) (upd_put (q:=w.heap.size+1) (Upd.refl [w.heap.size+1] (w8)) (.inl (by simp)) (.int .i64 (z.2.err:Int)) (.slice Av z.2.ids.length Cv) (.int .i64 (z.2.cnt:Int)) (.bool z.2.yes) (.int .u64 (hv:Int)) (.int .u64 (lv:Int))))
  clear hrp
  go_wp2_with fail
  have y0:=HP.out.1.cell 0
  have y1:=HP.out.1.cell 1
  have y2:=HP.out.1.cell 2
  have y3:=HP.out.1.cell 3
  have y4:=HP.out.1.cell 4
  have y5:=HP.out.1.cell 5
  simp only [List.getElem?_toArray,List.getElem?_cons_zero,List.getElem?_cons_succ] at y0 y1 y2 y3 y4 y5
  refine bodyPost_ret (v:=repV z.2.err z.2.cnt z.2.yes (.slice Av z.2.ids.length Cv) hv lv) ?_ rfl ?_
  ·simp [repV,results,Tryz.results33,go_sem,y0,y1,y2,y3,y4,y5]
  ·rw [←HRO.out.1]
   exact chg_endB HG.out.1 HRO.out.2.1 (HUW0.out.drew) (by omega) HV.out.1 HRO.out.2.2 HV.out.2.1 HV.out.2.2 HP.out.2
end Go.Proofs.YtkmnbodlciepaaaGreat
