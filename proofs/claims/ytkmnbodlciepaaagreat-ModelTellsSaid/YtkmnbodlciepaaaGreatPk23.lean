/- model.point: what is asked of points. Printed by mkpnt.py. -/
import Derived.Test.YtkmnbodlciepaaaGreatPk22
import Derived.Test.YtkmnbodlciepaaaGreatPk19
set_option maxHeartbeats 8000000
set_option maxRecDepth 100000
namespace Go.Proofs.YtkmnbodlciepaaaGreat
open Go.RowKit
structure PntF (w:World) (b2 b3 q b5 h p s x:Nat) (o:OpP) (m:Md) (y1 y2:Int):Prop where
 pt:CelB w b2 [.pointer (some ⟨h,0,none⟩)]
 op:CelB w b3 (opL o)
 rp:RpAt w q repZ
 st:HpC w b5 #[.int .i64 o.a,.int .i64 o.b,.int .i64 y1,.int .i64 y2,.int .u32 0] 59
 md:MdAt w h p s x m
theorem PntF.upd0 {w w':World} {b2 b3 q b5 h p s x:Nat} {o:OpP} {m:Md} {y1 y2:Int} (f:PntF w b2 b3 q b5 h p s x o m y1 y2) (hu:Upd [] w w'):PntF w' b2 b3 q b5 h p s x o m y1 y2:=
 ⟨f.pt.upd0 hu,f.op.upd0 hu,f.rp.upd hu (by simp),f.st.upd hu (by simp),f.md.upd0 hu⟩
theorem PntF.put {w:World} {b2 b3 q b5 h p s x:Nat} {o:OpP} {m:Md} {y1 y2:Int} (f:PntF w b2 b3 q b5 h p s x o m y1 y2) (h2:b2≠b5) (h3:b3≠b5) (hq:q≠b5) (hh:h≠b5) (hp:p≠b5) (hs:s≠b5) (hx:x≠b5) (z1 z2:Int) :
 PntF ((w.setCell ⟨b5,2,none⟩ (.int .i64 z1)).setCell ⟨b5,3,none⟩ (.int .i64 z2)) b2 b3 q b5 h p s x o m z1 z2:=
 have hu:Upd [b5] w ((w.setCell ⟨b5,2,none⟩ (.int .i64 z1)).setCell ⟨b5,3,none⟩ (.int .i64 z2)):=((Upd.refl [b5] w).setCell (p:=⟨b5,2,none⟩) (.inl (by simp)) _).setCell (p:=⟨b5,3,none⟩) (.inl (by simp)) _
 ⟨f.pt.upd hu (by simpa using h2),f.op.upd hu (by simpa using h3),f.rp.upd hu (by simpa using hq),(f.st.set 2 _).set 3 _,f.md.upd hu (by simpa using hh) (by simpa using hp) (by simpa using hs) (by simpa using hx)⟩
theorem PntF.put3 {w:World} {b2 b3 q b5 h p s x:Nat} {o:OpP} {m:Md} {y1 y2:Int} (f:PntF w b2 b3 q b5 h p s x o m y1 y2) (h2:b2≠b5) (h3:b3≠b5) (hq:q≠b5) (hh:h≠b5) (hp:p≠b5) (hs:s≠b5) (hx:x≠b5) (z2:Int) :
 PntF (w.setCell ⟨b5,3,none⟩ (.int .i64 z2)) b2 b3 q b5 h p s x o m y1 z2:=
 have hu:Upd [b5] w (w.setCell ⟨b5,3,none⟩ (.int .i64 z2)):=(Upd.refl [b5] w).setCell (p:=⟨b5,3,none⟩) (.inl (by simp)) _
 ⟨f.pt.upd hu (by simpa using h2),f.op.upd hu (by simpa using h3),f.rp.upd hu (by simpa using hq),f.st.set 3 _,f.md.upd hu (by simpa using hh) (by simpa using hp) (by simpa using hs) (by simpa using hx)⟩
theorem PntF.box {w:World} {b2 b3 q b5 h p s x:Nat} {o:OpP} {m:Md} {y1 y2:Int} (f:PntF w b2 b3 q b5 h p s x o m y1 y2):CelB w b5 (bxL ⟨o.a,o.b,y1,y2,0⟩):=CelB.of_hp f.st
theorem pnt_ids {w7 w8 w9:World} {q:Nat} {A:Option Addr} {C n:Nat} {l:List Nat} (hn:l.length=n) (hrow:KU.row w8 w7.heap.size (.slice A n C) l) (hq:q<w7.heap.size) (hu:Upd [q] w8 w9):RepAt w9 (repV 0 0 false (.slice A n C) 0 0) (idsR l):=by
 subst hn
 exact repAt_ids _ _ _ _ ((See.of_row hrow).upd hu (fun _ k hk _ hc=>by have:=own_ge hrow k hk;simp at hc;omega))
theorem pointC {w:World} {h p s x:Nat} {m:Md} (g:MdAt w h p s x m) (o:OpP) (hp:m.ps.length<1000000) (ho:7≤o.code∧o.code≤14) :
 Calls Tryz.prog 34 #[.pointer (some ⟨h,0,none⟩),opV o] w fun e w'=>∃v,e=.returned v∧RepAt w' v (pointM m o)∧Upd [] w w':=by
 have HG:=Lib.hid (And.intro g (And.intro hp ho))
 clear g hp ho
 obtain ⟨r,hr⟩:∃r,pointM m o=r:=⟨_,rfl⟩
 rw [hr]
 have HR:=Lib.hid hr
 clear hr
 obtain ⟨oc,oa,ob,occ,od,oi⟩:=o
 unfold opV
 dsimp only
 have HL:=Lib.hid (And.intro (lt_of_block HG.out.1.head) (And.intro HG.out.1.ps.lt (And.intro HG.out.1.ss.lt HG.out.1.bs.lt)))
 go_enter Tryz.func34,Tryz.ntmps34
 go_upto_block 0 with fail
 have hf:PntF ((((w.alloc (.cells #[.pointer (some ⟨h,0,none⟩)] 23)).alloc (.cells #[.int .u8 (oc:Int),.int .i64 oa,.int .i64 ob,.int .i64 occ,.int .i64 od,.int .u32 (oi:Int)] 43)).alloc (.cells repZ 39)).alloc (.cells #[.int .i64 oa,.int .i64 ob,.int .i64 (-9223372036854775808),.int .i64 9223372036854775807,.int .u32 0] 59)) w.heap.size (w.heap.size+1) (w.heap.size+1+1) (w.heap.size+1+1+1) h p s x ⟨oc,oa,ob,occ,od,oi⟩ m (-9223372036854775808) 9223372036854775807:=by
  refine ⟨(CelB.of_heap (heap_alloc_new w (.cells #[.pointer (some ⟨h,0,none⟩)] 23))).upd0 ((((Upd.refl [] _).alloc _).alloc _).alloc _),(CelB.of_heap (B:=w.heap.size+1) (by have:=heap_alloc_new (w.alloc (.cells #[.pointer (some ⟨h,0,none⟩)] 23)) (.cells #[.int .u8 (oc:Int),.int .i64 oa,.int .i64 ob,.int .i64 occ,.int .i64 od,.int .u32 (oi:Int)] 43);simpa using this)).upd0 (((Upd.refl [] _).alloc _).alloc _),RpAt.upd (w:=((w.alloc (.cells #[.pointer (some ⟨h,0,none⟩)] 23)).alloc (.cells #[.int .u8 (oc:Int),.int .i64 oa,.int .i64 ob,.int .i64 occ,.int .i64 od,.int .u32 (oi:Int)] 43)).alloc (.cells repZ 39)) (by have:=heap_alloc_new ((w.alloc (.cells #[.pointer (some ⟨h,0,none⟩)] 23)).alloc (.cells #[.int .u8 (oc:Int),.int .i64 oa,.int .i64 ob,.int .i64 occ,.int .i64 od,.int .u32 (oi:Int)] 43)) (.cells repZ 39);unfold RpAt;simpa using this) ((Upd.refl [] _).alloc _) (by simp),?_,HG.out.1.upd0 (((((Upd.refl [] _).alloc _).alloc _).alloc _).alloc _)⟩
  have:=heap_alloc_new (((w.alloc (.cells #[.pointer (some ⟨h,0,none⟩)] 23)).alloc (.cells #[.int .u8 (oc:Int),.int .i64 oa,.int .i64 ob,.int .i64 occ,.int .i64 od,.int .u32 (oi:Int)] 43)).alloc (.cells repZ 39)) (.cells #[.int .i64 oa,.int .i64 ob,.int .i64 (-9223372036854775808),.int .i64 9223372036854775807,.int .u32 0] 59)
  unfold HpC
  simpa using this
 have hu:Upd [] w ((((w.alloc (.cells #[.pointer (some ⟨h,0,none⟩)] 23)).alloc (.cells #[.int .u8 (oc:Int),.int .i64 oa,.int .i64 ob,.int .i64 occ,.int .i64 od,.int .u32 (oi:Int)] 43)).alloc (.cells repZ 39)).alloc (.cells #[.int .i64 oa,.int .i64 ob,.int .i64 (-9223372036854775808),.int .i64 9223372036854775807,.int .u32 0] 59)):=((((Upd.refl [] _).alloc _).alloc _).alloc _).alloc _
 have hsz:((((w.alloc (.cells #[.pointer (some ⟨h,0,none⟩)] 23)).alloc (.cells #[.int .u8 (oc:Int),.int .i64 oa,.int .i64 ob,.int .i64 occ,.int .i64 od,.int .u32 (oi:Int)] 43)).alloc (.cells repZ 39)).alloc (.cells #[.int .i64 oa,.int .i64 ob,.int .i64 (-9223372036854775808),.int .i64 9223372036854775807,.int .u32 0] 59)).heap.size=w.heap.size+1+1+1+1:=by simp
 generalize ((((w.alloc (.cells #[.pointer (some ⟨h,0,none⟩)] 23)).alloc (.cells #[.int .u8 (oc:Int),.int .i64 oa,.int .i64 ob,.int .i64 occ,.int .i64 od,.int .u32 (oi:Int)] 43)).alloc (.cells repZ 39)).alloc (.cells #[.int .i64 oa,.int .i64 ob,.int .i64 (-9223372036854775808),.int .i64 9223372036854775807,.int .u32 0] 59))=W at hf hu hsz ⊢
 have HF:=Lib.hid (And.intro hf (And.intro hu hsz))
 clear hf hu hsz
 obtain ⟨c,hc⟩:∃c:Int,(oc:Int)=c:=⟨_,rfl⟩
 have hk:c=7∨c=8∨c=9∨c=10∨c=11∨c=12∨c=13∨c=14:=by have:=HG.out.2.2;dsimp only at this;omega
 rw [hc]
 have HCC:=Lib.hid hc
 clear hc
 rcases hk with rfl | rfl | rfl | rfl | rfl | rfl | rfl | rfl
 ·go_upto_region 6 with fail
  refine GoT.start [] (fun w'=>w'.cell? ⟨w.heap.size+1,3,none⟩=some (.int .i64 occ)∧w'.cell? ⟨w.heap.size+1,4,none⟩=some (.int .i64 od)) (by kernel_rfl) ?_ fun hS=>?_
  ·exact ⟨HF.out.1.op 3 _ rfl,HF.out.1.op 4 _ rfl⟩
  refine' GoT.mv (i:=0) (oi:=⟨some 18,_,_,_,_,_⟩) rfl (by rfl) ?y6c7_0 ?_
  case y6c7_0=>intro w;go_simp<;>with_reducible rfl
  simp only [Act.put,sA,sZ,sS]
  refine' GoT.tk 1 (i:=1) (oi:=⟨some 19,_,_,_,_,_⟩) rfl (by rfl) ?y6c7_1 ?_
  case y6c7_1=>intro w hSw;obtain ⟨s3,s4⟩:=hSw;go_simp<;>with_reducible rfl
  simp only [Act.put,sA,sZ,sS]
  refine' GoT.mv (i:=2) (oi:=⟨some 20,_,_,_,_,_⟩) rfl (by rfl) ?y6c7_2 ?_
  case y6c7_2=>intro w;go_simp<;>with_reducible rfl
  simp only [Act.put,sA,sZ,sS]
  refine' GoT.tk 1 (i:=3) (oi:=⟨some 21,_,_,_,_,_⟩) rfl (by rfl) ?y6c7_3 ?_
  case y6c7_3=>intro w hSw;obtain ⟨s3,s4⟩:=hSw;go_simp<;>with_reducible rfl
  simp only [Act.put,sA,sZ,sS]
  refine' GoT.mv (i:=4) (oi:=⟨some 22,_,_,_,_,_⟩) rfl (by rfl) ?y6c7_4 ?_
  case y6c7_4=>intro w;go_simp<;>with_reducible rfl
  simp only [Act.put,sA,sZ,sS]
  refine GoT.one (i:=5) (o:=⟨none,_,_,_,_,_⟩) rfl (by kernel_rfl) fun K hK=>?_
  have t2:(W.drew).cell? ⟨w.heap.size,0,none⟩=some (.pointer (some ⟨h,0,none⟩)):=HF.out.1.pt 0 _ rfl
  have o0:(W.drew).cell? ⟨w.heap.size+1,0,none⟩=some (.int .u8 (oc:Int)):=HF.out.1.op 0 _ rfl
  have o3:(W.drew).cell? ⟨w.heap.size+1,3,none⟩=some (.int .i64 occ):=HF.out.1.op 3 _ rfl
  have o4:(W.drew).cell? ⟨w.heap.size+1,4,none⟩=some (.int .i64 od):=HF.out.1.op 4 _ rfl
  have m1:(W.drew).cell? ⟨h,1,none⟩=some (.map (some p)):=HF.out.1.md.cells.2.1
  have g2:(W.drew).cell? ⟨w.heap.size+1+1+1,2,none⟩=some (.int .i64 (-9223372036854775808)):=HF.out.1.st.cell 2
  have g3:(W.drew).cell? ⟨w.heap.size+1+1+1,3,none⟩=some (.int .i64 9223372036854775807):=HF.out.1.st.cell 3
  have e2:(W.drew).frozen? ⟨w.heap.size+1+1+1,2,none⟩=false:=HF.out.1.st.frozen 2
  have e3:(W.drew).frozen? ⟨w.heap.size+1+1+1,3,none⟩=false:=HF.out.1.st.frozen 3
  rw [HCC.out] at o0
  go_simp
  clear t2 o0 o3 o4 m1 g2 g3 e2 e3
  refine hK.out _ _ (fun _ h=>?_) ?_
  ·exact ⟨((Upd.refl [w.heap.size+1+1+1] _).setCell (p:=⟨w.heap.size+1+1+1,2,none⟩) (.inl (by simp)) _).cell (World.block_lt_of_cell? _ _ h.1) (by simp) |>.trans h.1,((Upd.refl [w.heap.size+1+1+1] _).setCell (p:=⟨w.heap.size+1+1+1,2,none⟩) (.inl (by simp)) _).cell (World.block_lt_of_cell? _ _ h.2) (by simp) |>.trans h.2⟩
  clear hK K
  try simp only [Act.put,sA,sZ,sS]
  refine' GoT.mv (i:=6) (oi:=⟨some 23,_,_,_,_,_⟩) rfl (by rfl) ?y6c7_6 ?_
  case y6c7_6=>intro w;go_simp<;>with_reducible rfl
  simp only [Act.put,sA,sZ,sS]
  refine GoT.one (i:=7) (o:=⟨none,_,_,_,_,_⟩) rfl (by kernel_rfl) fun K hK=>?_
  have t2:(W).cell? ⟨w.heap.size,0,none⟩=some (.pointer (some ⟨h,0,none⟩)):=HF.out.1.pt 0 _ rfl
  have o0:(W).cell? ⟨w.heap.size+1,0,none⟩=some (.int .u8 (oc:Int)):=HF.out.1.op 0 _ rfl
  have o3:(W).cell? ⟨w.heap.size+1,3,none⟩=some (.int .i64 occ):=HF.out.1.op 3 _ rfl
  have o4:(W).cell? ⟨w.heap.size+1,4,none⟩=some (.int .i64 od):=HF.out.1.op 4 _ rfl
  have m1:(W).cell? ⟨h,1,none⟩=some (.map (some p)):=HF.out.1.md.cells.2.1
  have g2:(W).cell? ⟨w.heap.size+1+1+1,2,none⟩=some (.int .i64 (-9223372036854775808)):=HF.out.1.st.cell 2
  have g3:(W).cell? ⟨w.heap.size+1+1+1,3,none⟩=some (.int .i64 9223372036854775807):=HF.out.1.st.cell 3
  have e2:(W).frozen? ⟨w.heap.size+1+1+1,2,none⟩=false:=HF.out.1.st.frozen 2
  have e3:(W).frozen? ⟨w.heap.size+1+1+1,3,none⟩=false:=HF.out.1.st.frozen 3
  rw [HCC.out] at o0
  go_simp
  clear t2 o0 o3 o4 m1 g2 g3 e2 e3
  refine hK.out _ _ (fun _ h=>?_) ?_
  ·exact ⟨((Upd.refl [w.heap.size+1+1+1] _).setCell (p:=⟨w.heap.size+1+1+1,3,none⟩) (.inl (by simp)) _).cell (World.block_lt_of_cell? _ _ h.1) (by simp) |>.trans h.1,((Upd.refl [w.heap.size+1+1+1] _).setCell (p:=⟨w.heap.size+1+1+1,3,none⟩) (.inl (by simp)) _).cell (World.block_lt_of_cell? _ _ h.2) (by simp) |>.trans h.2⟩
  clear hK K
  try simp only [Act.put,sA,sZ,sS]
  refine GoT.done (by kernel_rfl) ?_
  have hu6:Upd [] w (((W.setCell ⟨w.heap.size+1+1+1,2,none⟩ (.int .i64 occ)).setCell ⟨w.heap.size+1+1+1,3,none⟩ (.int .i64 od)).drew):=(((HF.out.2.1).setCell (p:=⟨w.heap.size+1+1+1,2,none⟩) (.inr (by show w.heap.size≤w.heap.size+1+1+1;omega)) _).setCell (p:=⟨w.heap.size+1+1+1,3,none⟩) (.inr (by show w.heap.size≤w.heap.size+1+1+1;omega)) _).drew
  have hf6:=(HF.out.1.put (by omega) (by omega) (by omega) (by have:=HL.out;omega) (by have:=HL.out;omega) (by have:=HL.out;omega) (by have:=HL.out;omega) occ od).upd0 (w':=((W.setCell ⟨w.heap.size+1+1+1,2,none⟩ (.int .i64 occ)).setCell ⟨w.heap.size+1+1+1,3,none⟩ (.int .i64 od)).drew) (Upd.refl [] _).drew
  have hs6:(((W.setCell ⟨w.heap.size+1+1+1,2,none⟩ (.int .i64 occ)).setCell ⟨w.heap.size+1+1+1,3,none⟩ (.int .i64 od)).drew).heap.size=w.heap.size+1+1+1+1:=by simp [World.setCell,World.drew];exact HF.out.2.2
  clear hS
  generalize (((W.setCell ⟨w.heap.size+1+1+1,2,none⟩ (.int .i64 occ)).setCell ⟨w.heap.size+1+1+1,3,none⟩ (.int .i64 od)).drew)=W6 at hf6 hu6 hs6 ⊢
  have HF6:=Lib.hid (And.intro hf6 (And.intro hu6 hs6))
  clear hf6 hu6 hs6
  have hch:=chosenPC p m.ps (fun q=>inBM ⟨oa,ob,occ,od,0⟩ q.x q.y) 72 #[.pointer (some ⟨w.heap.size+1+1+1,0,none⟩)] (enters_of Tryz.func72 (by kernel_rfl) rfl) W6 (HF6.out.1.md.ps) HG.out.1.ok.ps HG.out.2.1 (fun W' px py pi _ hW=>clo1C (w.heap.size+1+1+1) ⟨oa,ob,occ,od,0⟩ px py pi W' (HF6.out.1.box.upd0 hW))
  have hr:=HR.out
  unfold pointM at hr
  have hoc:oc=7:=by have:=HCC.out;omega
  have hask:askP m.ps ⟨oc,oa,ob,occ,od,oi⟩=fun q=>inBM ⟨oa,ob,occ,od,0⟩ q.x q.y:=by funext q;unfold askP;simp [hoc]
  rw [hask] at hr
  obtain ⟨L,hL⟩:∃L,namesM Pt.id m.ps (fun q=>inBM ⟨oa,ob,occ,od,0⟩ q.x q.y)=L:=⟨_,rfl⟩
  rw [hL] at hch hr
  obtain ⟨n,hn⟩:∃n,L.length=n:=⟨_,rfl⟩
  simp only [hn] at hch
  dsimp only at hr
  simp [hoc] at hr
  have HCH:=Lib.hid hch
  have HRR:=Lib.hid (And.intro hr hn)
  clear hch hr hask hL hn hoc
  have t2:(W6).cell? ⟨w.heap.size,0,none⟩=some (.pointer (some ⟨h,0,none⟩)):=HF6.out.1.pt 0 _ rfl
  have o0:(W6).cell? ⟨w.heap.size+1,0,none⟩=some (.int .u8 (oc:Int)):=HF6.out.1.op 0 _ rfl
  have o3:(W6).cell? ⟨w.heap.size+1,3,none⟩=some (.int .i64 occ):=HF6.out.1.op 3 _ rfl
  have o4:(W6).cell? ⟨w.heap.size+1,4,none⟩=some (.int .i64 od):=HF6.out.1.op 4 _ rfl
  have m1:(W6).cell? ⟨h,1,none⟩=some (.map (some p)):=HF6.out.1.md.cells.2.1
  have g2:(W6).cell? ⟨w.heap.size+1+1+1,2,none⟩=some (.int .i64 occ):=HF6.out.1.st.cell 2
  have g3:(W6).cell? ⟨w.heap.size+1+1+1,3,none⟩=some (.int .i64 od):=HF6.out.1.st.cell 3
  have e2:(W6).frozen? ⟨w.heap.size+1+1+1,2,none⟩=false:=HF6.out.1.st.frozen 2
  have e3:(W6).frozen? ⟨w.heap.size+1+1+1,3,none⟩=false:=HF6.out.1.st.frozen 3
  rw [HCC.out] at o0
  go_wp2_with fail
  clear t2 o0 o3 o4 m1 g2 g3 e2 e3
  (with_reducible refine HCH.out.mono ?_)
  rintro e w8 ⟨A,C,rfl,hrow,hu8⟩
  have HF8:=Lib.hid (HF6.out.1.upd0 hu8)
  have HW8:=Lib.hid (And.intro hrow hu8)
  have HRP:=Lib.hid HF8.out.rp
  clear hrow hu8
  have t2:(w8).cell? ⟨w.heap.size,0,none⟩=some (.pointer (some ⟨h,0,none⟩)):=HF8.out.pt 0 _ rfl
  have o0:(w8).cell? ⟨w.heap.size+1,0,none⟩=some (.int .u8 (oc:Int)):=HF8.out.op 0 _ rfl
  have o3:(w8).cell? ⟨w.heap.size+1,3,none⟩=some (.int .i64 occ):=HF8.out.op 3 _ rfl
  have o4:(w8).cell? ⟨w.heap.size+1,4,none⟩=some (.int .i64 od):=HF8.out.op 4 _ rfl
  have m1:(w8).cell? ⟨h,1,none⟩=some (.map (some p)):=HF8.out.md.cells.2.1
  have g2:(w8).cell? ⟨w.heap.size+1+1+1,2,none⟩=some (.int .i64 occ):=HF8.out.st.cell 2
  have g3:(w8).cell? ⟨w.heap.size+1+1+1,3,none⟩=some (.int .i64 od):=HF8.out.st.cell 3
  have e2:(w8).frozen? ⟨w.heap.size+1+1+1,2,none⟩=false:=HF8.out.st.frozen 2
  have e3:(w8).frozen? ⟨w.heap.size+1+1+1,3,none⟩=false:=HF8.out.st.frozen 3
  rw [HCC.out] at o0
  go_upto_region 26 with fail
  clear t2 o0 o3 o4 m1 g2 g3 e2 e3
  have f0:(w8).frozen? ⟨w.heap.size+1+1,0,none⟩=false:=HRP.out.frozen 0
  have f1:(w8).frozen? ⟨w.heap.size+1+1,1,none⟩=false:=HRP.out.frozen 1
  have f2:(w8).frozen? ⟨w.heap.size+1+1,2,none⟩=false:=HRP.out.frozen 2
  have f3:(w8).frozen? ⟨w.heap.size+1+1,3,none⟩=false:=HRP.out.frozen 3
  have f4:(w8).frozen? ⟨w.heap.size+1+1,4,none⟩=false:=HRP.out.frozen 4
  have f5:(w8).frozen? ⟨w.heap.size+1+1,5,none⟩=false:=HRP.out.frozen 5
  have c0:(w8).cell? ⟨w.heap.size+1+1,0,none⟩=some (.int .i64 0):=HRP.out.cell 0
  have c1:(w8).cell? ⟨w.heap.size+1+1,1,none⟩=some (.slice none 0 0):=HRP.out.cell 1
  have c2:(w8).cell? ⟨w.heap.size+1+1,2,none⟩=some (.int .i64 0):=HRP.out.cell 2
  have c3:(w8).cell? ⟨w.heap.size+1+1,3,none⟩=some (.bool false):=HRP.out.cell 3
  have c4:(w8).cell? ⟨w.heap.size+1+1,4,none⟩=some (.int .u64 0):=HRP.out.cell 4
  have c5:(w8).cell? ⟨w.heap.size+1+1,5,none⟩=some (.int .u64 0):=HRP.out.cell 5
  have HP:=Lib.hid (And.intro (HRP.out.put (.int .i64 0) (.slice A n C) (.int .i64 0) (.bool false) (.int .u64 0) (.int .u64 0)) (upd_put (q:=w.heap.size+1+1) (Upd.refl [w.heap.size+1+1] (w8)) (.inl (by simp)) (.int .i64 0) (.slice A n C) (.int .i64 0) (.bool false) (.int .u64 0) (.int .u64 0)))
  go_wp2_with fail
  have y0:=HP.out.1.cell 0
  have y1:=HP.out.1.cell 1
  have y2:=HP.out.1.cell 2
  have y3:=HP.out.1.cell 3
  have y4:=HP.out.1.cell 4
  have y5:=HP.out.1.cell 5
  simp only [List.getElem?_toArray,List.getElem?_cons_zero,List.getElem?_cons_succ] at y0 y1 y2 y3 y4 y5
  refine bodyPost_ret (v:=repV 0 0 false (.slice A n C) 0 0) ?_ rfl ⟨_,rfl,?_,?_⟩
  ·simp [repV,results,Tryz.results34,go_sem,y0,y1,y2,y3,y4,y5]
  ·rw [←HRR.out.1];exact pnt_ids HRR.out.2 HW8.out.1 (by have:=HF6.out.2.2;omega) HP.out.2
  ·exact ((HF6.out.2.1.trans HW8.out.2).trans' HP.out.2 (fun k hk=>.inr (by simp at hk;omega)))
 ·go_upto_region 6 with fail
  refine GoT.start [] (fun w'=>w'.cell? ⟨w.heap.size+1,3,none⟩=some (.int .i64 occ)∧w'.cell? ⟨w.heap.size+1,4,none⟩=some (.int .i64 od)) (by kernel_rfl) ?_ fun hS=>?_
  ·exact ⟨HF.out.1.op 3 _ rfl,HF.out.1.op 4 _ rfl⟩
  refine' GoT.mv (i:=0) (oi:=⟨some 18,_,_,_,_,_⟩) rfl (by rfl) ?y6c8_0 ?_
  case y6c8_0=>intro w;go_simp<;>with_reducible rfl
  simp only [Act.put,sA,sZ,sS]
  refine' GoT.tk 1 (i:=1) (oi:=⟨some 19,_,_,_,_,_⟩) rfl (by rfl) ?y6c8_1 ?_
  case y6c8_1=>intro w hSw;obtain ⟨s3,s4⟩:=hSw;go_simp<;>with_reducible rfl
  simp only [Act.put,sA,sZ,sS]
  refine' GoT.mv (i:=2) (oi:=⟨some 20,_,_,_,_,_⟩) rfl (by rfl) ?y6c8_2 ?_
  case y6c8_2=>intro w;go_simp<;>with_reducible rfl
  simp only [Act.put,sA,sZ,sS]
  refine' GoT.tk 1 (i:=3) (oi:=⟨some 21,_,_,_,_,_⟩) rfl (by rfl) ?y6c8_3 ?_
  case y6c8_3=>intro w hSw;obtain ⟨s3,s4⟩:=hSw;go_simp<;>with_reducible rfl
  simp only [Act.put,sA,sZ,sS]
  refine' GoT.mv (i:=4) (oi:=⟨some 22,_,_,_,_,_⟩) rfl (by rfl) ?y6c8_4 ?_
  case y6c8_4=>intro w;go_simp<;>with_reducible rfl
  simp only [Act.put,sA,sZ,sS]
  refine GoT.one (i:=5) (o:=⟨none,_,_,_,_,_⟩) rfl (by kernel_rfl) fun K hK=>?_
  have t2:(W.drew).cell? ⟨w.heap.size,0,none⟩=some (.pointer (some ⟨h,0,none⟩)):=HF.out.1.pt 0 _ rfl
  have o0:(W.drew).cell? ⟨w.heap.size+1,0,none⟩=some (.int .u8 (oc:Int)):=HF.out.1.op 0 _ rfl
  have o3:(W.drew).cell? ⟨w.heap.size+1,3,none⟩=some (.int .i64 occ):=HF.out.1.op 3 _ rfl
  have o4:(W.drew).cell? ⟨w.heap.size+1,4,none⟩=some (.int .i64 od):=HF.out.1.op 4 _ rfl
  have m1:(W.drew).cell? ⟨h,1,none⟩=some (.map (some p)):=HF.out.1.md.cells.2.1
  have g2:(W.drew).cell? ⟨w.heap.size+1+1+1,2,none⟩=some (.int .i64 (-9223372036854775808)):=HF.out.1.st.cell 2
  have g3:(W.drew).cell? ⟨w.heap.size+1+1+1,3,none⟩=some (.int .i64 9223372036854775807):=HF.out.1.st.cell 3
  have e2:(W.drew).frozen? ⟨w.heap.size+1+1+1,2,none⟩=false:=HF.out.1.st.frozen 2
  have e3:(W.drew).frozen? ⟨w.heap.size+1+1+1,3,none⟩=false:=HF.out.1.st.frozen 3
  rw [HCC.out] at o0
  go_simp
  clear t2 o0 o3 o4 m1 g2 g3 e2 e3
  refine hK.out _ _ (fun _ h=>?_) ?_
  ·exact ⟨((Upd.refl [w.heap.size+1+1+1] _).setCell (p:=⟨w.heap.size+1+1+1,2,none⟩) (.inl (by simp)) _).cell (World.block_lt_of_cell? _ _ h.1) (by simp) |>.trans h.1,((Upd.refl [w.heap.size+1+1+1] _).setCell (p:=⟨w.heap.size+1+1+1,2,none⟩) (.inl (by simp)) _).cell (World.block_lt_of_cell? _ _ h.2) (by simp) |>.trans h.2⟩
  clear hK K
  try simp only [Act.put,sA,sZ,sS]
  refine' GoT.mv (i:=6) (oi:=⟨some 23,_,_,_,_,_⟩) rfl (by rfl) ?y6c8_6 ?_
  case y6c8_6=>intro w;go_simp<;>with_reducible rfl
  simp only [Act.put,sA,sZ,sS]
  refine GoT.one (i:=7) (o:=⟨none,_,_,_,_,_⟩) rfl (by kernel_rfl) fun K hK=>?_
  have t2:(W).cell? ⟨w.heap.size,0,none⟩=some (.pointer (some ⟨h,0,none⟩)):=HF.out.1.pt 0 _ rfl
  have o0:(W).cell? ⟨w.heap.size+1,0,none⟩=some (.int .u8 (oc:Int)):=HF.out.1.op 0 _ rfl
  have o3:(W).cell? ⟨w.heap.size+1,3,none⟩=some (.int .i64 occ):=HF.out.1.op 3 _ rfl
  have o4:(W).cell? ⟨w.heap.size+1,4,none⟩=some (.int .i64 od):=HF.out.1.op 4 _ rfl
  have m1:(W).cell? ⟨h,1,none⟩=some (.map (some p)):=HF.out.1.md.cells.2.1
  have g2:(W).cell? ⟨w.heap.size+1+1+1,2,none⟩=some (.int .i64 (-9223372036854775808)):=HF.out.1.st.cell 2
  have g3:(W).cell? ⟨w.heap.size+1+1+1,3,none⟩=some (.int .i64 9223372036854775807):=HF.out.1.st.cell 3
  have e2:(W).frozen? ⟨w.heap.size+1+1+1,2,none⟩=false:=HF.out.1.st.frozen 2
  have e3:(W).frozen? ⟨w.heap.size+1+1+1,3,none⟩=false:=HF.out.1.st.frozen 3
  rw [HCC.out] at o0
  go_simp
  clear t2 o0 o3 o4 m1 g2 g3 e2 e3
  refine hK.out _ _ (fun _ h=>?_) ?_
  ·exact ⟨((Upd.refl [w.heap.size+1+1+1] _).setCell (p:=⟨w.heap.size+1+1+1,3,none⟩) (.inl (by simp)) _).cell (World.block_lt_of_cell? _ _ h.1) (by simp) |>.trans h.1,((Upd.refl [w.heap.size+1+1+1] _).setCell (p:=⟨w.heap.size+1+1+1,3,none⟩) (.inl (by simp)) _).cell (World.block_lt_of_cell? _ _ h.2) (by simp) |>.trans h.2⟩
  clear hK K
  try simp only [Act.put,sA,sZ,sS]
  refine GoT.done (by kernel_rfl) ?_
  have hu6:Upd [] w (((W.setCell ⟨w.heap.size+1+1+1,2,none⟩ (.int .i64 occ)).setCell ⟨w.heap.size+1+1+1,3,none⟩ (.int .i64 od)).drew):=(((HF.out.2.1).setCell (p:=⟨w.heap.size+1+1+1,2,none⟩) (.inr (by show w.heap.size≤w.heap.size+1+1+1;omega)) _).setCell (p:=⟨w.heap.size+1+1+1,3,none⟩) (.inr (by show w.heap.size≤w.heap.size+1+1+1;omega)) _).drew
  have hf6:=(HF.out.1.put (by omega) (by omega) (by omega) (by have:=HL.out;omega) (by have:=HL.out;omega) (by have:=HL.out;omega) (by have:=HL.out;omega) occ od).upd0 (w':=((W.setCell ⟨w.heap.size+1+1+1,2,none⟩ (.int .i64 occ)).setCell ⟨w.heap.size+1+1+1,3,none⟩ (.int .i64 od)).drew) (Upd.refl [] _).drew
  have hs6:(((W.setCell ⟨w.heap.size+1+1+1,2,none⟩ (.int .i64 occ)).setCell ⟨w.heap.size+1+1+1,3,none⟩ (.int .i64 od)).drew).heap.size=w.heap.size+1+1+1+1:=by simp [World.setCell,World.drew];exact HF.out.2.2
  clear hS
  generalize (((W.setCell ⟨w.heap.size+1+1+1,2,none⟩ (.int .i64 occ)).setCell ⟨w.heap.size+1+1+1,3,none⟩ (.int .i64 od)).drew)=W6 at hf6 hu6 hs6 ⊢
  have HF6:=Lib.hid (And.intro hf6 (And.intro hu6 hs6))
  clear hf6 hu6 hs6
  have hch:=chosenPC p m.ps (fun q=>inBM ⟨oa,ob,occ,od,0⟩ q.x q.y) 72 #[.pointer (some ⟨w.heap.size+1+1+1,0,none⟩)] (enters_of Tryz.func72 (by kernel_rfl) rfl) W6 (HF6.out.1.md.ps) HG.out.1.ok.ps HG.out.2.1 (fun W' px py pi _ hW=>clo1C (w.heap.size+1+1+1) ⟨oa,ob,occ,od,0⟩ px py pi W' (HF6.out.1.box.upd0 hW))
  have hr:=HR.out
  unfold pointM at hr
  have hoc:oc=8:=by have:=HCC.out;omega
  have hask:askP m.ps ⟨oc,oa,ob,occ,od,oi⟩=fun q=>inBM ⟨oa,ob,occ,od,0⟩ q.x q.y:=by funext q;unfold askP;simp [hoc]
  rw [hask] at hr
  obtain ⟨L,hL⟩:∃L,namesM Pt.id m.ps (fun q=>inBM ⟨oa,ob,occ,od,0⟩ q.x q.y)=L:=⟨_,rfl⟩
  rw [hL] at hch hr
  obtain ⟨n,hn⟩:∃n,L.length=n:=⟨_,rfl⟩
  simp only [hn] at hch
  dsimp only at hr
  simp [hoc] at hr
  have HCH:=Lib.hid hch
  have HRR:=Lib.hid (And.intro hr hn)
  clear hch hr hask hL hn hoc
  have t2:(W6).cell? ⟨w.heap.size,0,none⟩=some (.pointer (some ⟨h,0,none⟩)):=HF6.out.1.pt 0 _ rfl
  have o0:(W6).cell? ⟨w.heap.size+1,0,none⟩=some (.int .u8 (oc:Int)):=HF6.out.1.op 0 _ rfl
  have o3:(W6).cell? ⟨w.heap.size+1,3,none⟩=some (.int .i64 occ):=HF6.out.1.op 3 _ rfl
  have o4:(W6).cell? ⟨w.heap.size+1,4,none⟩=some (.int .i64 od):=HF6.out.1.op 4 _ rfl
  have m1:(W6).cell? ⟨h,1,none⟩=some (.map (some p)):=HF6.out.1.md.cells.2.1
  have g2:(W6).cell? ⟨w.heap.size+1+1+1,2,none⟩=some (.int .i64 occ):=HF6.out.1.st.cell 2
  have g3:(W6).cell? ⟨w.heap.size+1+1+1,3,none⟩=some (.int .i64 od):=HF6.out.1.st.cell 3
  have e2:(W6).frozen? ⟨w.heap.size+1+1+1,2,none⟩=false:=HF6.out.1.st.frozen 2
  have e3:(W6).frozen? ⟨w.heap.size+1+1+1,3,none⟩=false:=HF6.out.1.st.frozen 3
  rw [HCC.out] at o0
  go_wp2_with fail
  clear t2 o0 o3 o4 m1 g2 g3 e2 e3
  (with_reducible refine HCH.out.mono ?_)
  rintro e w8 ⟨A,C,rfl,hrow,hu8⟩
  have HF8:=Lib.hid (HF6.out.1.upd0 hu8)
  have HW8:=Lib.hid (And.intro hrow hu8)
  have HRP:=Lib.hid HF8.out.rp
  clear hrow hu8
  have t2:(w8).cell? ⟨w.heap.size,0,none⟩=some (.pointer (some ⟨h,0,none⟩)):=HF8.out.pt 0 _ rfl
  have o0:(w8).cell? ⟨w.heap.size+1,0,none⟩=some (.int .u8 (oc:Int)):=HF8.out.op 0 _ rfl
  have o3:(w8).cell? ⟨w.heap.size+1,3,none⟩=some (.int .i64 occ):=HF8.out.op 3 _ rfl
  have o4:(w8).cell? ⟨w.heap.size+1,4,none⟩=some (.int .i64 od):=HF8.out.op 4 _ rfl
  have m1:(w8).cell? ⟨h,1,none⟩=some (.map (some p)):=HF8.out.md.cells.2.1
  have g2:(w8).cell? ⟨w.heap.size+1+1+1,2,none⟩=some (.int .i64 occ):=HF8.out.st.cell 2
  have g3:(w8).cell? ⟨w.heap.size+1+1+1,3,none⟩=some (.int .i64 od):=HF8.out.st.cell 3
  have e2:(w8).frozen? ⟨w.heap.size+1+1+1,2,none⟩=false:=HF8.out.st.frozen 2
  have e3:(w8).frozen? ⟨w.heap.size+1+1+1,3,none⟩=false:=HF8.out.st.frozen 3
  rw [HCC.out] at o0
  go_upto_region 23 with fail
  clear t2 o0 o3 o4 m1 g2 g3 e2 e3
  have f0:(w8).frozen? ⟨w.heap.size+1+1,0,none⟩=false:=HRP.out.frozen 0
  have f1:(w8).frozen? ⟨w.heap.size+1+1,1,none⟩=false:=HRP.out.frozen 1
  have f2:(w8).frozen? ⟨w.heap.size+1+1,2,none⟩=false:=HRP.out.frozen 2
  have f3:(w8).frozen? ⟨w.heap.size+1+1,3,none⟩=false:=HRP.out.frozen 3
  have f4:(w8).frozen? ⟨w.heap.size+1+1,4,none⟩=false:=HRP.out.frozen 4
  have f5:(w8).frozen? ⟨w.heap.size+1+1,5,none⟩=false:=HRP.out.frozen 5
  have c0:(w8).cell? ⟨w.heap.size+1+1,0,none⟩=some (.int .i64 0):=HRP.out.cell 0
  have c1:(w8).cell? ⟨w.heap.size+1+1,1,none⟩=some (.slice none 0 0):=HRP.out.cell 1
  have c2:(w8).cell? ⟨w.heap.size+1+1,2,none⟩=some (.int .i64 0):=HRP.out.cell 2
  have c3:(w8).cell? ⟨w.heap.size+1+1,3,none⟩=some (.bool false):=HRP.out.cell 3
  have c4:(w8).cell? ⟨w.heap.size+1+1,4,none⟩=some (.int .u64 0):=HRP.out.cell 4
  have c5:(w8).cell? ⟨w.heap.size+1+1,5,none⟩=some (.int .u64 0):=HRP.out.cell 5
  have HP:=Lib.hid (And.intro (HRP.out.put (.int .i64 0) (.slice none 0 0) (.int .i64 (n:Int)) (.bool false) (.int .u64 0) (.int .u64 0)) (upd_put (q:=w.heap.size+1+1) (Upd.refl [w.heap.size+1+1] (w8)) (.inl (by simp)) (.int .i64 0) (.slice none 0 0) (.int .i64 (n:Int)) (.bool false) (.int .u64 0) (.int .u64 0)))
  go_wp2_with fail
  have y0:=HP.out.1.cell 0
  have y1:=HP.out.1.cell 1
  have y2:=HP.out.1.cell 2
  have y3:=HP.out.1.cell 3
  have y4:=HP.out.1.cell 4
  have y5:=HP.out.1.cell 5
  simp only [List.getElem?_toArray,List.getElem?_cons_zero,List.getElem?_cons_succ] at y0 y1 y2 y3 y4 y5
  refine bodyPost_ret (v:=repV 0 n false (.slice none 0 0) 0 0) ?_ rfl ⟨_,rfl,?_,?_⟩
  ·simp [repV,results,Tryz.results34,go_sem,y0,y1,y2,y3,y4,y5]
  ·rw [←HRR.out.1,HRR.out.2];exact repAt_cnt _ _
  ·exact ((HF6.out.2.1.trans HW8.out.2).trans' HP.out.2 (fun k hk=>.inr (by simp at hk;omega)))
 ·have t2:(W).cell? ⟨w.heap.size,0,none⟩=some (.pointer (some ⟨h,0,none⟩)):=HF.out.1.pt 0 _ rfl
  have o0:(W).cell? ⟨w.heap.size+1,0,none⟩=some (.int .u8 (oc:Int)):=HF.out.1.op 0 _ rfl
  have o3:(W).cell? ⟨w.heap.size+1,3,none⟩=some (.int .i64 occ):=HF.out.1.op 3 _ rfl
  have o4:(W).cell? ⟨w.heap.size+1,4,none⟩=some (.int .i64 od):=HF.out.1.op 4 _ rfl
  have m1:(W).cell? ⟨h,1,none⟩=some (.map (some p)):=HF.out.1.md.cells.2.1
  have g2:(W).cell? ⟨w.heap.size+1+1+1,2,none⟩=some (.int .i64 (-9223372036854775808)):=HF.out.1.st.cell 2
  have g3:(W).cell? ⟨w.heap.size+1+1+1,3,none⟩=some (.int .i64 9223372036854775807):=HF.out.1.st.cell 3
  have e2:(W).frozen? ⟨w.heap.size+1+1+1,2,none⟩=false:=HF.out.1.st.frozen 2
  have e3:(W).frozen? ⟨w.heap.size+1+1+1,3,none⟩=false:=HF.out.1.st.frozen 3
  rw [HCC.out] at o0
  go_upto_region 11 with fail
  clear t2 o0 o3 o4 m1 g2 g3 e2 e3
  have hf6:=HF.out.1.put3 (by omega) (by omega) (by omega) (by have:=HL.out;omega) (by have:=HL.out;omega) (by have:=HL.out;omega) (by have:=HL.out;omega) occ
  have hu6:Upd [] w (W.setCell ⟨w.heap.size+1+1+1,3,none⟩ (.int .i64 occ)):=HF.out.2.1.setCell (p:=⟨w.heap.size+1+1+1,3,none⟩) (.inr (by show w.heap.size≤w.heap.size+1+1+1;omega)) _
  have hs6:(W.setCell ⟨w.heap.size+1+1+1,3,none⟩ (.int .i64 occ)).heap.size=w.heap.size+1+1+1+1:=by simp [World.setCell];exact HF.out.2.2
  generalize (W.setCell ⟨w.heap.size+1+1+1,3,none⟩ (.int .i64 occ))=W6 at hf6 hu6 hs6 ⊢
  have HF6:=Lib.hid (And.intro hf6 (And.intro hu6 hs6))
  clear hf6 hu6 hs6
  have hch:=chosenPC p m.ps (fun q=>inBM ⟨oa,ob,-9223372036854775808,occ,0⟩ q.x q.y) 73 #[.pointer (some ⟨w.heap.size+1+1+1,0,none⟩)] (enters_of Tryz.func73 (by kernel_rfl) rfl) W6 (HF6.out.1.md.ps) HG.out.1.ok.ps HG.out.2.1 (fun W' px py pi _ hW=>clo2C (w.heap.size+1+1+1) ⟨oa,ob,-9223372036854775808,occ,0⟩ px py pi W' (HF6.out.1.box.upd0 hW))
  have hr:=HR.out
  unfold pointM at hr
  have hoc:oc=9:=by have:=HCC.out;omega
  have hask:askP m.ps ⟨oc,oa,ob,occ,od,oi⟩=fun q=>inBM ⟨oa,ob,-9223372036854775808,occ,0⟩ q.x q.y:=by funext q;unfold askP;simp [hoc]
  rw [hask] at hr
  obtain ⟨L,hL⟩:∃L,namesM Pt.id m.ps (fun q=>inBM ⟨oa,ob,-9223372036854775808,occ,0⟩ q.x q.y)=L:=⟨_,rfl⟩
  rw [hL] at hch hr
  obtain ⟨n,hn⟩:∃n,L.length=n:=⟨_,rfl⟩
  simp only [hn] at hch
  dsimp only at hr
  simp [hoc] at hr
  have HCH:=Lib.hid hch
  have HRR:=Lib.hid (And.intro hr hn)
  clear hch hr hask hL hn hoc
  have t2:(W6).cell? ⟨w.heap.size,0,none⟩=some (.pointer (some ⟨h,0,none⟩)):=HF6.out.1.pt 0 _ rfl
  have o0:(W6).cell? ⟨w.heap.size+1,0,none⟩=some (.int .u8 (oc:Int)):=HF6.out.1.op 0 _ rfl
  have o3:(W6).cell? ⟨w.heap.size+1,3,none⟩=some (.int .i64 occ):=HF6.out.1.op 3 _ rfl
  have o4:(W6).cell? ⟨w.heap.size+1,4,none⟩=some (.int .i64 od):=HF6.out.1.op 4 _ rfl
  have m1:(W6).cell? ⟨h,1,none⟩=some (.map (some p)):=HF6.out.1.md.cells.2.1
  have g2:(W6).cell? ⟨w.heap.size+1+1+1,2,none⟩=some (.int .i64 (-9223372036854775808)):=HF6.out.1.st.cell 2
  have g3:(W6).cell? ⟨w.heap.size+1+1+1,3,none⟩=some (.int .i64 occ):=HF6.out.1.st.cell 3
  have e2:(W6).frozen? ⟨w.heap.size+1+1+1,2,none⟩=false:=HF6.out.1.st.frozen 2
  have e3:(W6).frozen? ⟨w.heap.size+1+1+1,3,none⟩=false:=HF6.out.1.st.frozen 3
  rw [HCC.out] at o0
  go_wp2_with fail
  clear t2 o0 o3 o4 m1 g2 g3 e2 e3
  (with_reducible refine HCH.out.mono ?_)
  rintro e w8 ⟨A,C,rfl,hrow,hu8⟩
  have HF8:=Lib.hid (HF6.out.1.upd0 hu8)
  have HW8:=Lib.hid (And.intro hrow hu8)
  have HRP:=Lib.hid HF8.out.rp
  clear hrow hu8
  have t2:(w8).cell? ⟨w.heap.size,0,none⟩=some (.pointer (some ⟨h,0,none⟩)):=HF8.out.pt 0 _ rfl
  have o0:(w8).cell? ⟨w.heap.size+1,0,none⟩=some (.int .u8 (oc:Int)):=HF8.out.op 0 _ rfl
  have o3:(w8).cell? ⟨w.heap.size+1,3,none⟩=some (.int .i64 occ):=HF8.out.op 3 _ rfl
  have o4:(w8).cell? ⟨w.heap.size+1,4,none⟩=some (.int .i64 od):=HF8.out.op 4 _ rfl
  have m1:(w8).cell? ⟨h,1,none⟩=some (.map (some p)):=HF8.out.md.cells.2.1
  have g2:(w8).cell? ⟨w.heap.size+1+1+1,2,none⟩=some (.int .i64 (-9223372036854775808)):=HF8.out.st.cell 2
  have g3:(w8).cell? ⟨w.heap.size+1+1+1,3,none⟩=some (.int .i64 occ):=HF8.out.st.cell 3
  have e2:(w8).frozen? ⟨w.heap.size+1+1+1,2,none⟩=false:=HF8.out.st.frozen 2
  have e3:(w8).frozen? ⟨w.heap.size+1+1+1,3,none⟩=false:=HF8.out.st.frozen 3
  rw [HCC.out] at o0
  go_upto_region 26 with fail
  clear t2 o0 o3 o4 m1 g2 g3 e2 e3
  have f0:(w8).frozen? ⟨w.heap.size+1+1,0,none⟩=false:=HRP.out.frozen 0
  have f1:(w8).frozen? ⟨w.heap.size+1+1,1,none⟩=false:=HRP.out.frozen 1
  have f2:(w8).frozen? ⟨w.heap.size+1+1,2,none⟩=false:=HRP.out.frozen 2
  have f3:(w8).frozen? ⟨w.heap.size+1+1,3,none⟩=false:=HRP.out.frozen 3
  have f4:(w8).frozen? ⟨w.heap.size+1+1,4,none⟩=false:=HRP.out.frozen 4
  have f5:(w8).frozen? ⟨w.heap.size+1+1,5,none⟩=false:=HRP.out.frozen 5
  have c0:(w8).cell? ⟨w.heap.size+1+1,0,none⟩=some (.int .i64 0):=HRP.out.cell 0
  have c1:(w8).cell? ⟨w.heap.size+1+1,1,none⟩=some (.slice none 0 0):=HRP.out.cell 1
  have c2:(w8).cell? ⟨w.heap.size+1+1,2,none⟩=some (.int .i64 0):=HRP.out.cell 2
  have c3:(w8).cell? ⟨w.heap.size+1+1,3,none⟩=some (.bool false):=HRP.out.cell 3
  have c4:(w8).cell? ⟨w.heap.size+1+1,4,none⟩=some (.int .u64 0):=HRP.out.cell 4
  have c5:(w8).cell? ⟨w.heap.size+1+1,5,none⟩=some (.int .u64 0):=HRP.out.cell 5
  have HP:=Lib.hid (And.intro (HRP.out.put (.int .i64 0) (.slice A n C) (.int .i64 0) (.bool false) (.int .u64 0) (.int .u64 0)) (upd_put (q:=w.heap.size+1+1) (Upd.refl [w.heap.size+1+1] (w8)) (.inl (by simp)) (.int .i64 0) (.slice A n C) (.int .i64 0) (.bool false) (.int .u64 0) (.int .u64 0)))
  go_wp2_with fail
  have y0:=HP.out.1.cell 0
  have y1:=HP.out.1.cell 1
  have y2:=HP.out.1.cell 2
  have y3:=HP.out.1.cell 3
  have y4:=HP.out.1.cell 4
  have y5:=HP.out.1.cell 5
  simp only [List.getElem?_toArray,List.getElem?_cons_zero,List.getElem?_cons_succ] at y0 y1 y2 y3 y4 y5
  refine bodyPost_ret (v:=repV 0 0 false (.slice A n C) 0 0) ?_ rfl ⟨_,rfl,?_,?_⟩
  ·simp [repV,results,Tryz.results34,go_sem,y0,y1,y2,y3,y4,y5]
  ·rw [←HRR.out.1];exact pnt_ids HRR.out.2 HW8.out.1 (by have:=HF6.out.2.2;omega) HP.out.2
  ·exact ((HF6.out.2.1.trans HW8.out.2).trans' HP.out.2 (fun k hk=>.inr (by simp at hk;omega)))
 ·have t2:(W).cell? ⟨w.heap.size,0,none⟩=some (.pointer (some ⟨h,0,none⟩)):=HF.out.1.pt 0 _ rfl
  have o0:(W).cell? ⟨w.heap.size+1,0,none⟩=some (.int .u8 (oc:Int)):=HF.out.1.op 0 _ rfl
  have o3:(W).cell? ⟨w.heap.size+1,3,none⟩=some (.int .i64 occ):=HF.out.1.op 3 _ rfl
  have o4:(W).cell? ⟨w.heap.size+1,4,none⟩=some (.int .i64 od):=HF.out.1.op 4 _ rfl
  have m1:(W).cell? ⟨h,1,none⟩=some (.map (some p)):=HF.out.1.md.cells.2.1
  have g2:(W).cell? ⟨w.heap.size+1+1+1,2,none⟩=some (.int .i64 (-9223372036854775808)):=HF.out.1.st.cell 2
  have g3:(W).cell? ⟨w.heap.size+1+1+1,3,none⟩=some (.int .i64 9223372036854775807):=HF.out.1.st.cell 3
  have e2:(W).frozen? ⟨w.heap.size+1+1+1,2,none⟩=false:=HF.out.1.st.frozen 2
  have e3:(W).frozen? ⟨w.heap.size+1+1+1,3,none⟩=false:=HF.out.1.st.frozen 3
  rw [HCC.out] at o0
  go_upto_region 11 with fail
  clear t2 o0 o3 o4 m1 g2 g3 e2 e3
  have hf6:=HF.out.1.put3 (by omega) (by omega) (by omega) (by have:=HL.out;omega) (by have:=HL.out;omega) (by have:=HL.out;omega) (by have:=HL.out;omega) occ
  have hu6:Upd [] w (W.setCell ⟨w.heap.size+1+1+1,3,none⟩ (.int .i64 occ)):=HF.out.2.1.setCell (p:=⟨w.heap.size+1+1+1,3,none⟩) (.inr (by show w.heap.size≤w.heap.size+1+1+1;omega)) _
  have hs6:(W.setCell ⟨w.heap.size+1+1+1,3,none⟩ (.int .i64 occ)).heap.size=w.heap.size+1+1+1+1:=by simp [World.setCell];exact HF.out.2.2
  generalize (W.setCell ⟨w.heap.size+1+1+1,3,none⟩ (.int .i64 occ))=W6 at hf6 hu6 hs6 ⊢
  have HF6:=Lib.hid (And.intro hf6 (And.intro hu6 hs6))
  clear hf6 hu6 hs6
  have hch:=chosenPC p m.ps (fun q=>inBM ⟨oa,ob,-9223372036854775808,occ,0⟩ q.x q.y) 73 #[.pointer (some ⟨w.heap.size+1+1+1,0,none⟩)] (enters_of Tryz.func73 (by kernel_rfl) rfl) W6 (HF6.out.1.md.ps) HG.out.1.ok.ps HG.out.2.1 (fun W' px py pi _ hW=>clo2C (w.heap.size+1+1+1) ⟨oa,ob,-9223372036854775808,occ,0⟩ px py pi W' (HF6.out.1.box.upd0 hW))
  have hr:=HR.out
  unfold pointM at hr
  have hoc:oc=10:=by have:=HCC.out;omega
  have hask:askP m.ps ⟨oc,oa,ob,occ,od,oi⟩=fun q=>inBM ⟨oa,ob,-9223372036854775808,occ,0⟩ q.x q.y:=by funext q;unfold askP;simp [hoc]
  rw [hask] at hr
  obtain ⟨L,hL⟩:∃L,namesM Pt.id m.ps (fun q=>inBM ⟨oa,ob,-9223372036854775808,occ,0⟩ q.x q.y)=L:=⟨_,rfl⟩
  rw [hL] at hch hr
  obtain ⟨n,hn⟩:∃n,L.length=n:=⟨_,rfl⟩
  simp only [hn] at hch
  dsimp only at hr
  simp [hoc] at hr
  have HCH:=Lib.hid hch
  have HRR:=Lib.hid (And.intro hr hn)
  clear hch hr hask hL hn hoc
  have t2:(W6).cell? ⟨w.heap.size,0,none⟩=some (.pointer (some ⟨h,0,none⟩)):=HF6.out.1.pt 0 _ rfl
  have o0:(W6).cell? ⟨w.heap.size+1,0,none⟩=some (.int .u8 (oc:Int)):=HF6.out.1.op 0 _ rfl
  have o3:(W6).cell? ⟨w.heap.size+1,3,none⟩=some (.int .i64 occ):=HF6.out.1.op 3 _ rfl
  have o4:(W6).cell? ⟨w.heap.size+1,4,none⟩=some (.int .i64 od):=HF6.out.1.op 4 _ rfl
  have m1:(W6).cell? ⟨h,1,none⟩=some (.map (some p)):=HF6.out.1.md.cells.2.1
  have g2:(W6).cell? ⟨w.heap.size+1+1+1,2,none⟩=some (.int .i64 (-9223372036854775808)):=HF6.out.1.st.cell 2
  have g3:(W6).cell? ⟨w.heap.size+1+1+1,3,none⟩=some (.int .i64 occ):=HF6.out.1.st.cell 3
  have e2:(W6).frozen? ⟨w.heap.size+1+1+1,2,none⟩=false:=HF6.out.1.st.frozen 2
  have e3:(W6).frozen? ⟨w.heap.size+1+1+1,3,none⟩=false:=HF6.out.1.st.frozen 3
  rw [HCC.out] at o0
  go_wp2_with fail
  clear t2 o0 o3 o4 m1 g2 g3 e2 e3
  (with_reducible refine HCH.out.mono ?_)
  rintro e w8 ⟨A,C,rfl,hrow,hu8⟩
  have HF8:=Lib.hid (HF6.out.1.upd0 hu8)
  have HW8:=Lib.hid (And.intro hrow hu8)
  have HRP:=Lib.hid HF8.out.rp
  clear hrow hu8
  have t2:(w8).cell? ⟨w.heap.size,0,none⟩=some (.pointer (some ⟨h,0,none⟩)):=HF8.out.pt 0 _ rfl
  have o0:(w8).cell? ⟨w.heap.size+1,0,none⟩=some (.int .u8 (oc:Int)):=HF8.out.op 0 _ rfl
  have o3:(w8).cell? ⟨w.heap.size+1,3,none⟩=some (.int .i64 occ):=HF8.out.op 3 _ rfl
  have o4:(w8).cell? ⟨w.heap.size+1,4,none⟩=some (.int .i64 od):=HF8.out.op 4 _ rfl
  have m1:(w8).cell? ⟨h,1,none⟩=some (.map (some p)):=HF8.out.md.cells.2.1
  have g2:(w8).cell? ⟨w.heap.size+1+1+1,2,none⟩=some (.int .i64 (-9223372036854775808)):=HF8.out.st.cell 2
  have g3:(w8).cell? ⟨w.heap.size+1+1+1,3,none⟩=some (.int .i64 occ):=HF8.out.st.cell 3
  have e2:(w8).frozen? ⟨w.heap.size+1+1+1,2,none⟩=false:=HF8.out.st.frozen 2
  have e3:(w8).frozen? ⟨w.heap.size+1+1+1,3,none⟩=false:=HF8.out.st.frozen 3
  rw [HCC.out] at o0
  obtain ⟨y,hy⟩:∃y,decide (0<n)=y:=⟨_,rfl⟩
  have HY:=Lib.hid hy
  go_upto_region 25 with fail
  clear t2 o0 o3 o4 m1 g2 g3 e2 e3
  have f0:(w8).frozen? ⟨w.heap.size+1+1,0,none⟩=false:=HRP.out.frozen 0
  have f1:(w8).frozen? ⟨w.heap.size+1+1,1,none⟩=false:=HRP.out.frozen 1
  have f2:(w8).frozen? ⟨w.heap.size+1+1,2,none⟩=false:=HRP.out.frozen 2
  have f3:(w8).frozen? ⟨w.heap.size+1+1,3,none⟩=false:=HRP.out.frozen 3
  have f4:(w8).frozen? ⟨w.heap.size+1+1,4,none⟩=false:=HRP.out.frozen 4
  have f5:(w8).frozen? ⟨w.heap.size+1+1,5,none⟩=false:=HRP.out.frozen 5
  have c0:(w8).cell? ⟨w.heap.size+1+1,0,none⟩=some (.int .i64 0):=HRP.out.cell 0
  have c1:(w8).cell? ⟨w.heap.size+1+1,1,none⟩=some (.slice none 0 0):=HRP.out.cell 1
  have c2:(w8).cell? ⟨w.heap.size+1+1,2,none⟩=some (.int .i64 0):=HRP.out.cell 2
  have c3:(w8).cell? ⟨w.heap.size+1+1,3,none⟩=some (.bool false):=HRP.out.cell 3
  have c4:(w8).cell? ⟨w.heap.size+1+1,4,none⟩=some (.int .u64 0):=HRP.out.cell 4
  have c5:(w8).cell? ⟨w.heap.size+1+1,5,none⟩=some (.int .u64 0):=HRP.out.cell 5
  have HP:=Lib.hid (And.intro (HRP.out.put (.int .i64 0) (.slice none 0 0) (.int .i64 0) (.bool y) (.int .u64 0) (.int .u64 0)) (upd_put (q:=w.heap.size+1+1) (Upd.refl [w.heap.size+1+1] (w8)) (.inl (by simp)) (.int .i64 0) (.slice none 0 0) (.int .i64 0) (.bool y) (.int .u64 0) (.int .u64 0)))
  go_wp2_with fail
  have y0:=HP.out.1.cell 0
  have y1:=HP.out.1.cell 1
  have y2:=HP.out.1.cell 2
  have y3:=HP.out.1.cell 3
  have y4:=HP.out.1.cell 4
  have y5:=HP.out.1.cell 5
  simp only [List.getElem?_toArray,List.getElem?_cons_zero,List.getElem?_cons_succ] at y0 y1 y2 y3 y4 y5
  clear hy
  refine bodyPost_ret (v:=repV 0 0 y (.slice none 0 0) 0 0) ?_ rfl ⟨_,rfl,?_,?_⟩
  ·simp [repV,results,Tryz.results34,go_sem,y0,y1,y2,y3,y4,y5]
  ·rw [←HRR.out.1];have e:y=decide (0<L.length):=(by rw [←HY.out,HRR.out.2]);rw [e];exact repAt_yes _ _
  ·exact ((HF6.out.2.1.trans HW8.out.2).trans' HP.out.2 (fun k hk=>.inr (by simp at hk;omega)))
 ·have hch:=chosenPC p m.ps (fun q=>cornB q oa ob occ) 74 #[.pointer (some ⟨w.heap.size+1,0,none⟩)] (enters_of Tryz.func74 (by kernel_rfl) rfl) W (HF.out.1.md.ps) HG.out.1.ok.ps HG.out.2.1 (fun W' px py pi _ hW=>clo3C (w.heap.size+1) ⟨oc,oa,ob,occ,od,oi⟩ px py pi W' (HF.out.1.op.upd0 hW))
  have hr:=HR.out
  unfold pointM at hr
  have hoc:oc=11:=by have:=HCC.out;omega
  have hask:askP m.ps ⟨oc,oa,ob,occ,od,oi⟩=fun q=>cornB q oa ob occ:=by funext q;unfold askP;simp [hoc]
  rw [hask] at hr
  obtain ⟨L,hL⟩:∃L,namesM Pt.id m.ps (fun q=>cornB q oa ob occ)=L:=⟨_,rfl⟩
  rw [hL] at hch hr
  obtain ⟨n,hn⟩:∃n,L.length=n:=⟨_,rfl⟩
  simp only [hn] at hch
  dsimp only at hr
  simp [hoc] at hr
  have HCH:=Lib.hid hch
  have HRR:=Lib.hid (And.intro hr hn)
  clear hch hr hask hL hn hoc
  have t2:(W).cell? ⟨w.heap.size,0,none⟩=some (.pointer (some ⟨h,0,none⟩)):=HF.out.1.pt 0 _ rfl
  have o0:(W).cell? ⟨w.heap.size+1,0,none⟩=some (.int .u8 (oc:Int)):=HF.out.1.op 0 _ rfl
  have o3:(W).cell? ⟨w.heap.size+1,3,none⟩=some (.int .i64 occ):=HF.out.1.op 3 _ rfl
  have o4:(W).cell? ⟨w.heap.size+1,4,none⟩=some (.int .i64 od):=HF.out.1.op 4 _ rfl
  have m1:(W).cell? ⟨h,1,none⟩=some (.map (some p)):=HF.out.1.md.cells.2.1
  have g2:(W).cell? ⟨w.heap.size+1+1+1,2,none⟩=some (.int .i64 (-9223372036854775808)):=HF.out.1.st.cell 2
  have g3:(W).cell? ⟨w.heap.size+1+1+1,3,none⟩=some (.int .i64 9223372036854775807):=HF.out.1.st.cell 3
  have e2:(W).frozen? ⟨w.heap.size+1+1+1,2,none⟩=false:=HF.out.1.st.frozen 2
  have e3:(W).frozen? ⟨w.heap.size+1+1+1,3,none⟩=false:=HF.out.1.st.frozen 3
  rw [HCC.out] at o0
  go_wp2_with fail
  clear t2 o0 o3 o4 m1 g2 g3 e2 e3
  (with_reducible refine HCH.out.mono ?_)
  rintro e w8 ⟨A,C,rfl,hrow,hu8⟩
  have HF8:=Lib.hid (HF.out.1.upd0 hu8)
  have HW8:=Lib.hid (And.intro hrow hu8)
  have HRP:=Lib.hid HF8.out.rp
  clear hrow hu8
  have t2:(w8).cell? ⟨w.heap.size,0,none⟩=some (.pointer (some ⟨h,0,none⟩)):=HF8.out.pt 0 _ rfl
  have o0:(w8).cell? ⟨w.heap.size+1,0,none⟩=some (.int .u8 (oc:Int)):=HF8.out.op 0 _ rfl
  have o3:(w8).cell? ⟨w.heap.size+1,3,none⟩=some (.int .i64 occ):=HF8.out.op 3 _ rfl
  have o4:(w8).cell? ⟨w.heap.size+1,4,none⟩=some (.int .i64 od):=HF8.out.op 4 _ rfl
  have m1:(w8).cell? ⟨h,1,none⟩=some (.map (some p)):=HF8.out.md.cells.2.1
  have g2:(w8).cell? ⟨w.heap.size+1+1+1,2,none⟩=some (.int .i64 (-9223372036854775808)):=HF8.out.st.cell 2
  have g3:(w8).cell? ⟨w.heap.size+1+1+1,3,none⟩=some (.int .i64 9223372036854775807):=HF8.out.st.cell 3
  have e2:(w8).frozen? ⟨w.heap.size+1+1+1,2,none⟩=false:=HF8.out.st.frozen 2
  have e3:(w8).frozen? ⟨w.heap.size+1+1+1,3,none⟩=false:=HF8.out.st.frozen 3
  rw [HCC.out] at o0
  go_upto_region 26 with fail
  clear t2 o0 o3 o4 m1 g2 g3 e2 e3
  have f0:(w8).frozen? ⟨w.heap.size+1+1,0,none⟩=false:=HRP.out.frozen 0
  have f1:(w8).frozen? ⟨w.heap.size+1+1,1,none⟩=false:=HRP.out.frozen 1
  have f2:(w8).frozen? ⟨w.heap.size+1+1,2,none⟩=false:=HRP.out.frozen 2
  have f3:(w8).frozen? ⟨w.heap.size+1+1,3,none⟩=false:=HRP.out.frozen 3
  have f4:(w8).frozen? ⟨w.heap.size+1+1,4,none⟩=false:=HRP.out.frozen 4
  have f5:(w8).frozen? ⟨w.heap.size+1+1,5,none⟩=false:=HRP.out.frozen 5
  have c0:(w8).cell? ⟨w.heap.size+1+1,0,none⟩=some (.int .i64 0):=HRP.out.cell 0
  have c1:(w8).cell? ⟨w.heap.size+1+1,1,none⟩=some (.slice none 0 0):=HRP.out.cell 1
  have c2:(w8).cell? ⟨w.heap.size+1+1,2,none⟩=some (.int .i64 0):=HRP.out.cell 2
  have c3:(w8).cell? ⟨w.heap.size+1+1,3,none⟩=some (.bool false):=HRP.out.cell 3
  have c4:(w8).cell? ⟨w.heap.size+1+1,4,none⟩=some (.int .u64 0):=HRP.out.cell 4
  have c5:(w8).cell? ⟨w.heap.size+1+1,5,none⟩=some (.int .u64 0):=HRP.out.cell 5
  have HP:=Lib.hid (And.intro (HRP.out.put (.int .i64 0) (.slice A n C) (.int .i64 0) (.bool false) (.int .u64 0) (.int .u64 0)) (upd_put (q:=w.heap.size+1+1) (Upd.refl [w.heap.size+1+1] (w8)) (.inl (by simp)) (.int .i64 0) (.slice A n C) (.int .i64 0) (.bool false) (.int .u64 0) (.int .u64 0)))
  go_wp2_with fail
  have y0:=HP.out.1.cell 0
  have y1:=HP.out.1.cell 1
  have y2:=HP.out.1.cell 2
  have y3:=HP.out.1.cell 3
  have y4:=HP.out.1.cell 4
  have y5:=HP.out.1.cell 5
  simp only [List.getElem?_toArray,List.getElem?_cons_zero,List.getElem?_cons_succ] at y0 y1 y2 y3 y4 y5
  refine bodyPost_ret (v:=repV 0 0 false (.slice A n C) 0 0) ?_ rfl ⟨_,rfl,?_,?_⟩
  ·simp [repV,results,Tryz.results34,go_sem,y0,y1,y2,y3,y4,y5]
  ·rw [←HRR.out.1];exact pnt_ids HRR.out.2 HW8.out.1 (by have:=HF.out.2.2;omega) HP.out.2
  ·exact ((HF.out.2.1.trans HW8.out.2).trans' HP.out.2 (fun k hk=>.inr (by simp at hk;omega)))
 ·have hch:=chosenPC p m.ps (fun q=>cornB q oa ob occ) 74 #[.pointer (some ⟨w.heap.size+1,0,none⟩)] (enters_of Tryz.func74 (by kernel_rfl) rfl) W (HF.out.1.md.ps) HG.out.1.ok.ps HG.out.2.1 (fun W' px py pi _ hW=>clo3C (w.heap.size+1) ⟨oc,oa,ob,occ,od,oi⟩ px py pi W' (HF.out.1.op.upd0 hW))
  have hr:=HR.out
  unfold pointM at hr
  have hoc:oc=12:=by have:=HCC.out;omega
  have hask:askP m.ps ⟨oc,oa,ob,occ,od,oi⟩=fun q=>cornB q oa ob occ:=by funext q;unfold askP;simp [hoc]
  rw [hask] at hr
  obtain ⟨L,hL⟩:∃L,namesM Pt.id m.ps (fun q=>cornB q oa ob occ)=L:=⟨_,rfl⟩
  rw [hL] at hch hr
  obtain ⟨n,hn⟩:∃n,L.length=n:=⟨_,rfl⟩
  simp only [hn] at hch
  dsimp only at hr
  simp [hoc] at hr
  have HCH:=Lib.hid hch
  have HRR:=Lib.hid (And.intro hr hn)
  clear hch hr hask hL hn hoc
  have t2:(W).cell? ⟨w.heap.size,0,none⟩=some (.pointer (some ⟨h,0,none⟩)):=HF.out.1.pt 0 _ rfl
  have o0:(W).cell? ⟨w.heap.size+1,0,none⟩=some (.int .u8 (oc:Int)):=HF.out.1.op 0 _ rfl
  have o3:(W).cell? ⟨w.heap.size+1,3,none⟩=some (.int .i64 occ):=HF.out.1.op 3 _ rfl
  have o4:(W).cell? ⟨w.heap.size+1,4,none⟩=some (.int .i64 od):=HF.out.1.op 4 _ rfl
  have m1:(W).cell? ⟨h,1,none⟩=some (.map (some p)):=HF.out.1.md.cells.2.1
  have g2:(W).cell? ⟨w.heap.size+1+1+1,2,none⟩=some (.int .i64 (-9223372036854775808)):=HF.out.1.st.cell 2
  have g3:(W).cell? ⟨w.heap.size+1+1+1,3,none⟩=some (.int .i64 9223372036854775807):=HF.out.1.st.cell 3
  have e2:(W).frozen? ⟨w.heap.size+1+1+1,2,none⟩=false:=HF.out.1.st.frozen 2
  have e3:(W).frozen? ⟨w.heap.size+1+1+1,3,none⟩=false:=HF.out.1.st.frozen 3
  rw [HCC.out] at o0
  go_wp2_with fail
  clear t2 o0 o3 o4 m1 g2 g3 e2 e3
  (with_reducible refine HCH.out.mono ?_)
  rintro e w8 ⟨A,C,rfl,hrow,hu8⟩
  have HF8:=Lib.hid (HF.out.1.upd0 hu8)
  have HW8:=Lib.hid (And.intro hrow hu8)
  have HRP:=Lib.hid HF8.out.rp
  clear hrow hu8
  have t2:(w8).cell? ⟨w.heap.size,0,none⟩=some (.pointer (some ⟨h,0,none⟩)):=HF8.out.pt 0 _ rfl
  have o0:(w8).cell? ⟨w.heap.size+1,0,none⟩=some (.int .u8 (oc:Int)):=HF8.out.op 0 _ rfl
  have o3:(w8).cell? ⟨w.heap.size+1,3,none⟩=some (.int .i64 occ):=HF8.out.op 3 _ rfl
  have o4:(w8).cell? ⟨w.heap.size+1,4,none⟩=some (.int .i64 od):=HF8.out.op 4 _ rfl
  have m1:(w8).cell? ⟨h,1,none⟩=some (.map (some p)):=HF8.out.md.cells.2.1
  have g2:(w8).cell? ⟨w.heap.size+1+1+1,2,none⟩=some (.int .i64 (-9223372036854775808)):=HF8.out.st.cell 2
  have g3:(w8).cell? ⟨w.heap.size+1+1+1,3,none⟩=some (.int .i64 9223372036854775807):=HF8.out.st.cell 3
  have e2:(w8).frozen? ⟨w.heap.size+1+1+1,2,none⟩=false:=HF8.out.st.frozen 2
  have e3:(w8).frozen? ⟨w.heap.size+1+1+1,3,none⟩=false:=HF8.out.st.frozen 3
  rw [HCC.out] at o0
  go_upto_region 23 with fail
  clear t2 o0 o3 o4 m1 g2 g3 e2 e3
  have f0:(w8).frozen? ⟨w.heap.size+1+1,0,none⟩=false:=HRP.out.frozen 0
  have f1:(w8).frozen? ⟨w.heap.size+1+1,1,none⟩=false:=HRP.out.frozen 1
  have f2:(w8).frozen? ⟨w.heap.size+1+1,2,none⟩=false:=HRP.out.frozen 2
  have f3:(w8).frozen? ⟨w.heap.size+1+1,3,none⟩=false:=HRP.out.frozen 3
  have f4:(w8).frozen? ⟨w.heap.size+1+1,4,none⟩=false:=HRP.out.frozen 4
  have f5:(w8).frozen? ⟨w.heap.size+1+1,5,none⟩=false:=HRP.out.frozen 5
  have c0:(w8).cell? ⟨w.heap.size+1+1,0,none⟩=some (.int .i64 0):=HRP.out.cell 0
  have c1:(w8).cell? ⟨w.heap.size+1+1,1,none⟩=some (.slice none 0 0):=HRP.out.cell 1
  have c2:(w8).cell? ⟨w.heap.size+1+1,2,none⟩=some (.int .i64 0):=HRP.out.cell 2
  have c3:(w8).cell? ⟨w.heap.size+1+1,3,none⟩=some (.bool false):=HRP.out.cell 3
  have c4:(w8).cell? ⟨w.heap.size+1+1,4,none⟩=some (.int .u64 0):=HRP.out.cell 4
  have c5:(w8).cell? ⟨w.heap.size+1+1,5,none⟩=some (.int .u64 0):=HRP.out.cell 5
  have HP:=Lib.hid (And.intro (HRP.out.put (.int .i64 0) (.slice none 0 0) (.int .i64 (n:Int)) (.bool false) (.int .u64 0) (.int .u64 0)) (upd_put (q:=w.heap.size+1+1) (Upd.refl [w.heap.size+1+1] (w8)) (.inl (by simp)) (.int .i64 0) (.slice none 0 0) (.int .i64 (n:Int)) (.bool false) (.int .u64 0) (.int .u64 0)))
  go_wp2_with fail
  have y0:=HP.out.1.cell 0
  have y1:=HP.out.1.cell 1
  have y2:=HP.out.1.cell 2
  have y3:=HP.out.1.cell 3
  have y4:=HP.out.1.cell 4
  have y5:=HP.out.1.cell 5
  simp only [List.getElem?_toArray,List.getElem?_cons_zero,List.getElem?_cons_succ] at y0 y1 y2 y3 y4 y5
  refine bodyPost_ret (v:=repV 0 n false (.slice none 0 0) 0 0) ?_ rfl ⟨_,rfl,?_,?_⟩
  ·simp [repV,results,Tryz.results34,go_sem,y0,y1,y2,y3,y4,y5]
  ·rw [←HRR.out.1,HRR.out.2];exact repAt_cnt _ _
  ·exact ((HF.out.2.1.trans HW8.out.2).trans' HP.out.2 (fun k hk=>.inr (by simp at hk;omega)))
 ·have hch:=chosenPC p m.ps (fun r=>inBM ⟨oa,ob,-9223372036854775808,9223372036854775807,0⟩ r.x r.y&&(namesM Pt.id m.ps fun q=>inBM ⟨oa,ob,-9223372036854775808,9223372036854775807,0⟩ q.x q.y&&lowB q r).isEmpty) 76 #[.pointer (some ⟨w.heap.size+1+1+1,0,none⟩),.pointer (some ⟨w.heap.size,0,none⟩)] (enters_of Tryz.func76 (by kernel_rfl) rfl) W (HF.out.1.md.ps) HG.out.1.ok.ps HG.out.2.1 (fun W' px py pi _ hW=>clo4C (w.heap.size+1+1+1) w.heap.size h p ⟨oa,ob,-9223372036854775808,9223372036854775807,0⟩ m.ps px py pi W' (HF.out.1.box.upd0 hW) (HF.out.1.pt.upd0 hW) ((HF.out.1.md.upd0 hW).cells.2.1) ((HF.out.1.md.upd0 hW).ps) HG.out.1.ok.ps HG.out.2.1)
  have hr:=HR.out
  unfold pointM at hr
  have hoc:oc=13:=by have:=HCC.out;omega
  have hask:askP m.ps ⟨oc,oa,ob,occ,od,oi⟩=fun r=>inBM ⟨oa,ob,-9223372036854775808,9223372036854775807,0⟩ r.x r.y&&(namesM Pt.id m.ps fun q=>inBM ⟨oa,ob,-9223372036854775808,9223372036854775807,0⟩ q.x q.y&&lowB q r).isEmpty:=by funext q;unfold askP;simp [hoc]
  rw [hask] at hr
  obtain ⟨L,hL⟩:∃L,namesM Pt.id m.ps (fun r=>inBM ⟨oa,ob,-9223372036854775808,9223372036854775807,0⟩ r.x r.y&&(namesM Pt.id m.ps fun q=>inBM ⟨oa,ob,-9223372036854775808,9223372036854775807,0⟩ q.x q.y&&lowB q r).isEmpty)=L:=⟨_,rfl⟩
  rw [hL] at hch hr
  obtain ⟨n,hn⟩:∃n,L.length=n:=⟨_,rfl⟩
  simp only [hn] at hch
  dsimp only at hr
  simp [hoc] at hr
  have HCH:=Lib.hid hch
  have HRR:=Lib.hid (And.intro hr hn)
  clear hch hr hask hL hn hoc
  have t2:(W).cell? ⟨w.heap.size,0,none⟩=some (.pointer (some ⟨h,0,none⟩)):=HF.out.1.pt 0 _ rfl
  have o0:(W).cell? ⟨w.heap.size+1,0,none⟩=some (.int .u8 (oc:Int)):=HF.out.1.op 0 _ rfl
  have o3:(W).cell? ⟨w.heap.size+1,3,none⟩=some (.int .i64 occ):=HF.out.1.op 3 _ rfl
  have o4:(W).cell? ⟨w.heap.size+1,4,none⟩=some (.int .i64 od):=HF.out.1.op 4 _ rfl
  have m1:(W).cell? ⟨h,1,none⟩=some (.map (some p)):=HF.out.1.md.cells.2.1
  have g2:(W).cell? ⟨w.heap.size+1+1+1,2,none⟩=some (.int .i64 (-9223372036854775808)):=HF.out.1.st.cell 2
  have g3:(W).cell? ⟨w.heap.size+1+1+1,3,none⟩=some (.int .i64 9223372036854775807):=HF.out.1.st.cell 3
  have e2:(W).frozen? ⟨w.heap.size+1+1+1,2,none⟩=false:=HF.out.1.st.frozen 2
  have e3:(W).frozen? ⟨w.heap.size+1+1+1,3,none⟩=false:=HF.out.1.st.frozen 3
  rw [HCC.out] at o0
  go_wp2_with fail
  clear t2 o0 o3 o4 m1 g2 g3 e2 e3
  (with_reducible refine HCH.out.mono ?_)
  rintro e w8 ⟨A,C,rfl,hrow,hu8⟩
  have HF8:=Lib.hid (HF.out.1.upd0 hu8)
  have HW8:=Lib.hid (And.intro hrow hu8)
  have HRP:=Lib.hid HF8.out.rp
  clear hrow hu8
  have t2:(w8).cell? ⟨w.heap.size,0,none⟩=some (.pointer (some ⟨h,0,none⟩)):=HF8.out.pt 0 _ rfl
  have o0:(w8).cell? ⟨w.heap.size+1,0,none⟩=some (.int .u8 (oc:Int)):=HF8.out.op 0 _ rfl
  have o3:(w8).cell? ⟨w.heap.size+1,3,none⟩=some (.int .i64 occ):=HF8.out.op 3 _ rfl
  have o4:(w8).cell? ⟨w.heap.size+1,4,none⟩=some (.int .i64 od):=HF8.out.op 4 _ rfl
  have m1:(w8).cell? ⟨h,1,none⟩=some (.map (some p)):=HF8.out.md.cells.2.1
  have g2:(w8).cell? ⟨w.heap.size+1+1+1,2,none⟩=some (.int .i64 (-9223372036854775808)):=HF8.out.st.cell 2
  have g3:(w8).cell? ⟨w.heap.size+1+1+1,3,none⟩=some (.int .i64 9223372036854775807):=HF8.out.st.cell 3
  have e2:(w8).frozen? ⟨w.heap.size+1+1+1,2,none⟩=false:=HF8.out.st.frozen 2
  have e3:(w8).frozen? ⟨w.heap.size+1+1+1,3,none⟩=false:=HF8.out.st.frozen 3
  rw [HCC.out] at o0
  go_upto_region 26 with fail
  clear t2 o0 o3 o4 m1 g2 g3 e2 e3
  have f0:(w8).frozen? ⟨w.heap.size+1+1,0,none⟩=false:=HRP.out.frozen 0
  have f1:(w8).frozen? ⟨w.heap.size+1+1,1,none⟩=false:=HRP.out.frozen 1
  have f2:(w8).frozen? ⟨w.heap.size+1+1,2,none⟩=false:=HRP.out.frozen 2
  have f3:(w8).frozen? ⟨w.heap.size+1+1,3,none⟩=false:=HRP.out.frozen 3
  have f4:(w8).frozen? ⟨w.heap.size+1+1,4,none⟩=false:=HRP.out.frozen 4
  have f5:(w8).frozen? ⟨w.heap.size+1+1,5,none⟩=false:=HRP.out.frozen 5
  have c0:(w8).cell? ⟨w.heap.size+1+1,0,none⟩=some (.int .i64 0):=HRP.out.cell 0
  have c1:(w8).cell? ⟨w.heap.size+1+1,1,none⟩=some (.slice none 0 0):=HRP.out.cell 1
  have c2:(w8).cell? ⟨w.heap.size+1+1,2,none⟩=some (.int .i64 0):=HRP.out.cell 2
  have c3:(w8).cell? ⟨w.heap.size+1+1,3,none⟩=some (.bool false):=HRP.out.cell 3
  have c4:(w8).cell? ⟨w.heap.size+1+1,4,none⟩=some (.int .u64 0):=HRP.out.cell 4
  have c5:(w8).cell? ⟨w.heap.size+1+1,5,none⟩=some (.int .u64 0):=HRP.out.cell 5
  have HP:=Lib.hid (And.intro (HRP.out.put (.int .i64 0) (.slice A n C) (.int .i64 0) (.bool false) (.int .u64 0) (.int .u64 0)) (upd_put (q:=w.heap.size+1+1) (Upd.refl [w.heap.size+1+1] (w8)) (.inl (by simp)) (.int .i64 0) (.slice A n C) (.int .i64 0) (.bool false) (.int .u64 0) (.int .u64 0)))
  go_wp2_with fail
  have y0:=HP.out.1.cell 0
  have y1:=HP.out.1.cell 1
  have y2:=HP.out.1.cell 2
  have y3:=HP.out.1.cell 3
  have y4:=HP.out.1.cell 4
  have y5:=HP.out.1.cell 5
  simp only [List.getElem?_toArray,List.getElem?_cons_zero,List.getElem?_cons_succ] at y0 y1 y2 y3 y4 y5
  refine bodyPost_ret (v:=repV 0 0 false (.slice A n C) 0 0) ?_ rfl ⟨_,rfl,?_,?_⟩
  ·simp [repV,results,Tryz.results34,go_sem,y0,y1,y2,y3,y4,y5]
  ·rw [←HRR.out.1];exact pnt_ids HRR.out.2 HW8.out.1 (by have:=HF.out.2.2;omega) HP.out.2
  ·exact ((HF.out.2.1.trans HW8.out.2).trans' HP.out.2 (fun k hk=>.inr (by simp at hk;omega)))
 ·have hch:=chosenPC p m.ps (fun r=>(namesM Pt.id m.ps fun q=>overB q r).isEmpty) 79 #[.pointer (some ⟨w.heap.size,0,none⟩)] (enters_of Tryz.func79 (by kernel_rfl) rfl) W (HF.out.1.md.ps) HG.out.1.ok.ps HG.out.2.1 (fun W' px py pi _ hW=>clo5C w.heap.size h p m.ps px py pi W' (HF.out.1.pt.upd0 hW) ((HF.out.1.md.upd0 hW).cells.2.1) ((HF.out.1.md.upd0 hW).ps) HG.out.1.ok.ps HG.out.2.1)
  have hr:=HR.out
  unfold pointM at hr
  have hoc:oc=14:=by have:=HCC.out;omega
  have hask:askP m.ps ⟨oc,oa,ob,occ,od,oi⟩=fun r=>(namesM Pt.id m.ps fun q=>overB q r).isEmpty:=by funext q;unfold askP;simp [hoc]
  rw [hask] at hr
  obtain ⟨L,hL⟩:∃L,namesM Pt.id m.ps (fun r=>(namesM Pt.id m.ps fun q=>overB q r).isEmpty)=L:=⟨_,rfl⟩
  rw [hL] at hch hr
  obtain ⟨n,hn⟩:∃n,L.length=n:=⟨_,rfl⟩
  simp only [hn] at hch
  dsimp only at hr
  simp [hoc] at hr
  have HCH:=Lib.hid hch
  have HRR:=Lib.hid (And.intro hr hn)
  clear hch hr hask hL hn hoc
  have t2:(W).cell? ⟨w.heap.size,0,none⟩=some (.pointer (some ⟨h,0,none⟩)):=HF.out.1.pt 0 _ rfl
  have o0:(W).cell? ⟨w.heap.size+1,0,none⟩=some (.int .u8 (oc:Int)):=HF.out.1.op 0 _ rfl
  have o3:(W).cell? ⟨w.heap.size+1,3,none⟩=some (.int .i64 occ):=HF.out.1.op 3 _ rfl
  have o4:(W).cell? ⟨w.heap.size+1,4,none⟩=some (.int .i64 od):=HF.out.1.op 4 _ rfl
  have m1:(W).cell? ⟨h,1,none⟩=some (.map (some p)):=HF.out.1.md.cells.2.1
  have g2:(W).cell? ⟨w.heap.size+1+1+1,2,none⟩=some (.int .i64 (-9223372036854775808)):=HF.out.1.st.cell 2
  have g3:(W).cell? ⟨w.heap.size+1+1+1,3,none⟩=some (.int .i64 9223372036854775807):=HF.out.1.st.cell 3
  have e2:(W).frozen? ⟨w.heap.size+1+1+1,2,none⟩=false:=HF.out.1.st.frozen 2
  have e3:(W).frozen? ⟨w.heap.size+1+1+1,3,none⟩=false:=HF.out.1.st.frozen 3
  rw [HCC.out] at o0
  go_wp2_with fail
  clear t2 o0 o3 o4 m1 g2 g3 e2 e3
  (with_reducible refine HCH.out.mono ?_)
  rintro e w8 ⟨A,C,rfl,hrow,hu8⟩
  have HF8:=Lib.hid (HF.out.1.upd0 hu8)
  have HW8:=Lib.hid (And.intro hrow hu8)
  have HRP:=Lib.hid HF8.out.rp
  clear hrow hu8
  have t2:(w8).cell? ⟨w.heap.size,0,none⟩=some (.pointer (some ⟨h,0,none⟩)):=HF8.out.pt 0 _ rfl
  have o0:(w8).cell? ⟨w.heap.size+1,0,none⟩=some (.int .u8 (oc:Int)):=HF8.out.op 0 _ rfl
  have o3:(w8).cell? ⟨w.heap.size+1,3,none⟩=some (.int .i64 occ):=HF8.out.op 3 _ rfl
  have o4:(w8).cell? ⟨w.heap.size+1,4,none⟩=some (.int .i64 od):=HF8.out.op 4 _ rfl
  have m1:(w8).cell? ⟨h,1,none⟩=some (.map (some p)):=HF8.out.md.cells.2.1
  have g2:(w8).cell? ⟨w.heap.size+1+1+1,2,none⟩=some (.int .i64 (-9223372036854775808)):=HF8.out.st.cell 2
  have g3:(w8).cell? ⟨w.heap.size+1+1+1,3,none⟩=some (.int .i64 9223372036854775807):=HF8.out.st.cell 3
  have e2:(w8).frozen? ⟨w.heap.size+1+1+1,2,none⟩=false:=HF8.out.st.frozen 2
  have e3:(w8).frozen? ⟨w.heap.size+1+1+1,3,none⟩=false:=HF8.out.st.frozen 3
  rw [HCC.out] at o0
  go_upto_region 26 with fail
  clear t2 o0 o3 o4 m1 g2 g3 e2 e3
  have f0:(w8).frozen? ⟨w.heap.size+1+1,0,none⟩=false:=HRP.out.frozen 0
  have f1:(w8).frozen? ⟨w.heap.size+1+1,1,none⟩=false:=HRP.out.frozen 1
  have f2:(w8).frozen? ⟨w.heap.size+1+1,2,none⟩=false:=HRP.out.frozen 2
  have f3:(w8).frozen? ⟨w.heap.size+1+1,3,none⟩=false:=HRP.out.frozen 3
  have f4:(w8).frozen? ⟨w.heap.size+1+1,4,none⟩=false:=HRP.out.frozen 4
  have f5:(w8).frozen? ⟨w.heap.size+1+1,5,none⟩=false:=HRP.out.frozen 5
  have c0:(w8).cell? ⟨w.heap.size+1+1,0,none⟩=some (.int .i64 0):=HRP.out.cell 0
  have c1:(w8).cell? ⟨w.heap.size+1+1,1,none⟩=some (.slice none 0 0):=HRP.out.cell 1
  have c2:(w8).cell? ⟨w.heap.size+1+1,2,none⟩=some (.int .i64 0):=HRP.out.cell 2
  have c3:(w8).cell? ⟨w.heap.size+1+1,3,none⟩=some (.bool false):=HRP.out.cell 3
  have c4:(w8).cell? ⟨w.heap.size+1+1,4,none⟩=some (.int .u64 0):=HRP.out.cell 4
  have c5:(w8).cell? ⟨w.heap.size+1+1,5,none⟩=some (.int .u64 0):=HRP.out.cell 5
  have HP:=Lib.hid (And.intro (HRP.out.put (.int .i64 0) (.slice A n C) (.int .i64 0) (.bool false) (.int .u64 0) (.int .u64 0)) (upd_put (q:=w.heap.size+1+1) (Upd.refl [w.heap.size+1+1] (w8)) (.inl (by simp)) (.int .i64 0) (.slice A n C) (.int .i64 0) (.bool false) (.int .u64 0) (.int .u64 0)))
  go_wp2_with fail
  have y0:=HP.out.1.cell 0
  have y1:=HP.out.1.cell 1
  have y2:=HP.out.1.cell 2
  have y3:=HP.out.1.cell 3
  have y4:=HP.out.1.cell 4
  have y5:=HP.out.1.cell 5
  simp only [List.getElem?_toArray,List.getElem?_cons_zero,List.getElem?_cons_succ] at y0 y1 y2 y3 y4 y5
  refine bodyPost_ret (v:=repV 0 0 false (.slice A n C) 0 0) ?_ rfl ⟨_,rfl,?_,?_⟩
  ·simp [repV,results,Tryz.results34,go_sem,y0,y1,y2,y3,y4,y5]
  ·rw [←HRR.out.1];exact pnt_ids HRR.out.2 HW8.out.1 (by have:=HF.out.2.2;omega) HP.out.2
  ·exact ((HF.out.2.1.trans HW8.out.2).trans' HP.out.2 (fun k hk=>.inr (by simp at hk;omega)))
end Go.Proofs.YtkmnbodlciepaaaGreat
