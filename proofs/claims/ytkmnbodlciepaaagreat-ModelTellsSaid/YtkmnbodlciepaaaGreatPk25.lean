/- model.other: what is asked of spans and boxes. Printed by mkoth.py. -/
import Derived.Test.YtkmnbodlciepaaaGreatPk23
import Derived.Test.YtkmnbodlciepaaaGreatPk24
import Derived.Test.YtkmnbodlciepaaaGreatPk2
set_option maxHeartbeats 8000000
set_option maxRecDepth 100000
namespace Go.Proofs.YtkmnbodlciepaaaGreat
open Go.RowKit
structure OthF (w:World) (b3 q h p s x:Nat) (o:OpP) (m:Md):Prop where
 op:CelB w b3 (opL o)
 rp:RpAt w q repZ
 md:MdAt w h p s x m
theorem OthF.upd0 {w w':World} {b3 q h p s x:Nat} {o:OpP} {m:Md} (f:OthF w b3 q h p s x o m) (hu:Upd [] w w'):OthF w' b3 q h p s x o m:=
 ⟨f.op.upd0 hu,f.rp.upd hu (by simp),f.md.upd0 hu⟩
def WideOf (g:Nat) (A:List Bx→Nat):Prop:=∀(v:Value) (l:List Bx) (w:World),See KBx w v l→l.length<1000000→(∀b∈l,b.in64)→(Calls Tryz.prog g #[v] w fun e w'=>e=.returned (wideV (A l))∧Upd [] w w')∧A l<340282366920938463463374607431768211456
theorem repAt_wide (w:World) (n:Nat) (h:n<340282366920938463463374607431768211456):RepAt w (repV 0 0 false (.slice none 0 0) (n / 18446744073709551616) (n % 18446744073709551616)) (wideR n):=
 ⟨none,0,_,_,rfl,See.nil _ _,by omega,by omega,by show n=_;omega⟩
theorem otherC {A R:List Bx→Nat} (hA:WideOf 86 A) (hR:WideOf 87 R) {w:World} {h p s x:Nat} {m:Md} (g:MdAt w h p s x m) (g64:m.in64) (o:OpP) (hs:m.ss.length<1000000) (hb:m.bs.length<1000000) (ho:15≤o.code∧o.code≤20) :
 Calls Tryz.prog 35 #[.pointer (some ⟨h,0,none⟩),opV o] w fun e w'=>∃v,e=.returned v∧RepAt w' v (otherM A R m o)∧Upd [] w w':=by
 have HG:=Lib.hid (And.intro g (And.intro hs (And.intro hb ho)))
 have HAR:=Lib.hid (And.intro hA (And.intro hR g64))
 clear g hs hb ho hA hR g64
 obtain ⟨r,hr⟩:∃r,otherM A R m o=r:=⟨_,rfl⟩
 rw [hr]
 have HR:=Lib.hid hr
 clear hr
 obtain ⟨oc,oa,ob,occ,od,oi⟩:=o
 unfold opV
 dsimp only
 go_enter Tryz.func35,Tryz.ntmps35
 go_upto_block 0 with fail
 have hf:OthF ((w.alloc (.cells #[.int .u8 (oc:Int),.int .i64 oa,.int .i64 ob,.int .i64 occ,.int .i64 od,.int .u32 (oi:Int)] 43)).alloc (.cells repZ 39)) w.heap.size (w.heap.size+1) h p s x ⟨oc,oa,ob,occ,od,oi⟩ m:=
  ⟨(CelB.of_heap (heap_alloc_new w (.cells #[.int .u8 (oc:Int),.int .i64 oa,.int .i64 ob,.int .i64 occ,.int .i64 od,.int .u32 (oi:Int)] 43))).upd0 ((Upd.refl [] _).alloc _),by have:=heap_alloc_new (w.alloc (.cells #[.int .u8 (oc:Int),.int .i64 oa,.int .i64 ob,.int .i64 occ,.int .i64 od,.int .u32 (oi:Int)] 43)) (.cells repZ 39);unfold RpAt;simpa using this,HG.out.1.upd0 (((Upd.refl [] _).alloc _).alloc _)⟩
 have hu:Upd [] w ((w.alloc (.cells #[.int .u8 (oc:Int),.int .i64 oa,.int .i64 ob,.int .i64 occ,.int .i64 od,.int .u32 (oi:Int)] 43)).alloc (.cells repZ 39)):=((Upd.refl [] _).alloc _).alloc _
 have hsz:((w.alloc (.cells #[.int .u8 (oc:Int),.int .i64 oa,.int .i64 ob,.int .i64 occ,.int .i64 od,.int .u32 (oi:Int)] 43)).alloc (.cells repZ 39)).heap.size=w.heap.size+1+1:=by simp
 generalize ((w.alloc (.cells #[.int .u8 (oc:Int),.int .i64 oa,.int .i64 ob,.int .i64 occ,.int .i64 od,.int .u32 (oi:Int)] 43)).alloc (.cells repZ 39))=W at hf hu hsz ⊢
 have HF:=Lib.hid (And.intro hf (And.intro hu hsz))
 clear hf hu hsz
 obtain ⟨c,hc⟩:∃c:Int,(oc:Int)=c:=⟨_,rfl⟩
 have hk:c=15∨c=16∨c=17∨c=18∨c=19∨c=20:=by have:=HG.out.2.2.2;dsimp only at this;omega
 rw [hc]
 have HCC:=Lib.hid hc
 clear hc
 rcases hk with rfl | rfl | rfl | rfl | rfl | rfl
 ·have hch:=chosenSC s m.ss (fun s=>stabBM s.lo s.hi oa) 83 #[.pointer (some ⟨w.heap.size,0,none⟩)] (enters_of Tryz.func83 (by kernel_rfl) rfl) W (HF.out.1.md.ss) HG.out.1.ok.ss HG.out.2.1 (fun W' plo phi pi _ hW=>oclo1C w.heap.size ⟨oc,oa,ob,occ,od,oi⟩ plo phi (pi:Int) W' (HF.out.1.op.upd0 hW))
  have hr:=HR.out
  unfold otherM at hr
  have hoc:oc=15:=by have:=HCC.out;omega
  obtain ⟨L,hL⟩:∃L,namesM Sp.id m.ss (fun s=>stabBM s.lo s.hi oa)=L:=⟨_,rfl⟩
  subst hoc
  dsimp only at hr
  rw [hL] at hch
  simp only [hL,if_true,if_false,Nat.reduceEqDiff] at hr
  obtain ⟨n,hn⟩:∃n,L.length=n:=⟨_,rfl⟩
  simp only [hn] at hch
  have HCH:=Lib.hid hch
  have HRR:=Lib.hid (And.intro hr hn)
  clear hch hr hL hn
  have o1:(W).cell? ⟨w.heap.size,1,none⟩=some (.int .i64 oa):=HF.out.1.op 1 _ rfl
  have o2:(W).cell? ⟨w.heap.size,2,none⟩=some (.int .i64 ob):=HF.out.1.op 2 _ rfl
  obtain ⟨-,-,m2,m3⟩:=HF.out.1.md.cells
  go_wp2_with fail
  clear o1 o2 m2 m3
  (with_reducible refine HCH.out.mono ?_)
  rintro e w8 ⟨A,C,rfl,hrow,hu8⟩
  have HF8:=Lib.hid (HF.out.1.upd0 hu8)
  have HW8:=Lib.hid (And.intro hrow hu8)
  have HRP:=Lib.hid HF8.out.rp
  clear hrow hu8
  have f0:(w8).frozen? ⟨w.heap.size+1,0,none⟩=false:=HRP.out.frozen 0
  have f1:(w8).frozen? ⟨w.heap.size+1,1,none⟩=false:=HRP.out.frozen 1
  have f2:(w8).frozen? ⟨w.heap.size+1,2,none⟩=false:=HRP.out.frozen 2
  have f3:(w8).frozen? ⟨w.heap.size+1,3,none⟩=false:=HRP.out.frozen 3
  have f4:(w8).frozen? ⟨w.heap.size+1,4,none⟩=false:=HRP.out.frozen 4
  have f5:(w8).frozen? ⟨w.heap.size+1,5,none⟩=false:=HRP.out.frozen 5
  have c0:(w8).cell? ⟨w.heap.size+1,0,none⟩=some (.int .i64 0):=HRP.out.cell 0
  have c1:(w8).cell? ⟨w.heap.size+1,1,none⟩=some (.slice none 0 0):=HRP.out.cell 1
  have c2:(w8).cell? ⟨w.heap.size+1,2,none⟩=some (.int .i64 0):=HRP.out.cell 2
  have c3:(w8).cell? ⟨w.heap.size+1,3,none⟩=some (.bool false):=HRP.out.cell 3
  have c4:(w8).cell? ⟨w.heap.size+1,4,none⟩=some (.int .u64 0):=HRP.out.cell 4
  have c5:(w8).cell? ⟨w.heap.size+1,5,none⟩=some (.int .u64 0):=HRP.out.cell 5
  have HP:=Lib.hid (And.intro (HRP.out.put (.int .i64 0) (.slice A n C) (.int .i64 0) (.bool false) (.int .u64 0) (.int .u64 0)) (upd_put (q:=w.heap.size+1) (Upd.refl [w.heap.size+1] (w8)) (.inl (by simp)) (.int .i64 0) (.slice A n C) (.int .i64 0) (.bool false) (.int .u64 0) (.int .u64 0)))
  go_wp2_with fail
  have y0:=HP.out.1.cell 0
  have y1:=HP.out.1.cell 1
  have y2:=HP.out.1.cell 2
  have y3:=HP.out.1.cell 3
  have y4:=HP.out.1.cell 4
  have y5:=HP.out.1.cell 5
  simp only [List.getElem?_toArray,List.getElem?_cons_zero,List.getElem?_cons_succ] at y0 y1 y2 y3 y4 y5
  refine bodyPost_ret (v:=repV 0 0 false (.slice A n C) 0 0) ?_ rfl ⟨_,rfl,?_,?_⟩
  ·simp [repV,results,Tryz.results35,go_sem,y0,y1,y2,y3,y4,y5]
  ·rw [←HRR.out.1];exact pnt_ids HRR.out.2 HW8.out.1 (by have:=HF.out.2.2;omega) HP.out.2
  ·exact ((HF.out.2.1.trans HW8.out.2).trans' HP.out.2 (fun k hk=>.inr (by simp at hk;omega)))
 ·have hch:=chosenSC s m.ss (fun s=>stabBM s.lo s.hi oa) 84 #[.pointer (some ⟨w.heap.size,0,none⟩)] (enters_of Tryz.func84 (by kernel_rfl) rfl) W (HF.out.1.md.ss) HG.out.1.ok.ss HG.out.2.1 (fun W' plo phi pi _ hW=>oclo2C w.heap.size ⟨oc,oa,ob,occ,od,oi⟩ plo phi (pi:Int) W' (HF.out.1.op.upd0 hW))
  have hr:=HR.out
  unfold otherM at hr
  have hoc:oc=16:=by have:=HCC.out;omega
  obtain ⟨L,hL⟩:∃L,namesM Sp.id m.ss (fun s=>stabBM s.lo s.hi oa)=L:=⟨_,rfl⟩
  subst hoc
  dsimp only at hr
  rw [hL] at hch
  simp only [hL,if_true,if_false,Nat.reduceEqDiff] at hr
  obtain ⟨n,hn⟩:∃n,L.length=n:=⟨_,rfl⟩
  simp only [hn] at hch
  have HCH:=Lib.hid hch
  have HRR:=Lib.hid (And.intro hr hn)
  clear hch hr hL hn
  have o1:(W).cell? ⟨w.heap.size,1,none⟩=some (.int .i64 oa):=HF.out.1.op 1 _ rfl
  have o2:(W).cell? ⟨w.heap.size,2,none⟩=some (.int .i64 ob):=HF.out.1.op 2 _ rfl
  obtain ⟨-,-,m2,m3⟩:=HF.out.1.md.cells
  go_wp2_with fail
  clear o1 o2 m2 m3
  (with_reducible refine HCH.out.mono ?_)
  rintro e w8 ⟨A,C,rfl,hrow,hu8⟩
  have HF8:=Lib.hid (HF.out.1.upd0 hu8)
  have HW8:=Lib.hid (And.intro hrow hu8)
  have HRP:=Lib.hid HF8.out.rp
  clear hrow hu8
  have f0:(w8).frozen? ⟨w.heap.size+1,0,none⟩=false:=HRP.out.frozen 0
  have f1:(w8).frozen? ⟨w.heap.size+1,1,none⟩=false:=HRP.out.frozen 1
  have f2:(w8).frozen? ⟨w.heap.size+1,2,none⟩=false:=HRP.out.frozen 2
  have f3:(w8).frozen? ⟨w.heap.size+1,3,none⟩=false:=HRP.out.frozen 3
  have f4:(w8).frozen? ⟨w.heap.size+1,4,none⟩=false:=HRP.out.frozen 4
  have f5:(w8).frozen? ⟨w.heap.size+1,5,none⟩=false:=HRP.out.frozen 5
  have c0:(w8).cell? ⟨w.heap.size+1,0,none⟩=some (.int .i64 0):=HRP.out.cell 0
  have c1:(w8).cell? ⟨w.heap.size+1,1,none⟩=some (.slice none 0 0):=HRP.out.cell 1
  have c2:(w8).cell? ⟨w.heap.size+1,2,none⟩=some (.int .i64 0):=HRP.out.cell 2
  have c3:(w8).cell? ⟨w.heap.size+1,3,none⟩=some (.bool false):=HRP.out.cell 3
  have c4:(w8).cell? ⟨w.heap.size+1,4,none⟩=some (.int .u64 0):=HRP.out.cell 4
  have c5:(w8).cell? ⟨w.heap.size+1,5,none⟩=some (.int .u64 0):=HRP.out.cell 5
  have HP:=Lib.hid (And.intro (HRP.out.put (.int .i64 0) (.slice none 0 0) (.int .i64 (n:Int)) (.bool false) (.int .u64 0) (.int .u64 0)) (upd_put (q:=w.heap.size+1) (Upd.refl [w.heap.size+1] (w8)) (.inl (by simp)) (.int .i64 0) (.slice none 0 0) (.int .i64 (n:Int)) (.bool false) (.int .u64 0) (.int .u64 0)))
  go_wp2_with fail
  have y0:=HP.out.1.cell 0
  have y1:=HP.out.1.cell 1
  have y2:=HP.out.1.cell 2
  have y3:=HP.out.1.cell 3
  have y4:=HP.out.1.cell 4
  have y5:=HP.out.1.cell 5
  simp only [List.getElem?_toArray,List.getElem?_cons_zero,List.getElem?_cons_succ] at y0 y1 y2 y3 y4 y5
  refine bodyPost_ret (v:=repV 0 n false (.slice none 0 0) 0 0) ?_ rfl ⟨_,rfl,?_,?_⟩
  ·simp [repV,results,Tryz.results35,go_sem,y0,y1,y2,y3,y4,y5]
  ·rw [←HRR.out.1,HRR.out.2];exact repAt_cnt _ _
  ·exact ((HF.out.2.1.trans HW8.out.2).trans' HP.out.2 (fun k hk=>.inr (by simp at hk;omega)))
 ·have hch:=chosenSC s m.ss (fun s=>meetB s oa ob) 85 #[.pointer (some ⟨w.heap.size,0,none⟩)] (enters_of Tryz.func85 (by kernel_rfl) rfl) W (HF.out.1.md.ss) HG.out.1.ok.ss HG.out.2.1 (fun W' plo phi pi _ hW=>oclo3C w.heap.size ⟨oc,oa,ob,occ,od,oi⟩ plo phi pi W' (HF.out.1.op.upd0 hW))
  have hr:=HR.out
  unfold otherM at hr
  have hoc:oc=17:=by have:=HCC.out;omega
  obtain ⟨L,hL⟩:∃L,namesM Sp.id m.ss (fun s=>meetB s oa ob)=L:=⟨_,rfl⟩
  subst hoc
  dsimp only at hr
  rw [hL] at hch
  simp only [hL,if_true,if_false,Nat.reduceEqDiff] at hr
  obtain ⟨n,hn⟩:∃n,L.length=n:=⟨_,rfl⟩
  simp only [hn] at hch
  have HCH:=Lib.hid hch
  have HRR:=Lib.hid (And.intro hr hn)
  clear hch hr hL hn
  have o1:(W).cell? ⟨w.heap.size,1,none⟩=some (.int .i64 oa):=HF.out.1.op 1 _ rfl
  have o2:(W).cell? ⟨w.heap.size,2,none⟩=some (.int .i64 ob):=HF.out.1.op 2 _ rfl
  obtain ⟨-,-,m2,m3⟩:=HF.out.1.md.cells
  go_wp2_with fail
  clear o1 o2 m2 m3
  (with_reducible refine HCH.out.mono ?_)
  rintro e w8 ⟨A,C,rfl,hrow,hu8⟩
  have HF8:=Lib.hid (HF.out.1.upd0 hu8)
  have HW8:=Lib.hid (And.intro hrow hu8)
  have HRP:=Lib.hid HF8.out.rp
  clear hrow hu8
  have f0:(w8).frozen? ⟨w.heap.size+1,0,none⟩=false:=HRP.out.frozen 0
  have f1:(w8).frozen? ⟨w.heap.size+1,1,none⟩=false:=HRP.out.frozen 1
  have f2:(w8).frozen? ⟨w.heap.size+1,2,none⟩=false:=HRP.out.frozen 2
  have f3:(w8).frozen? ⟨w.heap.size+1,3,none⟩=false:=HRP.out.frozen 3
  have f4:(w8).frozen? ⟨w.heap.size+1,4,none⟩=false:=HRP.out.frozen 4
  have f5:(w8).frozen? ⟨w.heap.size+1,5,none⟩=false:=HRP.out.frozen 5
  have c0:(w8).cell? ⟨w.heap.size+1,0,none⟩=some (.int .i64 0):=HRP.out.cell 0
  have c1:(w8).cell? ⟨w.heap.size+1,1,none⟩=some (.slice none 0 0):=HRP.out.cell 1
  have c2:(w8).cell? ⟨w.heap.size+1,2,none⟩=some (.int .i64 0):=HRP.out.cell 2
  have c3:(w8).cell? ⟨w.heap.size+1,3,none⟩=some (.bool false):=HRP.out.cell 3
  have c4:(w8).cell? ⟨w.heap.size+1,4,none⟩=some (.int .u64 0):=HRP.out.cell 4
  have c5:(w8).cell? ⟨w.heap.size+1,5,none⟩=some (.int .u64 0):=HRP.out.cell 5
  have HP:=Lib.hid (And.intro (HRP.out.put (.int .i64 0) (.slice A n C) (.int .i64 0) (.bool false) (.int .u64 0) (.int .u64 0)) (upd_put (q:=w.heap.size+1) (Upd.refl [w.heap.size+1] (w8)) (.inl (by simp)) (.int .i64 0) (.slice A n C) (.int .i64 0) (.bool false) (.int .u64 0) (.int .u64 0)))
  go_wp2_with fail
  have y0:=HP.out.1.cell 0
  have y1:=HP.out.1.cell 1
  have y2:=HP.out.1.cell 2
  have y3:=HP.out.1.cell 3
  have y4:=HP.out.1.cell 4
  have y5:=HP.out.1.cell 5
  simp only [List.getElem?_toArray,List.getElem?_cons_zero,List.getElem?_cons_succ] at y0 y1 y2 y3 y4 y5
  refine bodyPost_ret (v:=repV 0 0 false (.slice A n C) 0 0) ?_ rfl ⟨_,rfl,?_,?_⟩
  ·simp [repV,results,Tryz.results35,go_sem,y0,y1,y2,y3,y4,y5]
  ·rw [←HRR.out.1];exact pnt_ids HRR.out.2 HW8.out.1 (by have:=HF.out.2.2;omega) HP.out.2
  ·exact ((HF.out.2.1.trans HW8.out.2).trans' HP.out.2 (fun k hk=>.inr (by simp at hk;omega)))
 ·have hall:=allBC x m.bs W HF.out.1.md.bs HG.out.1.ok.bs HG.out.1.ok.bi HG.out.2.2.1
  have hr:=HR.out
  unfold otherM at hr
  have hoc:oc=18:=by have:=HCC.out;omega
  obtain ⟨L,hL⟩:∃L,m.bs=L:=⟨_,rfl⟩
  have hin:=HAR.out.2.2.bs
  have hlen:=HG.out.2.2.1
  subst hoc
  dsimp only at hr
  rw [hL] at hall hin hlen hr
  obtain ⟨N,hN⟩:∃N,A L=N:=⟨_,rfl⟩
  simp only [hN,if_true,if_false,Nat.reduceEqDiff] at hr
  have hwide:=fun v w9 hv=>HAR.out.1 v L w9 hv hlen hin
  obtain ⟨n,hn⟩:∃n,L.length=n:=⟨_,rfl⟩
  simp only [hn] at hall
  simp only [hN] at hwide
  obtain ⟨Hi,hHi⟩:∃H,N / 18446744073709551616=H:=⟨_,rfl⟩
  obtain ⟨Lo,hLo⟩:∃H,N % 18446744073709551616=H:=⟨_,rfl⟩
  unfold wideV at hwide
  simp only [hHi,hLo] at hwide
  have HALL:=Lib.hid hall
  have HWI:=Lib.hid hwide
  have HRR:=Lib.hid (And.intro hr (And.intro hHi hLo))
  clear hall hwide hr hN hL hHi hLo hin hlen hn
  have o1:(W).cell? ⟨w.heap.size,1,none⟩=some (.int .i64 oa):=HF.out.1.op 1 _ rfl
  have o2:(W).cell? ⟨w.heap.size,2,none⟩=some (.int .i64 ob):=HF.out.1.op 2 _ rfl
  obtain ⟨-,-,m2,m3⟩:=HF.out.1.md.cells
  go_wp2_with fail
  clear o1 o2 m2 m3
  (with_reducible refine HALL.out.mono ?_)
  rintro e w7 ⟨Ab,Cb,rfl,hrow,hu7⟩
  have HW7:=Lib.hid (And.intro hrow hu7)
  have hsee:See KBx w7 (.slice Ab n Cb) L:=See.of_row hrow
  have HSEE:=Lib.hid hsee
  clear hrow hu7 hsee
  go_wp2_with fail
  (with_reducible refine (HWI.out _ _ HSEE.out).1.mono ?_)
  rintro e w8 ⟨rfl,hu8⟩
  have hU8:=HW7.out.2.trans hu8
  have HF8:=Lib.hid (HF.out.1.upd0 hU8)
  have HW8:=Lib.hid (And.intro hU8 (HWI.out _ _ HSEE.out).2)
  have HRP:=Lib.hid HF8.out.rp
  clear hu8 hU8
  have f0:(w8).frozen? ⟨w.heap.size+1,0,none⟩=false:=HRP.out.frozen 0
  have f1:(w8).frozen? ⟨w.heap.size+1,1,none⟩=false:=HRP.out.frozen 1
  have f2:(w8).frozen? ⟨w.heap.size+1,2,none⟩=false:=HRP.out.frozen 2
  have f3:(w8).frozen? ⟨w.heap.size+1,3,none⟩=false:=HRP.out.frozen 3
  have f4:(w8).frozen? ⟨w.heap.size+1,4,none⟩=false:=HRP.out.frozen 4
  have f5:(w8).frozen? ⟨w.heap.size+1,5,none⟩=false:=HRP.out.frozen 5
  have c0:(w8).cell? ⟨w.heap.size+1,0,none⟩=some (.int .i64 0):=HRP.out.cell 0
  have c1:(w8).cell? ⟨w.heap.size+1,1,none⟩=some (.slice none 0 0):=HRP.out.cell 1
  have c2:(w8).cell? ⟨w.heap.size+1,2,none⟩=some (.int .i64 0):=HRP.out.cell 2
  have c3:(w8).cell? ⟨w.heap.size+1,3,none⟩=some (.bool false):=HRP.out.cell 3
  have c4:(w8).cell? ⟨w.heap.size+1,4,none⟩=some (.int .u64 0):=HRP.out.cell 4
  have c5:(w8).cell? ⟨w.heap.size+1,5,none⟩=some (.int .u64 0):=HRP.out.cell 5
  have HP:=Lib.hid (And.intro (HRP.out.put (.int .i64 0) (.slice none 0 0) (.int .i64 0) (.bool false) (.int .u64 (Hi:Int)) (.int .u64 (Lo:Int))) (upd_put (q:=w.heap.size+1) (Upd.refl [w.heap.size+1] (w8)) (.inl (by simp)) (.int .i64 0) (.slice none 0 0) (.int .i64 0) (.bool false) (.int .u64 (Hi:Int)) (.int .u64 (Lo:Int))))
  go_wp2_with fail
  have y0:=HP.out.1.cell 0
  have y1:=HP.out.1.cell 1
  have y2:=HP.out.1.cell 2
  have y3:=HP.out.1.cell 3
  have y4:=HP.out.1.cell 4
  have y5:=HP.out.1.cell 5
  simp only [List.getElem?_toArray,List.getElem?_cons_zero,List.getElem?_cons_succ] at y0 y1 y2 y3 y4 y5
  refine bodyPost_ret (v:=repV 0 0 false (.slice none 0 0) Hi Lo) ?_ rfl ⟨_,rfl,?_,?_⟩
  ·simp [repV,results,Tryz.results35,go_sem,y0,y1,y2,y3,y4,y5]
  ·rw [←HRR.out.1,←HRR.out.2.1,←HRR.out.2.2];exact repAt_wide _ _ HW8.out.2
  ·exact ((HF.out.2.1.trans HW8.out.1).trans' HP.out.2 (fun k hk=>.inr (by simp at hk;omega)))
 ·have hall:=allBC x m.bs W HF.out.1.md.bs HG.out.1.ok.bs HG.out.1.ok.bi HG.out.2.2.1
  have hr:=HR.out
  unfold otherM at hr
  have hoc:oc=19:=by have:=HCC.out;omega
  obtain ⟨L,hL⟩:∃L,m.bs=L:=⟨_,rfl⟩
  have hin:=HAR.out.2.2.bs
  have hlen:=HG.out.2.2.1
  subst hoc
  dsimp only at hr
  rw [hL] at hall hin hlen hr
  obtain ⟨N,hN⟩:∃N,R L=N:=⟨_,rfl⟩
  simp only [hN,if_true,if_false,Nat.reduceEqDiff] at hr
  have hwide:=fun v w9 hv=>HAR.out.2.1 v L w9 hv hlen hin
  obtain ⟨n,hn⟩:∃n,L.length=n:=⟨_,rfl⟩
  simp only [hn] at hall
  simp only [hN] at hwide
  obtain ⟨Hi,hHi⟩:∃H,N / 18446744073709551616=H:=⟨_,rfl⟩
  obtain ⟨Lo,hLo⟩:∃H,N % 18446744073709551616=H:=⟨_,rfl⟩
  unfold wideV at hwide
  simp only [hHi,hLo] at hwide
  have HALL:=Lib.hid hall
  have HWI:=Lib.hid hwide
  have HRR:=Lib.hid (And.intro hr (And.intro hHi hLo))
  clear hall hwide hr hN hL hHi hLo hin hlen hn
  have o1:(W).cell? ⟨w.heap.size,1,none⟩=some (.int .i64 oa):=HF.out.1.op 1 _ rfl
  have o2:(W).cell? ⟨w.heap.size,2,none⟩=some (.int .i64 ob):=HF.out.1.op 2 _ rfl
  obtain ⟨-,-,m2,m3⟩:=HF.out.1.md.cells
  go_wp2_with fail
  clear o1 o2 m2 m3
  (with_reducible refine HALL.out.mono ?_)
  rintro e w7 ⟨Ab,Cb,rfl,hrow,hu7⟩
  have HW7:=Lib.hid (And.intro hrow hu7)
  have hsee:See KBx w7 (.slice Ab n Cb) L:=See.of_row hrow
  have HSEE:=Lib.hid hsee
  clear hrow hu7 hsee
  go_wp2_with fail
  (with_reducible refine (HWI.out _ _ HSEE.out).1.mono ?_)
  rintro e w8 ⟨rfl,hu8⟩
  have hU8:=HW7.out.2.trans hu8
  have HF8:=Lib.hid (HF.out.1.upd0 hU8)
  have HW8:=Lib.hid (And.intro hU8 (HWI.out _ _ HSEE.out).2)
  have HRP:=Lib.hid HF8.out.rp
  clear hu8 hU8
  have f0:(w8).frozen? ⟨w.heap.size+1,0,none⟩=false:=HRP.out.frozen 0
  have f1:(w8).frozen? ⟨w.heap.size+1,1,none⟩=false:=HRP.out.frozen 1
  have f2:(w8).frozen? ⟨w.heap.size+1,2,none⟩=false:=HRP.out.frozen 2
  have f3:(w8).frozen? ⟨w.heap.size+1,3,none⟩=false:=HRP.out.frozen 3
  have f4:(w8).frozen? ⟨w.heap.size+1,4,none⟩=false:=HRP.out.frozen 4
  have f5:(w8).frozen? ⟨w.heap.size+1,5,none⟩=false:=HRP.out.frozen 5
  have c0:(w8).cell? ⟨w.heap.size+1,0,none⟩=some (.int .i64 0):=HRP.out.cell 0
  have c1:(w8).cell? ⟨w.heap.size+1,1,none⟩=some (.slice none 0 0):=HRP.out.cell 1
  have c2:(w8).cell? ⟨w.heap.size+1,2,none⟩=some (.int .i64 0):=HRP.out.cell 2
  have c3:(w8).cell? ⟨w.heap.size+1,3,none⟩=some (.bool false):=HRP.out.cell 3
  have c4:(w8).cell? ⟨w.heap.size+1,4,none⟩=some (.int .u64 0):=HRP.out.cell 4
  have c5:(w8).cell? ⟨w.heap.size+1,5,none⟩=some (.int .u64 0):=HRP.out.cell 5
  have HP:=Lib.hid (And.intro (HRP.out.put (.int .i64 0) (.slice none 0 0) (.int .i64 0) (.bool false) (.int .u64 (Hi:Int)) (.int .u64 (Lo:Int))) (upd_put (q:=w.heap.size+1) (Upd.refl [w.heap.size+1] (w8)) (.inl (by simp)) (.int .i64 0) (.slice none 0 0) (.int .i64 0) (.bool false) (.int .u64 (Hi:Int)) (.int .u64 (Lo:Int))))
  go_wp2_with fail
  have y0:=HP.out.1.cell 0
  have y1:=HP.out.1.cell 1
  have y2:=HP.out.1.cell 2
  have y3:=HP.out.1.cell 3
  have y4:=HP.out.1.cell 4
  have y5:=HP.out.1.cell 5
  simp only [List.getElem?_toArray,List.getElem?_cons_zero,List.getElem?_cons_succ] at y0 y1 y2 y3 y4 y5
  refine bodyPost_ret (v:=repV 0 0 false (.slice none 0 0) Hi Lo) ?_ rfl ⟨_,rfl,?_,?_⟩
  ·simp [repV,results,Tryz.results35,go_sem,y0,y1,y2,y3,y4,y5]
  ·rw [←HRR.out.1,←HRR.out.2.1,←HRR.out.2.2];exact repAt_wide _ _ HW8.out.2
  ·exact ((HF.out.2.1.trans HW8.out.1).trans' HP.out.2 (fun k hk=>.inr (by simp at hk;omega)))
 ·have o1:(W).cell? ⟨w.heap.size,1,none⟩=some (.int .i64 oa):=HF.out.1.op 1 _ rfl
  have o2:(W).cell? ⟨w.heap.size,2,none⟩=some (.int .i64 ob):=HF.out.1.op 2 _ rfl
  obtain ⟨-,-,m2,m3⟩:=HF.out.1.md.cells
  go_upto_region 13 with fail
  clear o1 o2 m2 m3
  have hat:CelB (W.alloc (.cells #[.int .i64 oa,.int .i64 ob,.int .u32 0] 62)) W.heap.size [.int .i64 oa,.int .i64 ob,.int .u32 0]:=CelB.of_heap (heap_alloc_new W _)
  have hf6:=HF.out.1.upd0 ((Upd.refl [] W).alloc (.cells #[.int .i64 oa,.int .i64 ob,.int .u32 0] 62))
  have hu6:=HF.out.2.1.alloc (.cells #[.int .i64 oa,.int .i64 ob,.int .u32 0] 62)
  have hs6:w.heap.size+1<(W.alloc (.cells #[.int .i64 oa,.int .i64 ob,.int .u32 0] 62)).heap.size:=by have:=HF.out.2.2;simp;omega
  generalize (W.alloc (.cells #[.int .i64 oa,.int .i64 ob,.int .u32 0] 62))=W6 at hat hf6 hu6 hs6 ⊢
  have HF6:=Lib.hid (And.intro hf6 (And.intro hu6 (And.intro hs6 hat)))
  clear hf6 hu6 hs6 hat
  have hch:=chosenBC x m.bs (fun b=>inBM b oa ob) 89 #[.pointer (some ⟨W.heap.size,0,none⟩)] (enters_of Tryz.func89 (by kernel_rfl) rfl) W6 (HF6.out.1.md.bs) HG.out.1.ok.bs HG.out.2.2.1 (fun W' px1 px2 py1 py2 pi _ hW=>oclo4C W.heap.size oa ob px1 px2 py1 py2 pi W' (HF6.out.2.2.2.upd0 hW))
  have hr:=HR.out
  unfold otherM at hr
  have hoc:oc=20:=by have:=HCC.out;omega
  obtain ⟨L,hL⟩:∃L,namesM Bx.id m.bs (fun b=>inBM b oa ob)=L:=⟨_,rfl⟩
  subst hoc
  dsimp only at hr
  rw [hL] at hch
  simp only [hL,if_false,Nat.reduceEqDiff] at hr
  obtain ⟨n,hn⟩:∃n,L.length=n:=⟨_,rfl⟩
  simp only [hn] at hch
  have HCH:=Lib.hid hch
  have HRR:=Lib.hid (And.intro hr hn)
  clear hch hr hL hn
  have o1:(W6).cell? ⟨w.heap.size,1,none⟩=some (.int .i64 oa):=HF6.out.1.op 1 _ rfl
  have o2:(W6).cell? ⟨w.heap.size,2,none⟩=some (.int .i64 ob):=HF6.out.1.op 2 _ rfl
  obtain ⟨-,-,m2,m3⟩:=HF6.out.1.md.cells
  go_wp2_with fail
  clear o1 o2 m2 m3
  (with_reducible refine HCH.out.mono ?_)
  rintro e w8 ⟨A,C,rfl,hrow,hu8⟩
  have HF8:=Lib.hid (HF6.out.1.upd0 hu8)
  have HW8:=Lib.hid (And.intro hrow hu8)
  have HRP:=Lib.hid HF8.out.rp
  clear hrow hu8
  have f0:(w8).frozen? ⟨w.heap.size+1,0,none⟩=false:=HRP.out.frozen 0
  have f1:(w8).frozen? ⟨w.heap.size+1,1,none⟩=false:=HRP.out.frozen 1
  have f2:(w8).frozen? ⟨w.heap.size+1,2,none⟩=false:=HRP.out.frozen 2
  have f3:(w8).frozen? ⟨w.heap.size+1,3,none⟩=false:=HRP.out.frozen 3
  have f4:(w8).frozen? ⟨w.heap.size+1,4,none⟩=false:=HRP.out.frozen 4
  have f5:(w8).frozen? ⟨w.heap.size+1,5,none⟩=false:=HRP.out.frozen 5
  have c0:(w8).cell? ⟨w.heap.size+1,0,none⟩=some (.int .i64 0):=HRP.out.cell 0
  have c1:(w8).cell? ⟨w.heap.size+1,1,none⟩=some (.slice none 0 0):=HRP.out.cell 1
  have c2:(w8).cell? ⟨w.heap.size+1,2,none⟩=some (.int .i64 0):=HRP.out.cell 2
  have c3:(w8).cell? ⟨w.heap.size+1,3,none⟩=some (.bool false):=HRP.out.cell 3
  have c4:(w8).cell? ⟨w.heap.size+1,4,none⟩=some (.int .u64 0):=HRP.out.cell 4
  have c5:(w8).cell? ⟨w.heap.size+1,5,none⟩=some (.int .u64 0):=HRP.out.cell 5
  have HP:=Lib.hid (And.intro (HRP.out.put (.int .i64 0) (.slice A n C) (.int .i64 0) (.bool false) (.int .u64 0) (.int .u64 0)) (upd_put (q:=w.heap.size+1) (Upd.refl [w.heap.size+1] (w8)) (.inl (by simp)) (.int .i64 0) (.slice A n C) (.int .i64 0) (.bool false) (.int .u64 0) (.int .u64 0)))
  go_wp2_with fail
  have y0:=HP.out.1.cell 0
  have y1:=HP.out.1.cell 1
  have y2:=HP.out.1.cell 2
  have y3:=HP.out.1.cell 3
  have y4:=HP.out.1.cell 4
  have y5:=HP.out.1.cell 5
  simp only [List.getElem?_toArray,List.getElem?_cons_zero,List.getElem?_cons_succ] at y0 y1 y2 y3 y4 y5
  refine bodyPost_ret (v:=repV 0 0 false (.slice A n C) 0 0) ?_ rfl ⟨_,rfl,?_,?_⟩
  ·simp [repV,results,Tryz.results35,go_sem,y0,y1,y2,y3,y4,y5]
  ·rw [←HRR.out.1];exact pnt_ids HRR.out.2 HW8.out.1 (by have:=HF6.out.2.2.1;omega) HP.out.2
  ·exact ((HF6.out.2.1.trans HW8.out.2).trans' HP.out.2 (fun k hk=>.inr (by simp at hk;omega)))
end Go.Proofs.YtkmnbodlciepaaaGreat
