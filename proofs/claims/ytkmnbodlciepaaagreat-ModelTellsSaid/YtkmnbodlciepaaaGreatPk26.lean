/- model.Do: an operation. Printed by mkdom.py. gridironlaw26.Same: do two replies tell the same? gridironlaw26.told: is that reply given? What a law knows of a model under way. -/
import Derived.Test.YtkmnbodlciepaaaGreatPk25
import Derived.Test.YtkmnbodlciepaaaGreatPk16
set_option maxHeartbeats 8000000
set_option maxRecDepth 100000
namespace Go.Proofs.YtkmnbodlciepaaaGreat
open Go.RowKit
theorem RepAt.updQ {w w':World} {v:Value} {r:RepP} {q:Nat} (h:RepAt w v r) (hq:RpAt w q repZ) (hu:Upd [q] w w'):RepAt w' v r:=by
 obtain ⟨A,C,hi,lo,h1,h2,h3⟩:=h
 refine ⟨A,C,hi,lo,h1,h2.upd hu (fun hn k hk _ hc=>?_),h3⟩
 rcases hl:r.ids with _ | ⟨x,l⟩
 ·rw [hl] at hn;simp at hn
 ·have hx:r.ids[0]? = some x:=by rw [hl];rfl
  obtain ⟨b,o,rfl,_,_,hcell⟩:=See.at h2 hx
  simp only [blk,List.mem_singleton] at hk hc
  subst hk
  subst hc
  have:=hcell 0 (.int .u32 (x:Int)) rfl
  rw [hq.cell] at this
  generalize o+0*KU.sz+0=j at this
  rcases j with _ | _ | _ | _ | _ | _ | j<;>simp [repZ] at this
theorem ChgPost.updQ {w w1 w2:World} {h p s x q:Nat} {r:Md×RepP} {v:Value} {e:Ending} (g:ChgPost w h p s x r e w1) (he:e=.returned v) (hqw:w.heap.size≤q) (hq:RpAt w1 q repZ) (hu:Upd [q] w1 w2) (hh:h<w.heap.size) (hp:p<w.heap.size) (hs:s<w.heap.size) (hx:x<w.heap.size):ChgPost w h p s x r (.returned v) w2:=by
 obtain ⟨⟨v',e',hr⟩,hm,hup⟩:=g
 rw [he] at e'
 cases e'
 exact ⟨⟨v,rfl,hr.updQ hq hu⟩,hm.upd hu (by simp;omega) (by simp;omega) (by simp;omega) (by simp;omega),hup.trans' hu (fun k hk=>.inr (by simp at hk;omega))⟩
theorem doC {A R:List Bx→Nat} (hA:WideOf 86 A) (hR:WideOf 87 R) {w:World} {h p s x:Nat} {m:Md} (g:MdAt w h p s x m) (g64:m.in64) (o:OpP) (hid:o.id<4294967296) (hp:m.ps.length<1000000) (hs:m.ss.length<1000000) (hb:m.bs.length<1000000) :
 Calls Tryz.prog 9 #[.pointer (some ⟨h,0,none⟩),opV o] w (ChgPost w h p s x (doM A R m o)):=by
 have hch:=fun (w':World) (hu:Upd [] w w') (ho:1≤o.code∧o.code≤6)=>changeC (g.upd0 hu) o hid hp hs hb ho
 have hpt:=fun (w':World) (hu:Upd [] w w') (ho:7≤o.code∧o.code≤14)=>pointC (g.upd0 hu) o hp ho
 have hot:=fun (w':World) (hu:Upd [] w w') (ho:15≤o.code∧o.code≤20)=>otherC hA hR (g.upd0 hu) g64 o hs hb ho
 have HL:=Lib.hid (And.intro (lt_of_block g.head) (And.intro g.ps.lt (And.intro g.ss.lt g.bs.lt)))
 have HG:=Lib.hid g
 clear g hid hp hs hb hA hR g64
 obtain ⟨⟨m2,z⟩,hr⟩:∃r,doM A R m o=r:=⟨_,rfl⟩
 rw [hr]
 have HR:=Lib.hid hr
 clear hr
 obtain ⟨oc,oa,ob,occ,od,oi⟩:=o
 unfold opV at hch hpt hot ⊢
 dsimp only at hch hpt hot ⊢
 obtain ⟨c,hc⟩:∃c:Int,(oc:Int)=c:=⟨_,rfl⟩
 rw [hc] at hch hpt hot ⊢
 have HCC:=Lib.hid hc
 have HCH:=Lib.hid hch
 have HPT:=Lib.hid hpt
 have HOT:=Lib.hid hot
 clear hc hch hpt hot
 go_enter Tryz.func9,Tryz.ntmps9
 go_upto_block 0 with fail
 have hcl:CelB ((w.alloc (.cells #[.int .u8 c,.int .i64 oa,.int .i64 ob,.int .i64 occ,.int .i64 od,.int .u32 (oi:Int)] 43)).alloc (.cells repZ 39)) w.heap.size [.int .u8 c,.int .i64 oa,.int .i64 ob,.int .i64 occ,.int .i64 od,.int .u32 (oi:Int)]:=(CelB.of_heap (heap_alloc_new w (.cells #[.int .u8 c,.int .i64 oa,.int .i64 ob,.int .i64 occ,.int .i64 od,.int .u32 (oi:Int)] 43))).upd0 ((Upd.refl [] _).alloc _)
 have hrp:RpAt ((w.alloc (.cells #[.int .u8 c,.int .i64 oa,.int .i64 ob,.int .i64 occ,.int .i64 od,.int .u32 (oi:Int)] 43)).alloc (.cells repZ 39)) (w.heap.size+1) repZ:=by have:=heap_alloc_new (w.alloc (.cells #[.int .u8 c,.int .i64 oa,.int .i64 ob,.int .i64 occ,.int .i64 od,.int .u32 (oi:Int)] 43)) (.cells repZ 39);unfold RpAt;simpa using this
 have hu:Upd [] w ((w.alloc (.cells #[.int .u8 c,.int .i64 oa,.int .i64 ob,.int .i64 occ,.int .i64 od,.int .u32 (oi:Int)] 43)).alloc (.cells repZ 39)):=((Upd.refl [] _).alloc _).alloc _
 generalize ((w.alloc (.cells #[.int .u8 c,.int .i64 oa,.int .i64 ob,.int .i64 occ,.int .i64 od,.int .u32 (oi:Int)] 43)).alloc (.cells repZ 39))=W at hcl hrp hu ⊢
 have hmd:=HG.out.upd0 hu
 have HF:=Lib.hid (And.intro hcl (And.intro hrp (And.intro hu hmd)))
 have o0:=hcl 0 _ rfl
 have o1:=hcl 1 _ rfl
 have o2:=hcl 2 _ rfl
 have o3:=hcl 3 _ rfl
 have o4:=hcl 4 _ rfl
 have o5:=hcl 5 _ rfl
 have hno:=noneMC hmd
 have HNO:=Lib.hid hno
 clear hcl hrp hu hmd hno
 have hc0:0≤c:=by have:=HCC.out;omega
 by_cases h1:c<1
 ·have d1:decide (c<1)=true:=decide_eq_true h1
  have hr:=HR.out
  unfold doM at hr
  have hcc:=HCC.out
  rw [if_pos (by dsimp only;omega)] at hr
  have HRR:=Lib.hid hr
  clear hr hc0 hcc
  go_upto_region 4 with (go_at_call 32;refine HNO.out.mono ?_;rintro e w' ⟨rfl,rfl⟩)
  clear o0 o1 o2 o3 o4 o5
  have HRP:=Lib.hid HF.out.2.1
  have f0:(W).frozen? ⟨w.heap.size+1,0,none⟩=false:=HRP.out.frozen 0
  have f1:(W).frozen? ⟨w.heap.size+1,1,none⟩=false:=HRP.out.frozen 1
  have f2:(W).frozen? ⟨w.heap.size+1,2,none⟩=false:=HRP.out.frozen 2
  have f3:(W).frozen? ⟨w.heap.size+1,3,none⟩=false:=HRP.out.frozen 3
  have f4:(W).frozen? ⟨w.heap.size+1,4,none⟩=false:=HRP.out.frozen 4
  have f5:(W).frozen? ⟨w.heap.size+1,5,none⟩=false:=HRP.out.frozen 5
  have c0:(W).cell? ⟨w.heap.size+1,0,none⟩=some (.int .i64 0):=HRP.out.cell 0
  have c1:(W).cell? ⟨w.heap.size+1,1,none⟩=some (.slice none 0 0):=HRP.out.cell 1
  have c2:(W).cell? ⟨w.heap.size+1,2,none⟩=some (.int .i64 0):=HRP.out.cell 2
  have c3:(W).cell? ⟨w.heap.size+1,3,none⟩=some (.bool false):=HRP.out.cell 3
  have c4:(W).cell? ⟨w.heap.size+1,4,none⟩=some (.int .u64 0):=HRP.out.cell 4
  have c5:(W).cell? ⟨w.heap.size+1,5,none⟩=some (.int .u64 0):=HRP.out.cell 5
  have HP:=Lib.hid (And.intro (HRP.out.put (.int .i64 260) (.slice none 0 0) (.int .i64 0) (.bool false) (.int .u64 0) (.int .u64 0)) (upd_put (q:=w.heap.size+1) (Upd.refl [w.heap.size+1] (W)) (.inl (by simp)) (.int .i64 260) (.slice none 0 0) (.int .i64 0) (.bool false) (.int .u64 0) (.int .u64 0)))
  go_wp2_with fail
  have y0:=HP.out.1.cell 0
  have y1:=HP.out.1.cell 1
  have y2:=HP.out.1.cell 2
  have y3:=HP.out.1.cell 3
  have y4:=HP.out.1.cell 4
  have y5:=HP.out.1.cell 5
  simp only [List.getElem?_toArray,List.getElem?_cons_zero,List.getElem?_cons_succ] at y0 y1 y2 y3 y4 y5
  refine bodyPost_ret (v:=repV 260 0 false (.slice none 0 0) 0 0) ?_ rfl ?_
  ·simp [repV,results,Tryz.results9,go_sem,y0,y1,y2,y3,y4,y5]
  ·rw [←HRR.out]
   exact ⟨⟨_,rfl,repAt_err _ 260⟩,HF.out.2.2.2.upd HP.out.2 (by have:=HL.out;simp;omega) (by have:=HL.out;simp;omega) (by have:=HL.out;simp;omega) (by have:=HL.out;simp;omega),(HF.out.2.2.1.trans' HP.out.2 (fun k hk=>.inr (by simp at hk;omega))).mono (by simp)⟩
 ·have d1:decide (c<1)=false:=decide_eq_false h1
  by_cases h2:20<c
  ·have d2:decide (20<c)=true:=decide_eq_true h2
   have hr:=HR.out
   unfold doM at hr
   have hcc:=HCC.out
   rw [if_pos (by dsimp only;omega)] at hr
   have HRR:=Lib.hid hr
   clear hr hc0 hcc
   go_upto_region 4 with (go_at_call 32;refine HNO.out.mono ?_;rintro e w' ⟨rfl,rfl⟩)
   clear o0 o1 o2 o3 o4 o5
   have HRP:=Lib.hid HF.out.2.1
   have f0:(W).frozen? ⟨w.heap.size+1,0,none⟩=false:=HRP.out.frozen 0
   have f1:(W).frozen? ⟨w.heap.size+1,1,none⟩=false:=HRP.out.frozen 1
   have f2:(W).frozen? ⟨w.heap.size+1,2,none⟩=false:=HRP.out.frozen 2
   have f3:(W).frozen? ⟨w.heap.size+1,3,none⟩=false:=HRP.out.frozen 3
   have f4:(W).frozen? ⟨w.heap.size+1,4,none⟩=false:=HRP.out.frozen 4
   have f5:(W).frozen? ⟨w.heap.size+1,5,none⟩=false:=HRP.out.frozen 5
   have c0:(W).cell? ⟨w.heap.size+1,0,none⟩=some (.int .i64 0):=HRP.out.cell 0
   have c1:(W).cell? ⟨w.heap.size+1,1,none⟩=some (.slice none 0 0):=HRP.out.cell 1
   have c2:(W).cell? ⟨w.heap.size+1,2,none⟩=some (.int .i64 0):=HRP.out.cell 2
   have c3:(W).cell? ⟨w.heap.size+1,3,none⟩=some (.bool false):=HRP.out.cell 3
   have c4:(W).cell? ⟨w.heap.size+1,4,none⟩=some (.int .u64 0):=HRP.out.cell 4
   have c5:(W).cell? ⟨w.heap.size+1,5,none⟩=some (.int .u64 0):=HRP.out.cell 5
   have HP:=Lib.hid (And.intro (HRP.out.put (.int .i64 260) (.slice none 0 0) (.int .i64 0) (.bool false) (.int .u64 0) (.int .u64 0)) (upd_put (q:=w.heap.size+1) (Upd.refl [w.heap.size+1] (W)) (.inl (by simp)) (.int .i64 260) (.slice none 0 0) (.int .i64 0) (.bool false) (.int .u64 0) (.int .u64 0)))
   go_wp2_with fail
   have y0:=HP.out.1.cell 0
   have y1:=HP.out.1.cell 1
   have y2:=HP.out.1.cell 2
   have y3:=HP.out.1.cell 3
   have y4:=HP.out.1.cell 4
   have y5:=HP.out.1.cell 5
   simp only [List.getElem?_toArray,List.getElem?_cons_zero,List.getElem?_cons_succ] at y0 y1 y2 y3 y4 y5
   refine bodyPost_ret (v:=repV 260 0 false (.slice none 0 0) 0 0) ?_ rfl ?_
   ·simp [repV,results,Tryz.results9,go_sem,y0,y1,y2,y3,y4,y5]
   ·rw [←HRR.out]
    exact ⟨⟨_,rfl,repAt_err _ 260⟩,HF.out.2.2.2.upd HP.out.2 (by have:=HL.out;simp;omega) (by have:=HL.out;simp;omega) (by have:=HL.out;simp;omega) (by have:=HL.out;simp;omega),(HF.out.2.2.1.trans' HP.out.2 (fun k hk=>.inr (by simp at hk;omega))).mono (by simp)⟩
  ·have d2:decide (20<c)=false:=decide_eq_false h2
   by_cases h3:c≤6
   ·have d3:decide (c≤6)=true:=decide_eq_true h3
    have hr:=HR.out
    unfold doM at hr
    have hcc:=HCC.out
    rw [if_neg (by dsimp only;omega),if_pos (by dsimp only;omega)] at hr
    skip
    have hcall:=HCH.out _ HF.out.2.2.1 (by omega)
    unfold ChgPost at hcall
    rw [hr] at hcall
    dsimp only at hcall
    have HCALL:=Lib.hid hcall
    clear hr
    clear hcall hc0 hcc
    go_upto_region 6 with (go_at_call 32;refine HNO.out.mono ?_;rintro e w' ⟨rfl,rfl⟩)
    go_wp2_with fail
    (with_reducible refine HCALL.out.mono ?_)
    rintro e w8 ⟨⟨v,rfl,hre⟩,hmp,hup⟩
    have HV:=Lib.hid (And.intro hre (And.intro hmp hup))
    clear hre hmp hup
    clear o0 o1 o2 o3 o4 o5
    obtain ⟨Av,Cv,hv,lv,hve,hrest⟩:=HV.out.1
    clear hrest
    unfold repV at hve
    subst hve
    have HRP:=Lib.hid (RpAt.upd HF.out.2.1 HV.out.2.2 (by have:=HL.out;simp;omega))
    have f0:(w8).frozen? ⟨w.heap.size+1,0,none⟩=false:=HRP.out.frozen 0
    have f1:(w8).frozen? ⟨w.heap.size+1,1,none⟩=false:=HRP.out.frozen 1
    have f2:(w8).frozen? ⟨w.heap.size+1,2,none⟩=false:=HRP.out.frozen 2
    have f3:(w8).frozen? ⟨w.heap.size+1,3,none⟩=false:=HRP.out.frozen 3
    have f4:(w8).frozen? ⟨w.heap.size+1,4,none⟩=false:=HRP.out.frozen 4
    have f5:(w8).frozen? ⟨w.heap.size+1,5,none⟩=false:=HRP.out.frozen 5
    have c0:(w8).cell? ⟨w.heap.size+1,0,none⟩=some (.int .i64 0):=HRP.out.cell 0
    have c1:(w8).cell? ⟨w.heap.size+1,1,none⟩=some (.slice none 0 0):=HRP.out.cell 1
    have c2:(w8).cell? ⟨w.heap.size+1,2,none⟩=some (.int .i64 0):=HRP.out.cell 2
    have c3:(w8).cell? ⟨w.heap.size+1,3,none⟩=some (.bool false):=HRP.out.cell 3
    have c4:(w8).cell? ⟨w.heap.size+1,4,none⟩=some (.int .u64 0):=HRP.out.cell 4
    have c5:(w8).cell? ⟨w.heap.size+1,5,none⟩=some (.int .u64 0):=HRP.out.cell 5
    have HP:=Lib.hid (And.intro (HRP.out.put (.int .i64 (z.err:Int)) (.slice Av z.ids.length Cv) (.int .i64 (z.cnt:Int)) (.bool z.yes) (.int .u64 (hv:Int)) (.int .u64 (lv:Int))) (upd_put (q:=w.heap.size+1) (Upd.refl [w.heap.size+1] (w8)) (.inl (by simp)) (.int .i64 (z.err:Int)) (.slice Av z.ids.length Cv) (.int .i64 (z.cnt:Int)) (.bool z.yes) (.int .u64 (hv:Int)) (.int .u64 (lv:Int))))
    go_wp2_with fail
    have y0:=HP.out.1.cell 0
    have y1:=HP.out.1.cell 1
    have y2:=HP.out.1.cell 2
    have y3:=HP.out.1.cell 3
    have y4:=HP.out.1.cell 4
    have y5:=HP.out.1.cell 5
    simp only [List.getElem?_toArray,List.getElem?_cons_zero,List.getElem?_cons_succ] at y0 y1 y2 y3 y4 y5
    refine bodyPost_ret (v:=repV z.err z.cnt z.yes (.slice Av z.ids.length Cv) hv lv) ?_ rfl ?_
    ·simp [repV,results,Tryz.results9,go_sem,y0,y1,y2,y3,y4,y5]
    ·exact ChgPost.updQ (v:=_) (w1:=w8) ⟨⟨_,rfl,HV.out.1⟩,HV.out.2.1,(HF.out.2.2.1.mono (by simp)).trans HV.out.2.2⟩ rfl (by omega) HRP.out HP.out.2 HL.out.1 HL.out.2.1 HL.out.2.2.1 HL.out.2.2.2
   ·have d3:decide (c≤6)=false:=decide_eq_false h3
    by_cases h4:c≤14
    ·have d4:decide (c≤14)=true:=decide_eq_true h4
     have hr:=HR.out
     unfold doM at hr
     have hcc:=HCC.out
     rw [if_neg (by dsimp only;omega),if_neg (by dsimp only;omega),if_pos (by dsimp only;omega)] at hr
     have e1:=congrArg Prod.fst hr
     have e2:=congrArg Prod.snd hr
     dsimp only at e1 e2
     subst e1
     clear hr
     have hcall:=HPT.out _ HF.out.2.2.1 (by omega)
     rw [e2] at hcall
     have HCALL:=Lib.hid hcall
     clear e2
     clear hcall hc0 hcc
     go_upto_region 8 with (go_at_call 32;refine HNO.out.mono ?_;rintro e w' ⟨rfl,rfl⟩)
     go_wp2_with fail
     (with_reducible refine HCALL.out.mono ?_)
     rintro e w8 ⟨v,rfl,hre,hup⟩
     have HV:=Lib.hid (And.intro hre hup)
     clear hre hup
     clear o0 o1 o2 o3 o4 o5
     obtain ⟨Av,Cv,hv,lv,hve,hrest⟩:=HV.out.1
     clear hrest
     unfold repV at hve
     subst hve
     have HRP:=Lib.hid (RpAt.upd HF.out.2.1 HV.out.2 (by have:=HL.out;simp))
     have f0:(w8).frozen? ⟨w.heap.size+1,0,none⟩=false:=HRP.out.frozen 0
     have f1:(w8).frozen? ⟨w.heap.size+1,1,none⟩=false:=HRP.out.frozen 1
     have f2:(w8).frozen? ⟨w.heap.size+1,2,none⟩=false:=HRP.out.frozen 2
     have f3:(w8).frozen? ⟨w.heap.size+1,3,none⟩=false:=HRP.out.frozen 3
     have f4:(w8).frozen? ⟨w.heap.size+1,4,none⟩=false:=HRP.out.frozen 4
     have f5:(w8).frozen? ⟨w.heap.size+1,5,none⟩=false:=HRP.out.frozen 5
     have c0:(w8).cell? ⟨w.heap.size+1,0,none⟩=some (.int .i64 0):=HRP.out.cell 0
     have c1:(w8).cell? ⟨w.heap.size+1,1,none⟩=some (.slice none 0 0):=HRP.out.cell 1
     have c2:(w8).cell? ⟨w.heap.size+1,2,none⟩=some (.int .i64 0):=HRP.out.cell 2
     have c3:(w8).cell? ⟨w.heap.size+1,3,none⟩=some (.bool false):=HRP.out.cell 3
     have c4:(w8).cell? ⟨w.heap.size+1,4,none⟩=some (.int .u64 0):=HRP.out.cell 4
     have c5:(w8).cell? ⟨w.heap.size+1,5,none⟩=some (.int .u64 0):=HRP.out.cell 5
     have HP:=Lib.hid (And.intro (HRP.out.put (.int .i64 (z.err:Int)) (.slice Av z.ids.length Cv) (.int .i64 (z.cnt:Int)) (.bool z.yes) (.int .u64 (hv:Int)) (.int .u64 (lv:Int))) (upd_put (q:=w.heap.size+1) (Upd.refl [w.heap.size+1] (w8)) (.inl (by simp)) (.int .i64 (z.err:Int)) (.slice Av z.ids.length Cv) (.int .i64 (z.cnt:Int)) (.bool z.yes) (.int .u64 (hv:Int)) (.int .u64 (lv:Int))))
     go_wp2_with fail
     have y0:=HP.out.1.cell 0
     have y1:=HP.out.1.cell 1
     have y2:=HP.out.1.cell 2
     have y3:=HP.out.1.cell 3
     have y4:=HP.out.1.cell 4
     have y5:=HP.out.1.cell 5
     simp only [List.getElem?_toArray,List.getElem?_cons_zero,List.getElem?_cons_succ] at y0 y1 y2 y3 y4 y5
     refine bodyPost_ret (v:=repV z.err z.cnt z.yes (.slice Av z.ids.length Cv) hv lv) ?_ rfl ?_
     ·simp [repV,results,Tryz.results9,go_sem,y0,y1,y2,y3,y4,y5]
     ·exact ChgPost.updQ (v:=_) (w1:=w8) ⟨⟨_,rfl,HV.out.1⟩,HF.out.2.2.2.upd0 HV.out.2,(HF.out.2.2.1.trans HV.out.2).mono (by simp)⟩ rfl (by omega) HRP.out HP.out.2 HL.out.1 HL.out.2.1 HL.out.2.2.1 HL.out.2.2.2
    ·have d4:decide (c≤14)=false:=decide_eq_false h4
     have hr:=HR.out
     unfold doM at hr
     have hcc:=HCC.out
     rw [if_neg (by dsimp only;omega),if_neg (by dsimp only;omega),if_neg (by dsimp only;omega)] at hr
     have e1:=congrArg Prod.fst hr
     have e2:=congrArg Prod.snd hr
     dsimp only at e1 e2
     subst e1
     clear hr
     have hcall:=HOT.out _ HF.out.2.2.1 (by omega)
     rw [e2] at hcall
     have HCALL:=Lib.hid hcall
     clear e2
     clear hcall hc0 hcc
     go_upto_region 9 with (go_at_call 32;refine HNO.out.mono ?_;rintro e w' ⟨rfl,rfl⟩)
     go_wp2_with fail
     (with_reducible refine HCALL.out.mono ?_)
     rintro e w8 ⟨v,rfl,hre,hup⟩
     have HV:=Lib.hid (And.intro hre hup)
     clear hre hup
     clear o0 o1 o2 o3 o4 o5
     obtain ⟨Av,Cv,hv,lv,hve,hrest⟩:=HV.out.1
     clear hrest
     unfold repV at hve
     subst hve
     have HRP:=Lib.hid (RpAt.upd HF.out.2.1 HV.out.2 (by have:=HL.out;simp))
     have f0:(w8).frozen? ⟨w.heap.size+1,0,none⟩=false:=HRP.out.frozen 0
     have f1:(w8).frozen? ⟨w.heap.size+1,1,none⟩=false:=HRP.out.frozen 1
     have f2:(w8).frozen? ⟨w.heap.size+1,2,none⟩=false:=HRP.out.frozen 2
     have f3:(w8).frozen? ⟨w.heap.size+1,3,none⟩=false:=HRP.out.frozen 3
     have f4:(w8).frozen? ⟨w.heap.size+1,4,none⟩=false:=HRP.out.frozen 4
     have f5:(w8).frozen? ⟨w.heap.size+1,5,none⟩=false:=HRP.out.frozen 5
     have c0:(w8).cell? ⟨w.heap.size+1,0,none⟩=some (.int .i64 0):=HRP.out.cell 0
     have c1:(w8).cell? ⟨w.heap.size+1,1,none⟩=some (.slice none 0 0):=HRP.out.cell 1
     have c2:(w8).cell? ⟨w.heap.size+1,2,none⟩=some (.int .i64 0):=HRP.out.cell 2
     have c3:(w8).cell? ⟨w.heap.size+1,3,none⟩=some (.bool false):=HRP.out.cell 3
     have c4:(w8).cell? ⟨w.heap.size+1,4,none⟩=some (.int .u64 0):=HRP.out.cell 4
     have c5:(w8).cell? ⟨w.heap.size+1,5,none⟩=some (.int .u64 0):=HRP.out.cell 5
     have HP:=Lib.hid (And.intro (HRP.out.put (.int .i64 (z.err:Int)) (.slice Av z.ids.length Cv) (.int .i64 (z.cnt:Int)) (.bool z.yes) (.int .u64 (hv:Int)) (.int .u64 (lv:Int))) (upd_put (q:=w.heap.size+1) (Upd.refl [w.heap.size+1] (w8)) (.inl (by simp)) (.int .i64 (z.err:Int)) (.slice Av z.ids.length Cv) (.int .i64 (z.cnt:Int)) (.bool z.yes) (.int .u64 (hv:Int)) (.int .u64 (lv:Int))))
     go_wp2_with fail
     have y0:=HP.out.1.cell 0
     have y1:=HP.out.1.cell 1
     have y2:=HP.out.1.cell 2
     have y3:=HP.out.1.cell 3
     have y4:=HP.out.1.cell 4
     have y5:=HP.out.1.cell 5
     simp only [List.getElem?_toArray,List.getElem?_cons_zero,List.getElem?_cons_succ] at y0 y1 y2 y3 y4 y5
     refine bodyPost_ret (v:=repV z.err z.cnt z.yes (.slice Av z.ids.length Cv) hv lv) ?_ rfl ?_
     ·simp [repV,results,Tryz.results9,go_sem,y0,y1,y2,y3,y4,y5]
     ·exact ChgPost.updQ (v:=_) (w1:=w8) ⟨⟨_,rfl,HV.out.1⟩,HF.out.2.2.2.upd0 HV.out.2,(HF.out.2.2.1.trans HV.out.2).mono (by simp)⟩ rfl (by omega) HRP.out HP.out.2 HL.out.1 HL.out.2.1 HL.out.2.2.1 HL.out.2.2.2
theorem wide_eql (a b a' b':Int):∃q:Bool,(∀w,(binOp .eql 37 (.agg #[.int .u64 a,.int .u64 b]) (.agg #[.int .u64 a',.int .u64 b'])).run Tryz.prog w=.ok (.bool q) w)∧(q=true↔a=a'∧b=b'):=by
 by_cases h:a=a'∧b=b'
 ·obtain ⟨rfl,rfl⟩:=h
  refine ⟨true,fun w=>?_,by simp⟩
  rw [run_eql_struct,run_equalIn_agg _ _ _ _ _ (by kernel_rfl) (by kernel_rfl)]
  go_simp
 ·refine ⟨false,fun w=>?_,by simp only [Bool.false_eq_true,false_iff];exact h⟩
  have HH:=Lib.hid h
  clear h
  rw [run_eql_struct,run_equalIn_agg _ _ _ _ _ (by kernel_rfl) (by kernel_rfl)]
  go_simp
  rintro rfl rfl
  exact HH.out ⟨rfl,rfl⟩
theorem sameC (v1 v2:Value) (r1 r2:RepP) (w:World) (h1:RepAt w v1 r1) (h2:RepAt w v2 r2) (l1:r1.ids.length<1000000) (l2:r2.ids.length<1000000) :
 Calls Tryz.prog 8 #[v1,v2] w fun e w'=>∃b,e=.returned (.bool b)∧(b=true↔r1=r2)∧Upd [] w w':=by
 obtain ⟨A1,C1,hi1,lo1,rfl,s1,b1,b2,b3⟩:=h1
 obtain ⟨A2,C2,hi2,lo2,rfl,s2,b4,b5,b6⟩:=h2
 obtain ⟨e1,L1,c1,y1,W1⟩:=r1
 obtain ⟨e2,L2,c2,y2,W2⟩:=r2
 unfold repV
 dsimp only at s1 s2 b3 b6 l1 l2 ⊢
 obtain ⟨q5,hq5,hw5⟩:=wide_eql (hi1:Int) (lo1:Int) (hi2:Int) (lo2:Int)
 have hW:q5=true↔W1=W2:=by
  rw [hw5,b3,b6]
  constructor
  ·rintro ⟨x,y⟩;omega
  ·intro x;constructor<;>omega
 have hN:=lowNC (.slice A1 L1.length C1) (.slice A2 L2.length C2) L1 L2
 obtain ⟨n1,hn1⟩:∃n,L1.length=n:=⟨_,rfl⟩
 obtain ⟨n2,hn2⟩:∃n,L2.length=n:=⟨_,rfl⟩
 rw [hn1] at s1 l1 hN ⊢
 rw [hn2] at s2 l2 hN ⊢
 have HN:=Lib.hid (fun (w9:World) (hu:Upd [] w w9)=>hN w9 (s1.upd0 hu) (s2.upd0 hu) l1 l2)
 have HW:=Lib.hid hW
 clear hN hW hw5 b1 b2 b3 b4 b5 b6 s1 s2 l1 l2 hn1 hn2
 obtain ⟨q1,hq1⟩:∃q,((e1:Int)==(e2:Int))=q:=⟨_,rfl⟩
 obtain ⟨q3,hq3⟩:∃q,((c1:Int)==(c2:Int))=q:=⟨_,rfl⟩
 obtain ⟨q4,hq4⟩:∃q,(y1==y2)=q:=⟨_,rfl⟩
 have k1:q1=true↔e1=e2:=by rw [←hq1,beq_iff_eq];omega
 have k3:q3=true↔c1=c2:=by rw [←hq3,beq_iff_eq];omega
 have k4:q4=true↔y1=y2:=by rw [←hq4,beq_iff_eq]
 have HK:=Lib.hid (And.intro k1 (And.intro k3 k4))
 clear k1 k3 k4
 have hu:Upd [] w ((w.alloc (.cells #[.int .i64 (e1:Int),.slice A1 n1 C1,.int .i64 (c1:Int),.bool y1,.int .u64 (hi1:Int),.int .u64 (lo1:Int)] 39)).alloc (.cells #[.int .i64 (e2:Int),.slice A2 n2 C2,.int .i64 (c2:Int),.bool y2,.int .u64 (hi2:Int),.int .u64 (lo2:Int)] 39)):=((Upd.refl _ _).alloc _).alloc _
 have r1:RpAt ((w.alloc (.cells #[.int .i64 (e1:Int),.slice A1 n1 C1,.int .i64 (c1:Int),.bool y1,.int .u64 (hi1:Int),.int .u64 (lo1:Int)] 39)).alloc (.cells #[.int .i64 (e2:Int),.slice A2 n2 C2,.int .i64 (c2:Int),.bool y2,.int .u64 (hi2:Int),.int .u64 (lo2:Int)] 39)) w.heap.size #[.int .i64 (e1:Int),.slice A1 n1 C1,.int .i64 (c1:Int),.bool y1,.int .u64 (hi1:Int),.int .u64 (lo1:Int)]:=RpAt.upd (heap_alloc_new w _) ((Upd.refl [] _).alloc _) (by simp)
 have r2:RpAt ((w.alloc (.cells #[.int .i64 (e1:Int),.slice A1 n1 C1,.int .i64 (c1:Int),.bool y1,.int .u64 (hi1:Int),.int .u64 (lo1:Int)] 39)).alloc (.cells #[.int .i64 (e2:Int),.slice A2 n2 C2,.int .i64 (c2:Int),.bool y2,.int .u64 (hi2:Int),.int .u64 (lo2:Int)] 39)) (w.heap.size+1) #[.int .i64 (e2:Int),.slice A2 n2 C2,.int .i64 (c2:Int),.bool y2,.int .u64 (hi2:Int),.int .u64 (lo2:Int)]:=by
  have:=heap_alloc_new (w.alloc (.cells #[.int .i64 (e1:Int),.slice A1 n1 C1,.int .i64 (c1:Int),.bool y1,.int .u64 (hi1:Int),.int .u64 (lo1:Int)] 39)) (.cells #[.int .i64 (e2:Int),.slice A2 n2 C2,.int .i64 (c2:Int),.bool y2,.int .u64 (hi2:Int),.int .u64 (lo2:Int)] 39)
  unfold RpAt
  simpa using this
 go_enter Tryz.func8,Tryz.ntmps8
 go_upto_region 1 with fail
 generalize ((w.alloc (.cells #[.int .i64 (e1:Int),.slice A1 n1 C1,.int .i64 (c1:Int),.bool y1,.int .u64 (hi1:Int),.int .u64 (lo1:Int)] 39)).alloc (.cells #[.int .i64 (e2:Int),.slice A2 n2 C2,.int .i64 (c2:Int),.bool y2,.int .u64 (hi2:Int),.int .u64 (lo2:Int)] 39))=W at hu r1 r2 ⊢
 have HF:=Lib.hid (And.intro hu (And.intro r1 r2))
 have x0:=r1.cell 0
 have x1:=r1.cell 1
 have z0:=r2.cell 0
 have z1:=r2.cell 1
 simp only [List.getElem?_toArray,List.getElem?_cons_zero,List.getElem?_cons_succ] at x0 x1 z0 z1
 clear hu r1 r2
 cases q1 with
 |false=>
  go_wp2_with fail
  go_ret
  refine ⟨_,rfl,?_,HF.out.1⟩
  have h:=HK.out.1
  simp only [Bool.false_eq_true,false_iff] at h ⊢
  intro hc
  injection hc with x
  exact h x
 |true=>
  go_wp2_with fail
  (with_reducible refine (HN.out _ HF.out.1).mono ?_)
  rintro e w1 ⟨b,rfl,hs,hu1⟩
  have HS:=Lib.hid (And.intro hs hu1)
  have r1:=HF.out.2.1.upd hu1 (by simp)
  have r2:=HF.out.2.2.upd hu1 (by simp)
  clear hs hu1 x0 x1 z0 z1
  have x2:=r1.cell 2
  have x3:=r1.cell 3
  have x4:=r1.cell 4
  have x5:=r1.cell 5
  have z2:=r2.cell 2
  have z3:=r2.cell 3
  have z4:=r2.cell 4
  have z5:=r2.cell 5
  simp only [List.getElem?_toArray,List.getElem?_cons_zero,List.getElem?_cons_succ] at x2 x3 x4 x5 z2 z3 z4 z5
  clear r1 r2
  cases b with
  |false=>
   go_wp2_with fail
   go_ret
   refine ⟨_,rfl,?_,HF.out.1.trans HS.out.2⟩
   have h:=HS.out.1
   unfold SameL at h
   simp only [Bool.false_eq_true,false_iff] at h ⊢
   intro hc
   injection hc with _ x
   exact h x
  |true=>
   cases q3 with
   |false=>
    go_wp2_with fail
    go_ret
    refine ⟨_,rfl,?_,HF.out.1.trans HS.out.2⟩
    have h:=HK.out.2.1
    simp only [Bool.false_eq_true,false_iff] at h ⊢
    intro hc
    injection hc with _ _ x
    exact h x
   |true=>
    cases q4 with
    |false=>
     go_wp2_with fail
     go_ret
     refine ⟨_,rfl,?_,HF.out.1.trans HS.out.2⟩
     have h:=HK.out.2.2
     simp only [Bool.false_eq_true,false_iff] at h ⊢
     intro hc
     injection hc with _ _ _ x
     exact h x
    |true=>
     go_wp2_with fail
     go_ret
     refine ⟨_,rfl,?_,HF.out.1.trans HS.out.2⟩
     rw [HW.out]
     have h1:=HK.out.1.1 (by simp)
     have h3:=HK.out.2.1.1 (by simp)
     have h4:=HK.out.2.2.1 (by simp)
     have h2:L1=L2:=HS.out.1.1 rfl
     subst h1 h2 h3 h4
     constructor
     ·rintro rfl;rfl
     ·intro hc;injection hc
structure AR (A R:List Bx→Nat):Prop where
 a:WideOf 86 A
 r:WideOf 87 R
 a0:A []=0
structure MM (w:World) (h p s x:Nat) (m:Md) (N:Nat):Prop where
 at':MdAt w h p s x m
 in64:m.in64
 small:m.ps.length≤N∧m.ss.length≤N∧m.bs.length≤N
theorem MM.upd0 {w w':World} {h p s x N:Nat} {m:Md} (g:MM w h p s x m N) (hu:Upd [] w w'):MM w' h p s x m N:=⟨g.at'.upd0 hu,g.in64,g.small⟩
theorem names_len {α:Type} (key:α→Nat) (l:List α) (p:α→Bool):(namesM key l p).length≤l.length:=by
 unfold namesM
 rw [List.length_map]
 exact List.length_filter_le _ _
theorem do_short {A R:List Bx→Nat} {m:Md} {o:OpP} {N:Nat} (h:m.ps.length≤N∧m.ss.length≤N∧m.bs.length≤N):(doM A R m o).2.ids.length≤N:=by
 unfold doM
 split
 ·exact Nat.zero_le _
 split
 ·have:(changeM m o).2.ids = []:=by
   unfold changeM
   repeat' split
   all_goals first | exact come_ids _ _ _ _ | exact lose_ids _ _ _ | rfl
  rw [this];exact Nat.zero_le _
 split
 ·unfold pointM
  dsimp only
  repeat' split
  all_goals first | exact Nat.zero_le _ | exact Nat.le_trans (names_len _ _ _) h.1
 ·unfold otherM
  repeat' split
  all_goals first | exact Nat.zero_le _ | exact Nat.le_trans (names_len _ _ _) h.2.1 | exact Nat.le_trans (names_len _ _ _) h.2.2
theorem See.noMap {α β:Type} {K:Kind α} {M:MK β} {w:World} {v:Value} {l:List α} {b n:Nat} {f:Nat→Option β} (hs:See K w v l) (hsz:0<K.sz) (hm:MapU M w b f n) (hl:0<l.length):b∉blk v:=by
 intro hb
 obtain ⟨A,C,rfl⟩:=hs.form
 rcases l with _ | ⟨a,l⟩
 ·simp at hl
 ·obtain ⟨b',o,rfl,_,_,hc⟩:=See.at hs (k:=0) (x:=a) rfl
  simp only [blk,List.mem_singleton] at hb
  subst hb
  have hlen:=K.len a
  obtain ⟨u,hu⟩:∃u,(K.enc a)[0]? = some u:=⟨_,List.getElem?_eq_getElem (by omega)⟩
  have h1:=hc 0 u hu
  obtain ⟨D,⟨es,clock,hh,_⟩,_⟩:=hm
  simp [World.cell?,hh] at h1
theorem See.updM {α:Type} {K:Kind α} {w w':World} {v:Value} {l:List α} {h p s x:Nat} {m:Md} (hs:See K w v l) (hsz:0<K.sz) (g:MdAt w h p s x m) (hu:Upd [p,s,x] w w'):See K w' v l:=
 hs.upd hu fun hl k hk _ hc=>by
  simp only [List.mem_cons,List.not_mem_nil,or_false] at hc
  rcases hc with rfl | rfl | rfl
  ·exact hs.noMap hsz g.ps hl hk
  ·exact hs.noMap hsz g.ss hl hk
  ·exact hs.noMap hsz g.bs hl hk
theorem RepAt.updM {w w':World} {v:Value} {r:RepP} {h p s x:Nat} {m:Md} (hr:RepAt w v r) (g:MdAt w h p s x m) (hu:Upd [p,s,x] w w'):RepAt w' v r:=by
 obtain ⟨A,C,hi,lo,h1,h2,h3⟩:=hr
 exact ⟨A,C,hi,lo,h1,h2.updM (by decide) g hu,h3⟩
theorem doMM {A R:List Bx→Nat} (ar:AR A R) {w:World} {h p s x N:Nat} {m:Md} (g:MM w h p s x m N) (hN:N<1000000) (o:OpP) (ho:o.in64) :
 Calls Tryz.prog 9 #[.pointer (some ⟨h,0,none⟩),opV o] w fun e w'=>(∃v,e=.returned v∧RepAt w' v (doM A R m o).2)∧MM w' h p s x (doM A R m o).1 (N+1)∧Upd [p,s,x] w w':=by
 obtain ⟨h1,h2,h3⟩:=g.small
 refine (doC ar.a ar.r g.at' g.in64 o ho.2.1 (by omega) (by omega) (by omega)).mono fun e w' ⟨k1,k2,k3⟩=>⟨k1,⟨k2,doM_in64 g.in64 ho,doM_len g.at'.ok h1 h2 h3⟩,k3⟩
theorem toldC {A R:List Bx→Nat} (ar:AR A R) {w:World} {h p s x N:Nat} {m:Md} (g:MM w h p s x m N) (hN:N<1000000) (o:OpP) (ho:o.in64) (e cnt:Nat) (v:Value) (L:List Nat) (hv:See KU w v L) (hL:L.length<1000000) :
 Calls Tryz.prog 24 #[.pointer (some ⟨h,0,none⟩),opV o,.int .i64 (e:Int),.int .i64 (cnt:Int),v] w fun e' w'=>∃b,e'=.returned (.bool b)∧(b=true↔(doM A R m o).2=⟨e,L,cnt,false,0⟩)∧MM w' h p s x (doM A R m o).1 (N+1)∧Upd [p,s,x] w w':=by
 obtain ⟨A',C',rfl⟩:=hv.form
 have hdo:=fun (w9:World) (hu:Upd [] w w9)=>doMM ar (g.upd0 hu) hN o ho
 have hsh:=do_short (A:=A) (R:=R) (o:=o) g.small
 obtain ⟨⟨m2,z⟩,hr⟩:∃r,doM A R m o=r:=⟨_,rfl⟩
 simp only [hr] at hdo hsh ⊢
 have HG:=Lib.hid g
 have HV:=Lib.hid (And.intro hv hL)
 have HSH:=Lib.hid (And.intro hsh hN)
 obtain ⟨n,hn⟩:∃n,L.length=n:=⟨_,rfl⟩
 rw [hn]
 have HNN:=Lib.hid hn
 clear g hv hL hr hsh hN ho hn
 obtain ⟨oc,oa,ob,occ,od,oi⟩:=o
 unfold opV at hdo ⊢
 dsimp only at hdo ⊢
 have HDO:=Lib.hid hdo
 clear hdo
 have hu:Upd [] w (w.alloc (.cells #[.int .u8 (oc:Int),.int .i64 oa,.int .i64 ob,.int .i64 occ,.int .i64 od,.int .u32 (oi:Int)] 43)):=(Upd.refl _ _).alloc _
 have hcl:CelB (w.alloc (.cells #[.int .u8 (oc:Int),.int .i64 oa,.int .i64 ob,.int .i64 occ,.int .i64 od,.int .u32 (oi:Int)] 43)) w.heap.size [.int .u8 (oc:Int),.int .i64 oa,.int .i64 ob,.int .i64 occ,.int .i64 od,.int .u32 (oi:Int)]:=CelB.of_heap (heap_alloc_new w _)
 go_enter Tryz.func24,Tryz.ntmps24
 go_upto_region 1 with fail
 generalize (w.alloc (.cells #[.int .u8 (oc:Int),.int .i64 oa,.int .i64 ob,.int .i64 occ,.int .i64 od,.int .u32 (oi:Int)] 43))=W at hu hcl ⊢
 have o0:=hcl 0 _ rfl
 have o1:=hcl 1 _ rfl
 have o2:=hcl 2 _ rfl
 have o3:=hcl 3 _ rfl
 have o4:=hcl 4 _ rfl
 have o5:=hcl 5 _ rfl
 have HU:=Lib.hid hu
 clear hcl hu
 go_wp2_with fail
 (with_reducible refine (HDO.out _ HU.out).mono ?_)
 rintro e8 w8 ⟨⟨u,rfl,hre⟩,hmm,hup⟩
 have HR:=Lib.hid (And.intro hre (And.intro hmm hup))
 clear hre hmm hup o0 o1 o2 o3 o4 o5
 obtain ⟨Av,Cv,hv,lv,hve,-⟩:=HR.out.1
 unfold repV at hve
 subst hve
 go_wp2_with fail
 have hwant:RepAt w8 (.agg #[.int .i64 (e:Int),.slice A' n C',.int .i64 (cnt:Int),.bool false,.int .u64 0,.int .u64 0]) ⟨e,L,cnt,false,0⟩:=
  ⟨A',C',0,0,by rw [←HNN.out];rfl,(HV.out.1.upd0 HU.out).updM (by decide) (HG.out.at'.upd0 HU.out) HR.out.2.2,by decide,by decide,rfl⟩
 (with_reducible refine (sameC _ _ z ⟨e,L,cnt,false,0⟩ w8 HR.out.1 hwant (by have:=HSH.out;omega) HV.out.2).mono ?_)
 rintro e9 w9 ⟨b,rfl,hb,hu9⟩
 have HB:=Lib.hid (And.intro hb hu9)
 clear hb hu9 hwant
 go_wp2_with fail
 go_ret
 exact ⟨b,rfl,HB.out.1,HR.out.2.1.upd0 HB.out.2,((HU.out.mono (by simp)).trans HR.out.2.2).trans (HB.out.2.mono (by simp))⟩
end Go.Proofs.YtkmnbodlciepaaaGreat
