/- The document's model: something comes. Printed by mkrefmc.py. -/
import Derived.Test.YtkmnbodlciepaaaGreatPk27
import Derived.Test.YtkmnbodlciepaaaGreatPk17
set_option maxHeartbeats 16000000
set_option maxRecDepth 100000
namespace Go.Proofs.YtkmnbodlciepaaaGreat
open Go.RowKit
def RDoPost (w:World) (r:Nat) (R:Md×RepP) (e:Ending) (w':World):Prop:=(∃v,e=.returned v∧RepAt w' v R.2)∧(∃AP CP AS CS AB CB,RMd w' r R.1 AP CP AS CS AB CB)∧Upd [r] w w'
theorem rcome1 {w:World} {r:Nat} {m:Md} {AP AS AB:Option Addr} {CP CS CB:Nat} (h:RMd w r m AP CP AS CS AB CB) (hok:m.ok) (hl:m.ps.length<100000) (hroom:m.room<4611686018427387904) (oa ob occ od:Int) (oi:Nat) :
 Calls Tryz.prog 26 #[.pointer (some ⟨r,0,none⟩),.agg #[.int .u8 1,.int .i64 oa,.int .i64 ob,.int .i64 occ,.int .i64 od,.int .u32 (oi:Int)]] w (RDoPost w r (changeM m ⟨1,oa,ob,occ,od,oi⟩)):=by
 obtain ⟨i0,hi,hz0,hz1,hz2⟩:=info_parts info_point
 obtain ⟨R,hR⟩:∃R,changeM m ⟨1,oa,ob,occ,od,oi⟩=R:=⟨_,rfl⟩
 rw [hR]
 have HRES:=Lib.hid hR
 have HOK:=Lib.hid hok
 have hu:Upd [] w ((w.alloc (.cells #[.int .u8 1,.int .i64 oa,.int .i64 ob,.int .i64 occ,.int .i64 od,.int .u32 (oi:Int)] 43)).alloc (.cells repZ 39)):=((Upd.refl _ _).alloc _).alloc _
 have hop:HpC ((w.alloc (.cells #[.int .u8 1,.int .i64 oa,.int .i64 ob,.int .i64 occ,.int .i64 od,.int .u32 (oi:Int)] 43)).alloc (.cells repZ 39)) w.heap.size #[.int .u8 1,.int .i64 oa,.int .i64 ob,.int .i64 occ,.int .i64 od,.int .u32 (oi:Int)] 43:=(show HpC (w.alloc (.cells #[.int .u8 1,.int .i64 oa,.int .i64 ob,.int .i64 occ,.int .i64 od,.int .u32 (oi:Int)] 43)) w.heap.size #[.int .u8 1,.int .i64 oa,.int .i64 ob,.int .i64 occ,.int .i64 od,.int .u32 (oi:Int)] 43 from heap_alloc_new w _).upd ((Upd.refl [] _).alloc _) (by simp)
 have hrp:RpAt ((w.alloc (.cells #[.int .u8 1,.int .i64 oa,.int .i64 ob,.int .i64 occ,.int .i64 od,.int .u32 (oi:Int)] 43)).alloc (.cells repZ 39)) (w.heap.size+1) repZ:=by
  have:=heap_alloc_new (w.alloc (.cells #[.int .u8 1,.int .i64 oa,.int .i64 ob,.int .i64 occ,.int .i64 od,.int .u32 (oi:Int)] 43)) (.cells repZ 39)
  unfold RpAt
  simpa using this
 have hrl:r<w.heap.size:=lt_of_block h.head
 have HU:=Lib.hid hu
 have HM:=Lib.hid (h.upd0 hu)
 have HM0:=Lib.hid h
 have HOP:=Lib.hid hop
 have HRP:=Lib.hid hrp
 have HL:=Lib.hid (And.intro hl (And.intro hroom hrl))
 clear hR hok h hu hop hrp hl hroom hrl
 go_enter Tryz.func26,Tryz.ntmps26
 go_upto_region 1 with fail
 generalize ((w.alloc (.cells #[.int .u8 1,.int .i64 oa,.int .i64 ob,.int .i64 occ,.int .i64 od,.int .u32 (oi:Int)] 43)).alloc (.cells repZ 39))=W at HU HM HOP HRP ⊢
 obtain ⟨qo,hqo⟩:∃q,w.heap.size=q:=⟨_,rfl⟩
 obtain ⟨qr,hqr⟩:∃q,w.heap.size+1=q:=⟨_,rfl⟩
 rw [hqr] at HRP ⊢
 rw [hqo] at HOP ⊢
 have HQ:=Lib.hid (show w.heap.size≤qr∧w.heap.size≤qo∧qr≠qo∧r<w.heap.size from ⟨by omega,by omega,by omega,HL.out.2.2⟩)
 clear hqo hqr
 have o0:=HOP.out.cell 0
 have o1:=HOP.out.cell 1
 have o2:=HOP.out.cell 2
 have o3:=HOP.out.cell 3
 have o4:=HOP.out.cell 4
 have o5:=HOP.out.cell 5
 simp only [List.getElem?_toArray,List.getElem?_cons_zero,List.getElem?_cons_succ] at o0 o1 o2 o3 o4 o5
 have hres:=HRES.out
 unfold changeM comeM OpP.pt at hres
 dsimp only at hres
 simp only [if_true,if_false,Nat.reduceEqDiff] at hres
 go_upto_region 3 with fail
 clear o0 o1 o2 o3 o4 o5
 have HRS:=Lib.hid hres
 clear hres HRES
 obtain ⟨L,hL⟩:∃L,m.ps.map Pt.id=L:=⟨_,rfl⟩
 obtain ⟨n,hn⟩:∃n,m.ps.length=n:=⟨_,rfl⟩
 have hLn:L.length=n:=by rw [←hL,List.length_map,hn]
 have hnm:=rnames1 HM.out (by have:=HL.out.1;omega)
 unfold RowPostM at hnm
 rw [hL,hLn] at hnm
 have HNM:=Lib.hid hnm
 have HN:=Lib.hid (And.intro hL (And.intro hn hLn))
 have n0:(0:Int)≤(n:Int):=Int.natCast_nonneg _
 have n1:(n:Int)<100000:=by have:=HL.out.1;omega
 have m0:(0:Int)≤(m.room:Int):=Int.natCast_nonneg _
 have m1:(m.room:Int)<4611686018427387904:=by have:=HL.out.2.1;omega
 have o0:=HOP.out.cell 0
 simp only [List.getElem?_toArray,List.getElem?_cons_zero] at o0
 clear hnm hL hn hLn
 go_wp2_with fail
 (with_reducible refine HNM.out.mono ?_)
 rintro e w2 ⟨Ai,Ci,rfl,hrow,hu2⟩
 have hpl:=rplace (.slice Ai n Ci) L oi w2 (See.of_row hrow) (by have:=HN.out.2.2;omega)
 have HPL:=Lib.hid hpl
 have H2:=Lib.hid (And.intro hrow hu2)
 have o5:=(HOP.out.upd hu2 (by simp)).cell 5
 simp only [List.getElem?_toArray,List.getElem?_cons_zero,List.getElem?_cons_succ] at o5
 clear hpl hrow hu2 o0
 go_wp2_with fail
 (with_reducible refine HPL.out.mono ?_)
 rintro e w3 ⟨k,b,rfl,hp,hu3⟩
 have HU3:=Lib.hid (HU.out.trans (H2.out.2.trans hu3))
 have HU23:=Lib.hid hu3
 have HM3:=Lib.hid ((HM.out.upd0 H2.out.2).upd0 hu3)
 have HRP3:=Lib.hid ((HRP.out.upd H2.out.2 (by simp)).upd hu3 (by simp))
 have HOP3:=Lib.hid ((HOP.out.upd H2.out.2 (by simp)).upd hu3 (by simp))
 have hp':=hp
 rw [←HN.out.1] at hp'
 have hfd:=place_find HOK.out.ps hp'
 have HP:=Lib.hid (And.intro hp' hfd)
 clear hp hp' hfd hu3 o5 HPL HNM
 cases b with
 |true=>
  have hres:=HRS.out
  rw [if_pos HP.out.2] at hres
  subst hres
  go_wp2_with fail
  (with_reducible refine (rwrong 262 _).mono ?_)
  rintro e w8 ⟨rfl,u8⟩
  have HU8:=Lib.hid (HU3.out.trans u8)
  have HRP8:=Lib.hid (HRP3.out.upd u8 (by simp))
  clear u8
  have hrp:=HRP8.out
  have f0:(w8).frozen? ⟨qr,0,none⟩=false:=hrp.frozen 0
  have f1:(w8).frozen? ⟨qr,1,none⟩=false:=hrp.frozen 1
  have f2:(w8).frozen? ⟨qr,2,none⟩=false:=hrp.frozen 2
  have f3:(w8).frozen? ⟨qr,3,none⟩=false:=hrp.frozen 3
  have f4:(w8).frozen? ⟨qr,4,none⟩=false:=hrp.frozen 4
  have f5:(w8).frozen? ⟨qr,5,none⟩=false:=hrp.frozen 5
  have c0:=hrp.cell 0
  have c1:=hrp.cell 1
  have c2:=hrp.cell 2
  have c3:=hrp.cell 3
  have c4:=hrp.cell 4
  have c5:=hrp.cell 5
  simp only [List.getElem?_toArray,List.getElem?_cons_zero,List.getElem?_cons_succ] at c0 c1 c2 c3 c4 c5
  have HP:=Lib.hid (And.intro (hrp.put (.int .i64 262) (.slice none 0 0) (.int .i64 0) (.bool false) (.int .u64 0) (.int .u64 0)) (upd_put (q:=qr) HU8.out (.inr HQ.out.1) (.int .i64 262) (.slice none 0 0) (.int .i64 0) (.bool false) (.int .u64 0) (.int .u64 0)))
  clear hrp
  go_wp2_with fail
  clear f0 c0 f1 c1 f2 c2 f3 c3 f4 c4 f5 c5
  have y0:=HP.out.1.cell 0
  have y1:=HP.out.1.cell 1
  have y2:=HP.out.1.cell 2
  have y3:=HP.out.1.cell 3
  have y4:=HP.out.1.cell 4
  have y5:=HP.out.1.cell 5
  simp only [List.getElem?_toArray,List.getElem?_cons_zero,List.getElem?_cons_succ] at y0 y1 y2 y3 y4 y5
  refine bodyPost_ret (v:=repV 262 0 false (.slice none 0 0) 0 0) ?_ rfl ⟨⟨_,rfl,repAt_err _ _⟩,⟨AP,CP,AS,CS,AB,CB,HM0.out.upd0 HP.out.2⟩,HP.out.2.mono (by simp)⟩
  simp [repV,results,Tryz.results26,go_sem,y0,y1,y2,y3,y4,y5]
 |false=>
  have hres:=HRS.out
  rw [if_neg (by rw [HP.out.2];simp)] at hres
  by_cases hrm:m.room≤n
  ·have c0:=HM3.out.cells.1
   have d1:decide ((m.room:Int)≤(n:Int))=true:=decide_eq_true (by omega)
   have d2:decide (m.room≤n)=true:=decide_eq_true hrm
   rw [if_pos (by rw [HN.out.2.1];exact hrm)] at hres
   subst hres
   go_wp2_with fail
   (with_reducible refine (rwrong 5 _).mono ?_)
   rintro e w8 ⟨rfl,u8⟩
   have HU8:=Lib.hid (HU3.out.trans u8)
   have HRP8:=Lib.hid (HRP3.out.upd u8 (by simp))
   clear u8
   have hrp:=HRP8.out
   have f0:(w8).frozen? ⟨qr,0,none⟩=false:=hrp.frozen 0
   have f1:(w8).frozen? ⟨qr,1,none⟩=false:=hrp.frozen 1
   have f2:(w8).frozen? ⟨qr,2,none⟩=false:=hrp.frozen 2
   have f3:(w8).frozen? ⟨qr,3,none⟩=false:=hrp.frozen 3
   have f4:(w8).frozen? ⟨qr,4,none⟩=false:=hrp.frozen 4
   have f5:(w8).frozen? ⟨qr,5,none⟩=false:=hrp.frozen 5
   have c0:=hrp.cell 0
   have c1:=hrp.cell 1
   have c2:=hrp.cell 2
   have c3:=hrp.cell 3
   have c4:=hrp.cell 4
   have c5:=hrp.cell 5
   simp only [List.getElem?_toArray,List.getElem?_cons_zero,List.getElem?_cons_succ] at c0 c1 c2 c3 c4 c5
   have HP:=Lib.hid (And.intro (hrp.put (.int .i64 5) (.slice none 0 0) (.int .i64 0) (.bool false) (.int .u64 0) (.int .u64 0)) (upd_put (q:=qr) HU8.out (.inr HQ.out.1) (.int .i64 5) (.slice none 0 0) (.int .i64 0) (.bool false) (.int .u64 0) (.int .u64 0)))
   clear hrp
   go_wp2_with fail
   clear f0 c0 f1 c1 f2 c2 f3 c3 f4 c4 f5 c5
   have y0:=HP.out.1.cell 0
   have y1:=HP.out.1.cell 1
   have y2:=HP.out.1.cell 2
   have y3:=HP.out.1.cell 3
   have y4:=HP.out.1.cell 4
   have y5:=HP.out.1.cell 5
   simp only [List.getElem?_toArray,List.getElem?_cons_zero,List.getElem?_cons_succ] at y0 y1 y2 y3 y4 y5
   refine bodyPost_ret (v:=repV 5 0 false (.slice none 0 0) 0 0) ?_ rfl ⟨⟨_,rfl,repAt_err _ _⟩,⟨AP,CP,AS,CS,AB,CB,HM0.out.upd0 HP.out.2⟩,HP.out.2.mono (by simp)⟩
   simp [repV,results,Tryz.results26,go_sem,y0,y1,y2,y3,y4,y5]
  ·have d1:decide ((m.room:Int)≤(n:Int))=false:=decide_eq_false (by omega)
   have d2:decide (m.room≤n)=false:=decide_eq_false hrm
   rw [if_neg (by rw [HN.out.2.1];exact hrm)] at hres
   subst hres
   obtain ⟨c0,c1,c2,c3⟩:=HM3.out.cells
   rw [HN.out.2.1] at c1
   have o0:=HOP3.out.cell 0
   simp only [List.getElem?_toArray,List.getElem?_cons_zero] at o0
   go_upto_region 13 with fail
   have o1:=HOP3.out.cell 1
   have o2:=HOP3.out.cell 2
   have o3:=HOP3.out.cell 3
   have o4:=HOP3.out.cell 4
   have o5:=HOP3.out.cell 5
   simp only [List.getElem?_toArray,List.getElem?_cons_zero,List.getElem?_cons_succ] at o1 o2 o3 o4 o5
   have hkn:k≤n:=by have:=HP.out.1.1;rw [List.length_map,HN.out.2.1] at this;exact this
   have hsee:=HM3.out.ps
   unfold See at hsee
   rw [HN.out.2.1] at hsee
   obtain ⟨AT,CT,hct,hts,hbt⟩:=cut_to (P:=Tryz.prog) Tryz.underlying29 hi hz1 hsee k hkn
   have hXT:((KPt.all m.ps).take (k*3))=KPt.all (m.ps.take k):=(KPt.all_take m.ps k).symm
   obtain ⟨XT,hxt⟩:∃X,KPt.all (m.ps.take k)=X:=⟨_,rfl⟩
   rw [hXT,hxt] at hts
   have hone:∀u∈XT,u.oneCell'=true:=by rw [←hxt];exact KPt.all_one _
   have HCT:=Lib.hid hct
   have HTS:=Lib.hid (And.intro hsee hts)
   have HXT:=Lib.hid hxt
   have k0:(0:Int)≤(k:Int):=Int.natCast_nonneg _
   have k1:(k:Int)≤(n:Int):=by omega
   obtain ⟨AF,CF,hcf,hfs,hbf⟩:=cut_from (P:=Tryz.prog) Tryz.underlying29 hi hz1 hsee k hkn
   have hXF:((KPt.all m.ps).drop (k*3))=KPt.all (m.ps.drop k):=(KPt.all_drop m.ps k).symm
   rw [hXF] at hfs
   have HCF:=Lib.hid hcf
   have HFS:=Lib.hid hfs
   clear hsee hct hts hbt hXT hxt hcf hfs hbf hXF
   go_cut [8] (fun s we=>∃A C,s=.slice A (k+1) C∧we.ownsRow w3.heap.size 62 3 (.slice A (k+1) C) (k+1) (XT++[.int .i64 oa,.int .i64 ob,.int .u32 (oi:Int)])∧Upd [] w3 we)
   case first=>
    obtain ⟨Wd,hWd⟩:∃Wd,Wd=w3.drew:=⟨_,rfl⟩
    have HD0:=Lib.hid (show Upd [] w3 Wd by rw [hWd];exact (Upd.refl _ _).drew)
    obtain ⟨Wx,hWx⟩:∃Wx,Wx=Wd:=⟨_,rfl⟩
    have HUx:=Lib.hid (show Upd [] w3 Wx by rw [hWx];exact HD0.out)
    rw [←hWx] at hWd
    clear HD0 hWx
    refine GoT.start [] (fun w'=>Upd [] w3 w') (by kernel_rfl) ?_ fun hS=>?_
    ·exact (Upd.refl [] w3).drew
    rw [←hWd] at hS ⊢
    clear hWd
    refine' GoT.mv (i:=1) (oi:=⟨some 99,_,_,_,_,_⟩) rfl (by rfl) ?y13_1 ?_
    case y13_1=>intro w;go_simp<;>with_reducible rfl
    simp only [Act.put,sA,sZ,sS]
    refine' GoT.mv (i:=2) (oi:=⟨some 100,_,_,_,_,_⟩) rfl (by rfl) ?y13_2 ?_
    case y13_2=>intro w;go_simp<;>with_reducible rfl
    simp only [Act.put,sA,sZ,sS]
    refine' GoT.mv (i:=3) (oi:=⟨some 101,_,_,_,_,_⟩) rfl (by rfl) ?y13_3 ?_
    case y13_3=>intro w;go_simp<;>with_reducible rfl
    simp only [Act.put,sA,sZ,sS]
    refine' GoT.tk 1 (i:=4) (oi:=⟨some 102,_,_,_,_,_⟩) rfl (by rfl) ?y13_4 ?_
    case y13_4=>intro w hSw;have c1:=(hSw.cell (World.block_lt_of_cell? _ _ c1) (by simp)).trans c1;have o1:=(hSw.cell (World.block_lt_of_cell? _ _ o1) (by simp)).trans o1;have o2:=(hSw.cell (World.block_lt_of_cell? _ _ o2) (by simp)).trans o2;have o3:=(hSw.cell (World.block_lt_of_cell? _ _ o3) (by simp)).trans o3;have o4:=(hSw.cell (World.block_lt_of_cell? _ _ o4) (by simp)).trans o4;have o5:=(hSw.cell (World.block_lt_of_cell? _ _ o5) (by simp)).trans o5;go_simp<;>with_reducible rfl
    simp only [Act.put,sA,sZ,sS]
    refine' GoT.mv (i:=5) (oi:=⟨some 103,_,_,_,_,_⟩) rfl (by rfl) ?y13_5 ?_
    case y13_5=>intro w;go_simp<;>with_reducible rfl
    simp only [Act.put,sA,sZ,sS]
    refine' GoT.mv (i:=6) (oi:=⟨some 104,_,_,_,_,_⟩) rfl (by rfl) ?y13_6 ?_
    case y13_6=>intro w;have hct:=HCT.out;go_simp<;>with_reducible rfl
    simp only [Act.put,sA,sZ,sS]
    refine' GoT.mv (i:=8) (oi:=⟨some 106,_,_,_,_,_⟩) rfl (by rfl) ?y13_8 ?_
    case y13_8=>intro w;go_simp<;>with_reducible rfl
    simp only [Act.put,sA,sZ,sS]
    refine' GoT.tk 1 (i:=9) (oi:=⟨some 107,_,_,_,_,_⟩) rfl (by rfl) ?y13_9 ?_
    case y13_9=>intro w hSw;have c1:=(hSw.cell (World.block_lt_of_cell? _ _ c1) (by simp)).trans c1;have o1:=(hSw.cell (World.block_lt_of_cell? _ _ o1) (by simp)).trans o1;have o2:=(hSw.cell (World.block_lt_of_cell? _ _ o2) (by simp)).trans o2;have o3:=(hSw.cell (World.block_lt_of_cell? _ _ o3) (by simp)).trans o3;have o4:=(hSw.cell (World.block_lt_of_cell? _ _ o4) (by simp)).trans o4;have o5:=(hSw.cell (World.block_lt_of_cell? _ _ o5) (by simp)).trans o5;go_simp<;>with_reducible rfl
    simp only [Act.put,sA,sZ,sS]
    refine' GoT.mv (i:=10) (oi:=⟨some 108,_,_,_,_,_⟩) rfl (by rfl) ?y13_10 ?_
    case y13_10=>intro w;go_simp<;>with_reducible rfl
    simp only [Act.put,sA,sZ,sS]
    refine' GoT.tk 1 (i:=11) (oi:=⟨some 109,_,_,_,_,_⟩) rfl (by rfl) ?y13_11 ?_
    case y13_11=>intro w hSw;have c1:=(hSw.cell (World.block_lt_of_cell? _ _ c1) (by simp)).trans c1;have o1:=(hSw.cell (World.block_lt_of_cell? _ _ o1) (by simp)).trans o1;have o2:=(hSw.cell (World.block_lt_of_cell? _ _ o2) (by simp)).trans o2;have o3:=(hSw.cell (World.block_lt_of_cell? _ _ o3) (by simp)).trans o3;have o4:=(hSw.cell (World.block_lt_of_cell? _ _ o4) (by simp)).trans o4;have o5:=(hSw.cell (World.block_lt_of_cell? _ _ o5) (by simp)).trans o5;go_simp<;>with_reducible rfl
    simp only [Act.put,sA,sZ,sS]
    refine' GoT.mv (i:=12) (oi:=⟨some 110,_,_,_,_,_⟩) rfl (by rfl) ?y13_12 ?_
    case y13_12=>intro w;go_simp<;>with_reducible rfl
    simp only [Act.put,sA,sZ,sS]
    refine' GoT.tk 1 (i:=13) (oi:=⟨some 111,_,_,_,_,_⟩) rfl (by rfl) ?y13_13 ?_
    case y13_13=>intro w hSw;have c1:=(hSw.cell (World.block_lt_of_cell? _ _ c1) (by simp)).trans c1;have o1:=(hSw.cell (World.block_lt_of_cell? _ _ o1) (by simp)).trans o1;have o2:=(hSw.cell (World.block_lt_of_cell? _ _ o2) (by simp)).trans o2;have o3:=(hSw.cell (World.block_lt_of_cell? _ _ o3) (by simp)).trans o3;have o4:=(hSw.cell (World.block_lt_of_cell? _ _ o4) (by simp)).trans o4;have o5:=(hSw.cell (World.block_lt_of_cell? _ _ o5) (by simp)).trans o5;go_simp<;>with_reducible rfl
    simp only [Act.put,sA,sZ,sS]
    refine' GoT.mv (i:=14) (oi:=⟨some 112,_,_,_,_,_⟩) rfl (by rfl) ?y13_14 ?_
    case y13_14=>intro w;go_simp<;>with_reducible rfl
    simp only [Act.put,sA,sZ,sS]
    refine GoT.pair (i:=0) (o:=⟨some 98,_,_,_,_,_⟩) (k:=15) (o':=⟨some 113,_,_,_,_,_⟩) rfl rfl (by kernel_rfl) (fun K hK=>?_) (fun K hK=>?_)
    ·skip
     try clear hS
     have hownE:(Wx.alloc (.cells #[] 62)).ownsRow w3.heap.size 62 3 (.slice (some ⟨Wx.heap.size,0,none⟩) 0 0) 0 []:=World.ownsRow_lit Wx #[] 0 HUx.out.size (by decide) rfl
     have HltE:=Lib.hid (show Wx.heap.size<(Wx.alloc (.cells #[] 62)).heap.size by simp)
     have HUy:=Lib.hid (HUx.out.alloc (.cells #[] 62))
     go_simp
     refine hK.out _ _ (fun _ h=>h.alloc _) ?_
     clear hK K
     generalize Wx.alloc (.cells #[] 62)=Wy at hownE HUy HltE ⊢
     generalize Wx.heap.size=qE at hownE HltE ⊢
     have HOE:=Lib.hid hownE
     clear hownE HUx
     obtain ⟨HUx,-⟩:=And.intro HUy trivial
     clear HUy
     clear Wx
     obtain ⟨Wx,rfl⟩:∃W:World,W=Wy:=⟨_,rfl⟩
     try simp only [Act.put,sA,sZ,sS]
     refine GoT.pair (i:=7) (o:=⟨some 105,_,_,_,_,_⟩) (k:=15) (o':=⟨some 113,_,_,_,_,_⟩) rfl rfl (by kernel_rfl) (fun K hK=>?_) (fun K hK=>?_)
     ·skip
      try clear hS
      rw [if_pos (by simp [Region.wanted])]
      refine wp_app _ _ _ 29 (by rfl) w3.heap.size 62 i0 (.agg #[.int .i64 0,.int .i64 0,.int .u32 0]) 3 24 Tryz.underlying29 hi hz0 hz1 hz2 rfl (by decide) _ 0 [] (by rfl) HOE.out _ k XT (by rfl) (HTS.out.2 _ (sees_upd HTS.out.1 HUx.out (by simp))) hone (by unfold maxLen;omega) (by omega) HUx.out.size ?_
      intro AA CA Wy HP
      have hgeq:=own_ge HOE.out
      have hpoA:Wy.ownsRow w3.heap.size 62 3 (.slice AA k CA) k XT:=by have:=HP.own;rw [Nat.zero_add] at this;exact this
      have HUy:=Lib.hid (HUx.out.trans' HP.upd (fun y hy=>.inr (hgeq y hy)))
      have HOA:=Lib.hid hpoA
      rw [Nat.zero_add]
      refine hK.out _ _ (fun _ h=>h.trans' HP.upd (fun y hy=>.inr (hgeq y hy))) ?_
      clear hK K HP hgeq hpoA HUx HOE
      try clear HltE
      try clear HltX
      try clear HNE
      obtain ⟨HUx,-⟩:=And.intro HUy trivial
      clear HUy
      clear Wx
      obtain ⟨Wx,rfl⟩:∃W:World,W=Wy:=⟨_,rfl⟩
      try simp only [Act.put,sA,sZ,sS]
      refine GoT.one (i:=15) (o:=⟨some 113,_,_,_,_,_⟩) rfl (by kernel_rfl) fun K hK=>?_
      try clear hS
      have hownX:Sees (Wx.alloc (.cells #[.int .i64 oa,.int .i64 ob,.int .u32 (oi:Int)] 62)) 3 (.slice (some ⟨Wx.heap.size,0,none⟩) 1 1) 1 [.int .i64 oa,.int .i64 ob,.int .u32 (oi:Int)]:=sees_lit Wx #[.int .i64 oa,.int .i64 ob,.int .u32 (oi:Int)] 62 3 1 rfl (by decide)
      replace HOA:=Lib.hid (own_upd HOA.out ((Upd.refl [] Wx).alloc (.cells #[.int .i64 oa,.int .i64 ob,.int .u32 (oi:Int)] 62)) (by simp))
      have HltX:=Lib.hid (show Wx.heap.size<(Wx.alloc (.cells #[.int .i64 oa,.int .i64 ob,.int .u32 (oi:Int)] 62)).heap.size by simp)
      have HUy:=Lib.hid (HUx.out.alloc (.cells #[.int .i64 oa,.int .i64 ob,.int .u32 (oi:Int)] 62))
      go_simp
      refine hK.out _ _ (fun _ h=>h.alloc _) ?_
      clear hK K
      generalize Wx.alloc (.cells #[.int .i64 oa,.int .i64 ob,.int .u32 (oi:Int)] 62)=Wy at hownX HUy HltX HOA ⊢
      generalize Wx.heap.size=qX at hownX HltX ⊢
      have HOX:=Lib.hid hownX
      clear hownX HUx
      obtain ⟨HUx,-⟩:=And.intro HUy trivial
      clear HUy
      clear Wx
      obtain ⟨Wx,rfl⟩:∃W:World,W=Wy:=⟨_,rfl⟩
      try simp only [Act.put,sA,sZ,sS]
      refine GoT.one (i:=16) (o:=⟨some 114,_,_,_,_,_⟩) rfl (by kernel_rfl) fun K hK=>?_
      try clear hS
      rw [if_pos (by simp [Region.wanted])]
      refine wp_app _ _ _ 29 (by rfl) w3.heap.size 62 i0 (.agg #[.int .i64 0,.int .i64 0,.int .u32 0]) 3 24 Tryz.underlying29 hi hz0 hz1 hz2 rfl (by decide) _ k XT (by rfl) HOA.out _ 1 [.int .i64 oa,.int .i64 ob,.int .u32 (oi:Int)] (by rfl) (HOX.out) (by simp [Value.oneCell']) (by unfold maxLen;omega) (by omega) HUx.out.size ?_
      intro AB CB Wy HP
      have hgeq:=own_ge HOA.out
      have hpoB:Wy.ownsRow w3.heap.size 62 3 (.slice AB (k+1) CB) (k+1) (XT++[.int .i64 oa,.int .i64 ob,.int .u32 (oi:Int)]):=by exact HP.own
      have HUy:=Lib.hid (HUx.out.trans' HP.upd (fun y hy=>.inr (hgeq y hy)))
      have HOB:=Lib.hid hpoB
      refine hK.out _ _ (fun _ h=>h.trans' HP.upd (fun y hy=>.inr (hgeq y hy))) ?_
      clear hK K HP hgeq hpoB HUx HOA HOX
      try clear HltE
      try clear HltX
      try clear HNE
      obtain ⟨HUx,-⟩:=And.intro HUy trivial
      clear HUy
      clear Wx
      obtain ⟨Wx,rfl⟩:∃W:World,W=Wy:=⟨_,rfl⟩
      try simp only [Act.put,sA,sZ,sS]
      refine' GoT.mv (i:=17) (oi:=⟨some 8,_,_,_,_,_⟩) rfl (by rfl) ?y13aa_17 ?_
      case y13aa_17=>intro w;go_simp<;>with_reducible rfl
      simp only [Act.put,sA,sZ,sS]
      refine GoT.done (by kernel_rfl) ?_
      clear o0 o1 o2 o3 o4 o5 c0 c1 c2 c3
      go_wp2_with fail
      go_meet
      case rel=>exact ⟨_,_,rfl,HOB.out,HUx.out⟩
     ·skip
      try clear hS
      have hownX:Sees (Wx.alloc (.cells #[.int .i64 oa,.int .i64 ob,.int .u32 (oi:Int)] 62)) 3 (.slice (some ⟨Wx.heap.size,0,none⟩) 1 1) 1 [.int .i64 oa,.int .i64 ob,.int .u32 (oi:Int)]:=sees_lit Wx #[.int .i64 oa,.int .i64 ob,.int .u32 (oi:Int)] 62 3 1 rfl (by decide)
      replace HOE:=Lib.hid (own_upd HOE.out ((Upd.refl [] Wx).alloc (.cells #[.int .i64 oa,.int .i64 ob,.int .u32 (oi:Int)] 62)) (by simp))
      have HNE:=Lib.hid (show qE≠Wx.heap.size from by have:=HltE.out;omega)
      have HltX:=Lib.hid (show Wx.heap.size<(Wx.alloc (.cells #[.int .i64 oa,.int .i64 ob,.int .u32 (oi:Int)] 62)).heap.size by simp)
      clear HltE
      have HUy:=Lib.hid (HUx.out.alloc (.cells #[.int .i64 oa,.int .i64 ob,.int .u32 (oi:Int)] 62))
      go_simp
      refine hK.out _ _ (fun _ h=>h.alloc _) ?_
      clear hK K
      generalize Wx.alloc (.cells #[.int .i64 oa,.int .i64 ob,.int .u32 (oi:Int)] 62)=Wy at hownX HUy HltX HOE ⊢
      generalize Wx.heap.size=qX at hownX HltX HNE ⊢
      have HOX:=Lib.hid hownX
      clear hownX HUx
      obtain ⟨HUx,-⟩:=And.intro HUy trivial
      clear HUy
      clear Wx
      obtain ⟨Wx,rfl⟩:∃W:World,W=Wy:=⟨_,rfl⟩
      try simp only [Act.put,sA,sZ,sS]
      refine GoT.one (i:=7) (o:=⟨some 105,_,_,_,_,_⟩) rfl (by kernel_rfl) fun K hK=>?_
      try clear hS
      rw [if_pos (by simp [Region.wanted])]
      refine wp_app _ _ _ 29 (by rfl) w3.heap.size 62 i0 (.agg #[.int .i64 0,.int .i64 0,.int .u32 0]) 3 24 Tryz.underlying29 hi hz0 hz1 hz2 rfl (by decide) _ 0 [] (by rfl) HOE.out _ k XT (by rfl) (HTS.out.2 _ (sees_upd HTS.out.1 HUx.out (by simp))) hone (by unfold maxLen;omega) (by omega) HUx.out.size ?_
      intro AA CA Wy HP
      have hgeq:=own_ge HOE.out
      have hpoA:Wy.ownsRow w3.heap.size 62 3 (.slice AA k CA) k XT:=by have:=HP.own;rw [Nat.zero_add] at this;exact this
      replace HOX:=Lib.hid (sees_upd HOX.out HP.upd (fun _ k hk _ hm=>by have h1:=HNE.out;simp [blk] at hk hm;omega))
      have HUy:=Lib.hid (HUx.out.trans' HP.upd (fun y hy=>.inr (hgeq y hy)))
      have HOA:=Lib.hid hpoA
      rw [Nat.zero_add]
      refine hK.out _ _ (fun _ h=>h.trans' HP.upd (fun y hy=>.inr (hgeq y hy))) ?_
      clear hK K HP hgeq hpoA HUx HOE
      try clear HltE
      try clear HltX
      try clear HNE
      obtain ⟨HUx,-⟩:=And.intro HUy trivial
      clear HUy
      clear Wx
      obtain ⟨Wx,rfl⟩:∃W:World,W=Wy:=⟨_,rfl⟩
      try simp only [Act.put,sA,sZ,sS]
      refine GoT.one (i:=16) (o:=⟨some 114,_,_,_,_,_⟩) rfl (by kernel_rfl) fun K hK=>?_
      try clear hS
      rw [if_pos (by simp [Region.wanted])]
      refine wp_app _ _ _ 29 (by rfl) w3.heap.size 62 i0 (.agg #[.int .i64 0,.int .i64 0,.int .u32 0]) 3 24 Tryz.underlying29 hi hz0 hz1 hz2 rfl (by decide) _ k XT (by rfl) HOA.out _ 1 [.int .i64 oa,.int .i64 ob,.int .u32 (oi:Int)] (by rfl) (HOX.out) (by simp [Value.oneCell']) (by unfold maxLen;omega) (by omega) HUx.out.size ?_
      intro AB CB Wy HP
      have hgeq:=own_ge HOA.out
      have hpoB:Wy.ownsRow w3.heap.size 62 3 (.slice AB (k+1) CB) (k+1) (XT++[.int .i64 oa,.int .i64 ob,.int .u32 (oi:Int)]):=by exact HP.own
      have HUy:=Lib.hid (HUx.out.trans' HP.upd (fun y hy=>.inr (hgeq y hy)))
      have HOB:=Lib.hid hpoB
      refine hK.out _ _ (fun _ h=>h.trans' HP.upd (fun y hy=>.inr (hgeq y hy))) ?_
      clear hK K HP hgeq hpoB HUx HOA HOX
      try clear HltE
      try clear HltX
      try clear HNE
      obtain ⟨HUx,-⟩:=And.intro HUy trivial
      clear HUy
      clear Wx
      obtain ⟨Wx,rfl⟩:∃W:World,W=Wy:=⟨_,rfl⟩
      try simp only [Act.put,sA,sZ,sS]
      refine' GoT.mv (i:=17) (oi:=⟨some 8,_,_,_,_,_⟩) rfl (by rfl) ?y13ab_17 ?_
      case y13ab_17=>intro w;go_simp<;>with_reducible rfl
      simp only [Act.put,sA,sZ,sS]
      refine GoT.done (by kernel_rfl) ?_
      clear o0 o1 o2 o3 o4 o5 c0 c1 c2 c3
      go_wp2_with fail
      go_meet
      case rel=>exact ⟨_,_,rfl,HOB.out,HUx.out⟩
    ·skip
     try clear hS
     have hownX:Sees (Wx.alloc (.cells #[.int .i64 oa,.int .i64 ob,.int .u32 (oi:Int)] 62)) 3 (.slice (some ⟨Wx.heap.size,0,none⟩) 1 1) 1 [.int .i64 oa,.int .i64 ob,.int .u32 (oi:Int)]:=sees_lit Wx #[.int .i64 oa,.int .i64 ob,.int .u32 (oi:Int)] 62 3 1 rfl (by decide)
     have HltX:=Lib.hid (show Wx.heap.size<(Wx.alloc (.cells #[.int .i64 oa,.int .i64 ob,.int .u32 (oi:Int)] 62)).heap.size by simp)
     have HUy:=Lib.hid (HUx.out.alloc (.cells #[.int .i64 oa,.int .i64 ob,.int .u32 (oi:Int)] 62))
     go_simp
     refine hK.out _ _ (fun _ h=>h.alloc _) ?_
     clear hK K
     generalize Wx.alloc (.cells #[.int .i64 oa,.int .i64 ob,.int .u32 (oi:Int)] 62)=Wy at hownX HUy HltX ⊢
     generalize Wx.heap.size=qX at hownX HltX ⊢
     have HOX:=Lib.hid hownX
     clear hownX HUx
     obtain ⟨HUx,-⟩:=And.intro HUy trivial
     clear HUy
     clear Wx
     obtain ⟨Wx,rfl⟩:∃W:World,W=Wy:=⟨_,rfl⟩
     try simp only [Act.put,sA,sZ,sS]
     refine GoT.one (i:=0) (o:=⟨some 98,_,_,_,_,_⟩) rfl (by kernel_rfl) fun K hK=>?_
     try clear hS
     have hownE:(Wx.alloc (.cells #[] 62)).ownsRow w3.heap.size 62 3 (.slice (some ⟨Wx.heap.size,0,none⟩) 0 0) 0 []:=World.ownsRow_lit Wx #[] 0 HUx.out.size (by decide) rfl
     replace HOX:=Lib.hid (sees_upd HOX.out ((Upd.refl [] Wx).alloc (.cells #[] 62)) (by simp))
     have HNE:=Lib.hid (show qX≠Wx.heap.size from by have:=HltX.out;omega)
     have HltE:=Lib.hid (show Wx.heap.size<(Wx.alloc (.cells #[] 62)).heap.size by simp)
     clear HltX
     have HUy:=Lib.hid (HUx.out.alloc (.cells #[] 62))
     go_simp
     refine hK.out _ _ (fun _ h=>h.alloc _) ?_
     clear hK K
     generalize Wx.alloc (.cells #[] 62)=Wy at hownE HUy HltE HOX ⊢
     generalize Wx.heap.size=qE at hownE HltE HNE ⊢
     have HOE:=Lib.hid hownE
     clear hownE HUx
     obtain ⟨HUx,-⟩:=And.intro HUy trivial
     clear HUy
     clear Wx
     obtain ⟨Wx,rfl⟩:∃W:World,W=Wy:=⟨_,rfl⟩
     try simp only [Act.put,sA,sZ,sS]
     refine GoT.one (i:=7) (o:=⟨some 105,_,_,_,_,_⟩) rfl (by kernel_rfl) fun K hK=>?_
     try clear hS
     rw [if_pos (by simp [Region.wanted])]
     refine wp_app _ _ _ 29 (by rfl) w3.heap.size 62 i0 (.agg #[.int .i64 0,.int .i64 0,.int .u32 0]) 3 24 Tryz.underlying29 hi hz0 hz1 hz2 rfl (by decide) _ 0 [] (by rfl) HOE.out _ k XT (by rfl) (HTS.out.2 _ (sees_upd HTS.out.1 HUx.out (by simp))) hone (by unfold maxLen;omega) (by omega) HUx.out.size ?_
     intro AA CA Wy HP
     have hgeq:=own_ge HOE.out
     have hpoA:Wy.ownsRow w3.heap.size 62 3 (.slice AA k CA) k XT:=by have:=HP.own;rw [Nat.zero_add] at this;exact this
     replace HOX:=Lib.hid (sees_upd HOX.out HP.upd (fun _ k hk _ hm=>by have h1:=HNE.out;simp [blk] at hk hm;omega))
     have HUy:=Lib.hid (HUx.out.trans' HP.upd (fun y hy=>.inr (hgeq y hy)))
     have HOA:=Lib.hid hpoA
     rw [Nat.zero_add]
     refine hK.out _ _ (fun _ h=>h.trans' HP.upd (fun y hy=>.inr (hgeq y hy))) ?_
     clear hK K HP hgeq hpoA HUx HOE
     try clear HltE
     try clear HltX
     try clear HNE
     obtain ⟨HUx,-⟩:=And.intro HUy trivial
     clear HUy
     clear Wx
     obtain ⟨Wx,rfl⟩:∃W:World,W=Wy:=⟨_,rfl⟩
     try simp only [Act.put,sA,sZ,sS]
     refine GoT.one (i:=16) (o:=⟨some 114,_,_,_,_,_⟩) rfl (by kernel_rfl) fun K hK=>?_
     try clear hS
     rw [if_pos (by simp [Region.wanted])]
     refine wp_app _ _ _ 29 (by rfl) w3.heap.size 62 i0 (.agg #[.int .i64 0,.int .i64 0,.int .u32 0]) 3 24 Tryz.underlying29 hi hz0 hz1 hz2 rfl (by decide) _ k XT (by rfl) HOA.out _ 1 [.int .i64 oa,.int .i64 ob,.int .u32 (oi:Int)] (by rfl) (HOX.out) (by simp [Value.oneCell']) (by unfold maxLen;omega) (by omega) HUx.out.size ?_
     intro AB CB Wy HP
     have hgeq:=own_ge HOA.out
     have hpoB:Wy.ownsRow w3.heap.size 62 3 (.slice AB (k+1) CB) (k+1) (XT++[.int .i64 oa,.int .i64 ob,.int .u32 (oi:Int)]):=by exact HP.own
     have HUy:=Lib.hid (HUx.out.trans' HP.upd (fun y hy=>.inr (hgeq y hy)))
     have HOB:=Lib.hid hpoB
     refine hK.out _ _ (fun _ h=>h.trans' HP.upd (fun y hy=>.inr (hgeq y hy))) ?_
     clear hK K HP hgeq hpoB HUx HOA HOX
     try clear HltE
     try clear HltX
     try clear HNE
     obtain ⟨HUx,-⟩:=And.intro HUy trivial
     clear HUy
     clear Wx
     obtain ⟨Wx,rfl⟩:∃W:World,W=Wy:=⟨_,rfl⟩
     try simp only [Act.put,sA,sZ,sS]
     refine' GoT.mv (i:=17) (oi:=⟨some 8,_,_,_,_,_⟩) rfl (by rfl) ?y13b_17 ?_
     case y13b_17=>intro w;go_simp<;>with_reducible rfl
     simp only [Act.put,sA,sZ,sS]
     refine GoT.done (by kernel_rfl) ?_
     clear o0 o1 o2 o3 o4 o5 c0 c1 c2 c3
     go_wp2_with fail
     go_meet
     case rel=>exact ⟨_,_,rfl,HOB.out,HUx.out⟩
   obtain ⟨Ao,Co,rfl,howo,huo⟩:=hcut
   obtain ⟨W5,rfl⟩:∃W:World,W=wc:=⟨_,rfl⟩
   have HO5:=Lib.hid (And.intro howo huo)
   have HM5:=Lib.hid (HM3.out.upd0 huo)
   have HRP5:=Lib.hid (HRP3.out.upd huo (by simp))
   obtain ⟨c0,c1,c2,c3⟩:=HM5.out.cells
   rw [HN.out.2.1] at c1
   have fr:=HM5.out.head.frozen 1
   have hkn':=Lib.hid hkn
   clear howo huo o0 o1 o2 o3 o4 o5 hone d1 d2 hrm hkn
   have hct:=HCF.out
   go_wp2_with (at_builtin;refine wpList_app _ rfl _ _ 29 rfl w3.heap.size 62 i0 (.agg #[.int .i64 0,.int .i64 0,.int .u32 0]) 3 24 Tryz.underlying29 hi hz0 hz1 hz2 rfl (by decide) (.slice Ao (k+1) Co) (k+1) (XT++[.int .i64 oa,.int .i64 ob,.int .u32 (oi:Int)]) rfl HO5.out.1 (.slice AF (n - k) CF) (n - k) (KPt.all (m.ps.drop k)) rfl (HFS.out _ (sees_upd HTS.out.1 HO5.out.2 (by simp))) (KPt.all_one _) (by unfold maxLen;omega) (by omega) HO5.out.2.size ?_)
   intro A6 C6 W6 HP6
   have hge5:=own_ge HO5.out.1
   have hu6:Upd [] w3 W6:=HO5.out.2.trans' HP6.upd (fun y hy=>.inr (hge5 y hy))
   have hN:k+1+(n - k)=n+1:=by have:=hkn'.out;omega
   have hrow6:W6.ownsRow w3.heap.size 62 3 (.slice A6 (n+1) C6) (n+1) (KPt.all (insA Pt.id ⟨oa,ob,oi⟩ m.ps)):=by
    have h:=HP6.own
    rw [hN] at h
    rw [←place_ins HOK.out.ps HP.out.1,KPt.all_app,HXT.out]
    rw [List.append_assoc] at h
    exact h
   rw [hN]
   have HR6:=Lib.hid (And.intro hrow6 hu6)
   have HM6:=Lib.hid (HM3.out.upd0 hu6)
   have HRP6:=Lib.hid (HRP3.out.upd hu6 (by simp))
   obtain ⟨c0,c1,c2,c3⟩:=HM6.out.cells
   have fr:=HM6.out.head.frozen 1
   clear HP6 hge5 hu6 hN hrow6 hct
   go_upto_region 18 with fail
   clear c0 c1 c2 c3 fr
   have hu7:Upd [r] W6 (W6.setCell ⟨r,1,none⟩ (.slice A6 (n+1) C6)):=(Upd.refl [r] W6).setCell (p:=⟨r,1,none⟩) (.inl (by simp)) _
   have hrn:r∉blk (.slice A6 (n+1) C6):=fun hc=>by
    have h1:=own_ge HR6.out.1 r hc
    have h2:=HU3.out.size
    have h3:=HQ.out.2.2.2
    omega
   have hlen:(insA Pt.id ⟨oa,ob,oi⟩ m.ps).length=n+1:=by
    rw [←place_ins HOK.out.ps HP.out.1,List.length_append,List.length_cons,List.length_take,List.length_drop,HN.out.2.1]
    have:=hkn'.out
    omega
   have HH7:=Lib.hid (show HpC (W6.setCell ⟨r,1,none⟩ (.slice A6 (n+1) C6)) r #[.int .i64 (m.room:Int),.slice A6 (insA Pt.id ⟨oa,ob,oi⟩ m.ps).length C6,.slice AS m.ss.length CS,.slice AB m.bs.length CB] 33 by
    rw [hlen]
    exact HM6.out.head.set 1 (.slice A6 (n+1) C6))
   have HO7:=Lib.hid (own_upd HR6.out.1 hu7 (fun k hk hc=>hrn (by simp at hc;rw [←hc];exact hk)))
   have HLN:=Lib.hid (And.intro hlen hrn)
   have HU7:=Lib.hid (show Upd [r] w (W6.setCell ⟨r,1,none⟩ (.slice A6 (n+1) C6)) from (((HU3.out.trans HR6.out.2).mono (by simp)).trans hu7))
   have HRPL:=Lib.hid (show qr<w3.heap.size from lt_of_block HRP3.out)
   have HRP7:=Lib.hid (HRP6.out.upd hu7 (by have:=HQ.out;simp only [List.mem_singleton];have:=HL.out.2.2;omega))
   clear hu7 hrn hlen
   generalize W6.setCell ⟨r,1,none⟩ (.slice A6 (n+1) C6)=W7 at HH7 HO7 HU7 HRP7 ⊢
   have hrp:=HRP7.out
   have f0:(W7).frozen? ⟨qr,0,none⟩=false:=hrp.frozen 0
   have f1:(W7).frozen? ⟨qr,1,none⟩=false:=hrp.frozen 1
   have f2:(W7).frozen? ⟨qr,2,none⟩=false:=hrp.frozen 2
   have f3:(W7).frozen? ⟨qr,3,none⟩=false:=hrp.frozen 3
   have f4:(W7).frozen? ⟨qr,4,none⟩=false:=hrp.frozen 4
   have f5:(W7).frozen? ⟨qr,5,none⟩=false:=hrp.frozen 5
   have c0:=hrp.cell 0
   have c1:=hrp.cell 1
   have c2:=hrp.cell 2
   have c3:=hrp.cell 3
   have c4:=hrp.cell 4
   have c5:=hrp.cell 5
   simp only [List.getElem?_toArray,List.getElem?_cons_zero,List.getElem?_cons_succ] at c0 c1 c2 c3 c4 c5
   have HP:=Lib.hid (And.intro (hrp.put (.int .i64 0) (.slice none 0 0) (.int .i64 ((n:Int)+1)) (.bool false) (.int .u64 0) (.int .u64 0)) (upd_put (q:=qr) HU7.out (.inr HQ.out.1) (.int .i64 0) (.slice none 0 0) (.int .i64 ((n:Int)+1)) (.bool false) (.int .u64 0) (.int .u64 0)))
   clear hrp
   go_wp2_with fail
   clear f0 c0 f1 c1 f2 c2 f3 c3 f4 c4 f5 c5
   have y0:=HP.out.1.cell 0
   have y1:=HP.out.1.cell 1
   have y2:=HP.out.1.cell 2
   have y3:=HP.out.1.cell 3
   have y4:=HP.out.1.cell 4
   have y5:=HP.out.1.cell 5
   simp only [List.getElem?_toArray,List.getElem?_cons_zero,List.getElem?_cons_succ] at y0 y1 y2 y3 y4 y5
   have hp:=upd_put (q:=qr) (Upd.refl [qr] W7) (.inl (by simp)) (.int .i64 0) (.slice none 0 0) (.int .i64 ((n:Int)+1)) (.bool false) (.int .u64 0) (.int .u64 0)
   refine bodyPost_ret (v:=repV 0 (n+1) false (.slice none 0 0) 0 0) ?_ rfl ⟨⟨_,rfl,by rw [HN.out.2.1];exact repAt_cnt _ _⟩,⟨A6,C6,AS,CS,AB,CB,HH7.out.upd hp (by have:=HQ.out;have:=HL.out.2.2;simp only [List.mem_singleton];omega),by have:=sees_of_own (own_upd HO7.out hp (fun k hk hc=>by have h1:=own_ge HO7.out k hk;have h2:=HU3.out.size;have h3:=HRPL.out;simp at hc;omega));unfold See;rw [HLN.out.1];exact this,HM0.out.ss.upd HP.out.2 (fun _ k hk _ hc=>HM0.out.ns (by simp at hc;rw [←hc];exact hk)),HM0.out.bs.upd HP.out.2 (fun _ k hk _ hc=>HM0.out.nb (by simp at hc;rw [←hc];exact hk)),by rw [HLN.out.1];exact HLN.out.2,HM0.out.ns,HM0.out.nb⟩,HP.out.2⟩
   simp [repV,results,Tryz.results26,go_sem,y0,y1,y2,y3,y4,y5]
theorem rcome2 {w:World} {r:Nat} {m:Md} {AP AS AB:Option Addr} {CP CS CB:Nat} (h:RMd w r m AP CP AS CS AB CB) (hok:m.ok) (hl:m.ss.length<100000) (hroom:m.room<4611686018427387904) (oa ob occ od:Int) (oi:Nat) :
 Calls Tryz.prog 26 #[.pointer (some ⟨r,0,none⟩),.agg #[.int .u8 2,.int .i64 oa,.int .i64 ob,.int .i64 occ,.int .i64 od,.int .u32 (oi:Int)]] w (RDoPost w r (changeM m ⟨2,oa,ob,occ,od,oi⟩)):=by
 obtain ⟨i0,hi,hz0,hz1,hz2⟩:=info_parts info_span
 obtain ⟨R,hR⟩:∃R,changeM m ⟨2,oa,ob,occ,od,oi⟩=R:=⟨_,rfl⟩
 rw [hR]
 have HRES:=Lib.hid hR
 have HOK:=Lib.hid hok
 have hu:Upd [] w ((w.alloc (.cells #[.int .u8 2,.int .i64 oa,.int .i64 ob,.int .i64 occ,.int .i64 od,.int .u32 (oi:Int)] 43)).alloc (.cells repZ 39)):=((Upd.refl _ _).alloc _).alloc _
 have hop:HpC ((w.alloc (.cells #[.int .u8 2,.int .i64 oa,.int .i64 ob,.int .i64 occ,.int .i64 od,.int .u32 (oi:Int)] 43)).alloc (.cells repZ 39)) w.heap.size #[.int .u8 2,.int .i64 oa,.int .i64 ob,.int .i64 occ,.int .i64 od,.int .u32 (oi:Int)] 43:=(show HpC (w.alloc (.cells #[.int .u8 2,.int .i64 oa,.int .i64 ob,.int .i64 occ,.int .i64 od,.int .u32 (oi:Int)] 43)) w.heap.size #[.int .u8 2,.int .i64 oa,.int .i64 ob,.int .i64 occ,.int .i64 od,.int .u32 (oi:Int)] 43 from heap_alloc_new w _).upd ((Upd.refl [] _).alloc _) (by simp)
 have hrp:RpAt ((w.alloc (.cells #[.int .u8 2,.int .i64 oa,.int .i64 ob,.int .i64 occ,.int .i64 od,.int .u32 (oi:Int)] 43)).alloc (.cells repZ 39)) (w.heap.size+1) repZ:=by
  have:=heap_alloc_new (w.alloc (.cells #[.int .u8 2,.int .i64 oa,.int .i64 ob,.int .i64 occ,.int .i64 od,.int .u32 (oi:Int)] 43)) (.cells repZ 39)
  unfold RpAt
  simpa using this
 have hrl:r<w.heap.size:=lt_of_block h.head
 have HU:=Lib.hid hu
 have HM:=Lib.hid (h.upd0 hu)
 have HM0:=Lib.hid h
 have HOP:=Lib.hid hop
 have HRP:=Lib.hid hrp
 have HL:=Lib.hid (And.intro hl (And.intro hroom hrl))
 clear hR hok h hu hop hrp hl hroom hrl
 go_enter Tryz.func26,Tryz.ntmps26
 go_upto_region 1 with fail
 generalize ((w.alloc (.cells #[.int .u8 2,.int .i64 oa,.int .i64 ob,.int .i64 occ,.int .i64 od,.int .u32 (oi:Int)] 43)).alloc (.cells repZ 39))=W at HU HM HOP HRP ⊢
 obtain ⟨qo,hqo⟩:∃q,w.heap.size=q:=⟨_,rfl⟩
 obtain ⟨qr,hqr⟩:∃q,w.heap.size+1=q:=⟨_,rfl⟩
 rw [hqr] at HRP ⊢
 rw [hqo] at HOP ⊢
 have HQ:=Lib.hid (show w.heap.size≤qr∧w.heap.size≤qo∧qr≠qo∧r<w.heap.size from ⟨by omega,by omega,by omega,HL.out.2.2⟩)
 clear hqo hqr
 have o0:=HOP.out.cell 0
 have o1:=HOP.out.cell 1
 have o2:=HOP.out.cell 2
 have o3:=HOP.out.cell 3
 have o4:=HOP.out.cell 4
 have o5:=HOP.out.cell 5
 simp only [List.getElem?_toArray,List.getElem?_cons_zero,List.getElem?_cons_succ] at o0 o1 o2 o3 o4 o5
 have hres:=HRES.out
 unfold changeM comeM OpP.sp at hres
 dsimp only at hres
 simp only [if_true,if_false,Nat.reduceEqDiff] at hres
 by_cases hab:oa≤ob
 ·have e1:decide (ob<oa)=false:=decide_eq_false (by omega)
  rw [if_pos hab] at hres
  go_upto_region 3 with fail
  clear o0 o1 o2 o3 o4 o5
  have HRS:=Lib.hid hres
  clear hres HRES
  obtain ⟨L,hL⟩:∃L,m.ss.map Sp.id=L:=⟨_,rfl⟩
  obtain ⟨n,hn⟩:∃n,m.ss.length=n:=⟨_,rfl⟩
  have hLn:L.length=n:=by rw [←hL,List.length_map,hn]
  have hnm:=rnames2 HM.out (by have:=HL.out.1;omega)
  unfold RowPostM at hnm
  rw [hL,hLn] at hnm
  have HNM:=Lib.hid hnm
  have HN:=Lib.hid (And.intro hL (And.intro hn hLn))
  have n0:(0:Int)≤(n:Int):=Int.natCast_nonneg _
  have n1:(n:Int)<100000:=by have:=HL.out.1;omega
  have m0:(0:Int)≤(m.room:Int):=Int.natCast_nonneg _
  have m1:(m.room:Int)<4611686018427387904:=by have:=HL.out.2.1;omega
  have o0:=HOP.out.cell 0
  simp only [List.getElem?_toArray,List.getElem?_cons_zero] at o0
  clear hnm hL hn hLn
  go_wp2_with fail
  (with_reducible refine HNM.out.mono ?_)
  rintro e w2 ⟨Ai,Ci,rfl,hrow,hu2⟩
  have hpl:=rplace (.slice Ai n Ci) L oi w2 (See.of_row hrow) (by have:=HN.out.2.2;omega)
  have HPL:=Lib.hid hpl
  have H2:=Lib.hid (And.intro hrow hu2)
  have o5:=(HOP.out.upd hu2 (by simp)).cell 5
  simp only [List.getElem?_toArray,List.getElem?_cons_zero,List.getElem?_cons_succ] at o5
  clear hpl hrow hu2 o0
  go_wp2_with fail
  (with_reducible refine HPL.out.mono ?_)
  rintro e w3 ⟨k,b,rfl,hp,hu3⟩
  have HU3:=Lib.hid (HU.out.trans (H2.out.2.trans hu3))
  have HU23:=Lib.hid hu3
  have HM3:=Lib.hid ((HM.out.upd0 H2.out.2).upd0 hu3)
  have HRP3:=Lib.hid ((HRP.out.upd H2.out.2 (by simp)).upd hu3 (by simp))
  have HOP3:=Lib.hid ((HOP.out.upd H2.out.2 (by simp)).upd hu3 (by simp))
  have hp':=hp
  rw [←HN.out.1] at hp'
  have hfd:=place_find HOK.out.ss hp'
  have HP:=Lib.hid (And.intro hp' hfd)
  clear hp hp' hfd hu3 o5 HPL HNM
  cases b with
  |true=>
   have hres:=HRS.out
   rw [if_pos HP.out.2] at hres
   subst hres
   go_wp2_with fail
   (with_reducible refine (rwrong 262 _).mono ?_)
   rintro e w8 ⟨rfl,u8⟩
   have HU8:=Lib.hid (HU3.out.trans u8)
   have HRP8:=Lib.hid (HRP3.out.upd u8 (by simp))
   clear u8
   have hrp:=HRP8.out
   have f0:(w8).frozen? ⟨qr,0,none⟩=false:=hrp.frozen 0
   have f1:(w8).frozen? ⟨qr,1,none⟩=false:=hrp.frozen 1
   have f2:(w8).frozen? ⟨qr,2,none⟩=false:=hrp.frozen 2
   have f3:(w8).frozen? ⟨qr,3,none⟩=false:=hrp.frozen 3
   have f4:(w8).frozen? ⟨qr,4,none⟩=false:=hrp.frozen 4
   have f5:(w8).frozen? ⟨qr,5,none⟩=false:=hrp.frozen 5
   have c0:=hrp.cell 0
   have c1:=hrp.cell 1
   have c2:=hrp.cell 2
   have c3:=hrp.cell 3
   have c4:=hrp.cell 4
   have c5:=hrp.cell 5
   simp only [List.getElem?_toArray,List.getElem?_cons_zero,List.getElem?_cons_succ] at c0 c1 c2 c3 c4 c5
   have HP:=Lib.hid (And.intro (hrp.put (.int .i64 262) (.slice none 0 0) (.int .i64 0) (.bool false) (.int .u64 0) (.int .u64 0)) (upd_put (q:=qr) HU8.out (.inr HQ.out.1) (.int .i64 262) (.slice none 0 0) (.int .i64 0) (.bool false) (.int .u64 0) (.int .u64 0)))
   clear hrp
   go_wp2_with fail
   clear f0 c0 f1 c1 f2 c2 f3 c3 f4 c4 f5 c5
   have y0:=HP.out.1.cell 0
   have y1:=HP.out.1.cell 1
   have y2:=HP.out.1.cell 2
   have y3:=HP.out.1.cell 3
   have y4:=HP.out.1.cell 4
   have y5:=HP.out.1.cell 5
   simp only [List.getElem?_toArray,List.getElem?_cons_zero,List.getElem?_cons_succ] at y0 y1 y2 y3 y4 y5
   refine bodyPost_ret (v:=repV 262 0 false (.slice none 0 0) 0 0) ?_ rfl ⟨⟨_,rfl,repAt_err _ _⟩,⟨AP,CP,AS,CS,AB,CB,HM0.out.upd0 HP.out.2⟩,HP.out.2.mono (by simp)⟩
   simp [repV,results,Tryz.results26,go_sem,y0,y1,y2,y3,y4,y5]
  |false=>
   have hres:=HRS.out
   rw [if_neg (by rw [HP.out.2];simp)] at hres
   by_cases hrm:m.room≤n
   ·have c0:=HM3.out.cells.1
    have d1:decide ((m.room:Int)≤(n:Int))=true:=decide_eq_true (by omega)
    have d2:decide (m.room≤n)=true:=decide_eq_true hrm
    rw [if_pos (by rw [HN.out.2.1];exact hrm)] at hres
    subst hres
    go_wp2_with fail
    (with_reducible refine (rwrong 5 _).mono ?_)
    rintro e w8 ⟨rfl,u8⟩
    have HU8:=Lib.hid (HU3.out.trans u8)
    have HRP8:=Lib.hid (HRP3.out.upd u8 (by simp))
    clear u8
    have hrp:=HRP8.out
    have f0:(w8).frozen? ⟨qr,0,none⟩=false:=hrp.frozen 0
    have f1:(w8).frozen? ⟨qr,1,none⟩=false:=hrp.frozen 1
    have f2:(w8).frozen? ⟨qr,2,none⟩=false:=hrp.frozen 2
    have f3:(w8).frozen? ⟨qr,3,none⟩=false:=hrp.frozen 3
    have f4:(w8).frozen? ⟨qr,4,none⟩=false:=hrp.frozen 4
    have f5:(w8).frozen? ⟨qr,5,none⟩=false:=hrp.frozen 5
    have c0:=hrp.cell 0
    have c1:=hrp.cell 1
    have c2:=hrp.cell 2
    have c3:=hrp.cell 3
    have c4:=hrp.cell 4
    have c5:=hrp.cell 5
    simp only [List.getElem?_toArray,List.getElem?_cons_zero,List.getElem?_cons_succ] at c0 c1 c2 c3 c4 c5
    have HP:=Lib.hid (And.intro (hrp.put (.int .i64 5) (.slice none 0 0) (.int .i64 0) (.bool false) (.int .u64 0) (.int .u64 0)) (upd_put (q:=qr) HU8.out (.inr HQ.out.1) (.int .i64 5) (.slice none 0 0) (.int .i64 0) (.bool false) (.int .u64 0) (.int .u64 0)))
    clear hrp
    go_wp2_with fail
    clear f0 c0 f1 c1 f2 c2 f3 c3 f4 c4 f5 c5
    have y0:=HP.out.1.cell 0
    have y1:=HP.out.1.cell 1
    have y2:=HP.out.1.cell 2
    have y3:=HP.out.1.cell 3
    have y4:=HP.out.1.cell 4
    have y5:=HP.out.1.cell 5
    simp only [List.getElem?_toArray,List.getElem?_cons_zero,List.getElem?_cons_succ] at y0 y1 y2 y3 y4 y5
    refine bodyPost_ret (v:=repV 5 0 false (.slice none 0 0) 0 0) ?_ rfl ⟨⟨_,rfl,repAt_err _ _⟩,⟨AP,CP,AS,CS,AB,CB,HM0.out.upd0 HP.out.2⟩,HP.out.2.mono (by simp)⟩
    simp [repV,results,Tryz.results26,go_sem,y0,y1,y2,y3,y4,y5]
   ·have d1:decide ((m.room:Int)≤(n:Int))=false:=decide_eq_false (by omega)
    have d2:decide (m.room≤n)=false:=decide_eq_false hrm
    rw [if_neg (by rw [HN.out.2.1];exact hrm)] at hres
    subst hres
    obtain ⟨c0,c1,c2,c3⟩:=HM3.out.cells
    rw [HN.out.2.1] at c2
    have o0:=HOP3.out.cell 0
    simp only [List.getElem?_toArray,List.getElem?_cons_zero] at o0
    go_upto_region 16 with fail
    have o1:=HOP3.out.cell 1
    have o2:=HOP3.out.cell 2
    have o3:=HOP3.out.cell 3
    have o4:=HOP3.out.cell 4
    have o5:=HOP3.out.cell 5
    simp only [List.getElem?_toArray,List.getElem?_cons_zero,List.getElem?_cons_succ] at o1 o2 o3 o4 o5
    have hkn:k≤n:=by have:=HP.out.1.1;rw [List.length_map,HN.out.2.1] at this;exact this
    have hsee:=HM3.out.ss
    unfold See at hsee
    rw [HN.out.2.1] at hsee
    obtain ⟨AT,CT,hct,hts,hbt⟩:=cut_to (P:=Tryz.prog) Tryz.underlying30 hi hz1 hsee k hkn
    have hXT:((KSp.all m.ss).take (k*3))=KSp.all (m.ss.take k):=(KSp.all_take m.ss k).symm
    obtain ⟨XT,hxt⟩:∃X,KSp.all (m.ss.take k)=X:=⟨_,rfl⟩
    rw [hXT,hxt] at hts
    have hone:∀u∈XT,u.oneCell'=true:=by rw [←hxt];exact KSp.all_one _
    have HCT:=Lib.hid hct
    have HTS:=Lib.hid (And.intro hsee hts)
    have HXT:=Lib.hid hxt
    have k0:(0:Int)≤(k:Int):=Int.natCast_nonneg _
    have k1:(k:Int)≤(n:Int):=by omega
    obtain ⟨AF,CF,hcf,hfs,hbf⟩:=cut_from (P:=Tryz.prog) Tryz.underlying30 hi hz1 hsee k hkn
    have hXF:((KSp.all m.ss).drop (k*3))=KSp.all (m.ss.drop k):=(KSp.all_drop m.ss k).symm
    rw [hXF] at hfs
    have HCF:=Lib.hid hcf
    have HFS:=Lib.hid hfs
    clear hsee hct hts hbt hXT hxt hcf hfs hbf hXF
    go_cut [9] (fun s we=>∃A C,s=.slice A (k+1) C∧we.ownsRow w3.heap.size 54 3 (.slice A (k+1) C) (k+1) (XT++[.int .i64 oa,.int .i64 ob,.int .u32 (oi:Int)])∧Upd [] w3 we)
    case first=>
     obtain ⟨Wd,hWd⟩:∃Wd,Wd=w3.drew:=⟨_,rfl⟩
     have HD0:=Lib.hid (show Upd [] w3 Wd by rw [hWd];exact (Upd.refl _ _).drew)
     obtain ⟨Wx,hWx⟩:∃Wx,Wx=Wd:=⟨_,rfl⟩
     have HUx:=Lib.hid (show Upd [] w3 Wx by rw [hWx];exact HD0.out)
     rw [←hWx] at hWd
     clear HD0 hWx
     refine GoT.start [] (fun w'=>Upd [] w3 w') (by kernel_rfl) ?_ fun hS=>?_
     ·exact (Upd.refl [] w3).drew
     rw [←hWd] at hS ⊢
     clear hWd
     refine' GoT.mv (i:=1) (oi:=⟨some 129,_,_,_,_,_⟩) rfl (by rfl) ?y16_1 ?_
     case y16_1=>intro w;go_simp<;>with_reducible rfl
     simp only [Act.put,sA,sZ,sS]
     refine' GoT.mv (i:=2) (oi:=⟨some 130,_,_,_,_,_⟩) rfl (by rfl) ?y16_2 ?_
     case y16_2=>intro w;go_simp<;>with_reducible rfl
     simp only [Act.put,sA,sZ,sS]
     refine' GoT.mv (i:=3) (oi:=⟨some 131,_,_,_,_,_⟩) rfl (by rfl) ?y16_3 ?_
     case y16_3=>intro w;go_simp<;>with_reducible rfl
     simp only [Act.put,sA,sZ,sS]
     refine' GoT.tk 1 (i:=4) (oi:=⟨some 132,_,_,_,_,_⟩) rfl (by rfl) ?y16_4 ?_
     case y16_4=>intro w hSw;have c2:=(hSw.cell (World.block_lt_of_cell? _ _ c2) (by simp)).trans c2;have o1:=(hSw.cell (World.block_lt_of_cell? _ _ o1) (by simp)).trans o1;have o2:=(hSw.cell (World.block_lt_of_cell? _ _ o2) (by simp)).trans o2;have o3:=(hSw.cell (World.block_lt_of_cell? _ _ o3) (by simp)).trans o3;have o4:=(hSw.cell (World.block_lt_of_cell? _ _ o4) (by simp)).trans o4;have o5:=(hSw.cell (World.block_lt_of_cell? _ _ o5) (by simp)).trans o5;go_simp<;>with_reducible rfl
     simp only [Act.put,sA,sZ,sS]
     refine' GoT.mv (i:=5) (oi:=⟨some 133,_,_,_,_,_⟩) rfl (by rfl) ?y16_5 ?_
     case y16_5=>intro w;go_simp<;>with_reducible rfl
     simp only [Act.put,sA,sZ,sS]
     refine' GoT.mv (i:=6) (oi:=⟨some 134,_,_,_,_,_⟩) rfl (by rfl) ?y16_6 ?_
     case y16_6=>intro w;have hct:=HCT.out;go_simp<;>with_reducible rfl
     simp only [Act.put,sA,sZ,sS]
     refine' GoT.mv (i:=8) (oi:=⟨some 136,_,_,_,_,_⟩) rfl (by rfl) ?y16_8 ?_
     case y16_8=>intro w;go_simp<;>with_reducible rfl
     simp only [Act.put,sA,sZ,sS]
     refine' GoT.tk 1 (i:=9) (oi:=⟨some 137,_,_,_,_,_⟩) rfl (by rfl) ?y16_9 ?_
     case y16_9=>intro w hSw;have c2:=(hSw.cell (World.block_lt_of_cell? _ _ c2) (by simp)).trans c2;have o1:=(hSw.cell (World.block_lt_of_cell? _ _ o1) (by simp)).trans o1;have o2:=(hSw.cell (World.block_lt_of_cell? _ _ o2) (by simp)).trans o2;have o3:=(hSw.cell (World.block_lt_of_cell? _ _ o3) (by simp)).trans o3;have o4:=(hSw.cell (World.block_lt_of_cell? _ _ o4) (by simp)).trans o4;have o5:=(hSw.cell (World.block_lt_of_cell? _ _ o5) (by simp)).trans o5;go_simp<;>with_reducible rfl
     simp only [Act.put,sA,sZ,sS]
     refine' GoT.mv (i:=10) (oi:=⟨some 138,_,_,_,_,_⟩) rfl (by rfl) ?y16_10 ?_
     case y16_10=>intro w;go_simp<;>with_reducible rfl
     simp only [Act.put,sA,sZ,sS]
     refine' GoT.tk 1 (i:=11) (oi:=⟨some 139,_,_,_,_,_⟩) rfl (by rfl) ?y16_11 ?_
     case y16_11=>intro w hSw;have c2:=(hSw.cell (World.block_lt_of_cell? _ _ c2) (by simp)).trans c2;have o1:=(hSw.cell (World.block_lt_of_cell? _ _ o1) (by simp)).trans o1;have o2:=(hSw.cell (World.block_lt_of_cell? _ _ o2) (by simp)).trans o2;have o3:=(hSw.cell (World.block_lt_of_cell? _ _ o3) (by simp)).trans o3;have o4:=(hSw.cell (World.block_lt_of_cell? _ _ o4) (by simp)).trans o4;have o5:=(hSw.cell (World.block_lt_of_cell? _ _ o5) (by simp)).trans o5;go_simp<;>with_reducible rfl
     simp only [Act.put,sA,sZ,sS]
     refine' GoT.mv (i:=12) (oi:=⟨some 140,_,_,_,_,_⟩) rfl (by rfl) ?y16_12 ?_
     case y16_12=>intro w;go_simp<;>with_reducible rfl
     simp only [Act.put,sA,sZ,sS]
     refine' GoT.tk 1 (i:=13) (oi:=⟨some 141,_,_,_,_,_⟩) rfl (by rfl) ?y16_13 ?_
     case y16_13=>intro w hSw;have c2:=(hSw.cell (World.block_lt_of_cell? _ _ c2) (by simp)).trans c2;have o1:=(hSw.cell (World.block_lt_of_cell? _ _ o1) (by simp)).trans o1;have o2:=(hSw.cell (World.block_lt_of_cell? _ _ o2) (by simp)).trans o2;have o3:=(hSw.cell (World.block_lt_of_cell? _ _ o3) (by simp)).trans o3;have o4:=(hSw.cell (World.block_lt_of_cell? _ _ o4) (by simp)).trans o4;have o5:=(hSw.cell (World.block_lt_of_cell? _ _ o5) (by simp)).trans o5;go_simp<;>with_reducible rfl
     simp only [Act.put,sA,sZ,sS]
     refine' GoT.mv (i:=14) (oi:=⟨some 142,_,_,_,_,_⟩) rfl (by rfl) ?y16_14 ?_
     case y16_14=>intro w;go_simp<;>with_reducible rfl
     simp only [Act.put,sA,sZ,sS]
     refine GoT.pair (i:=0) (o:=⟨some 128,_,_,_,_,_⟩) (k:=15) (o':=⟨some 143,_,_,_,_,_⟩) rfl rfl (by kernel_rfl) (fun K hK=>?_) (fun K hK=>?_)
     ·skip
      try clear hS
      have hownE:(Wx.alloc (.cells #[] 54)).ownsRow w3.heap.size 54 3 (.slice (some ⟨Wx.heap.size,0,none⟩) 0 0) 0 []:=World.ownsRow_lit Wx #[] 0 HUx.out.size (by decide) rfl
      have HltE:=Lib.hid (show Wx.heap.size<(Wx.alloc (.cells #[] 54)).heap.size by simp)
      have HUy:=Lib.hid (HUx.out.alloc (.cells #[] 54))
      go_simp
      refine hK.out _ _ (fun _ h=>h.alloc _) ?_
      clear hK K
      generalize Wx.alloc (.cells #[] 54)=Wy at hownE HUy HltE ⊢
      generalize Wx.heap.size=qE at hownE HltE ⊢
      have HOE:=Lib.hid hownE
      clear hownE HUx
      obtain ⟨HUx,-⟩:=And.intro HUy trivial
      clear HUy
      clear Wx
      obtain ⟨Wx,rfl⟩:∃W:World,W=Wy:=⟨_,rfl⟩
      try simp only [Act.put,sA,sZ,sS]
      refine GoT.pair (i:=7) (o:=⟨some 135,_,_,_,_,_⟩) (k:=15) (o':=⟨some 143,_,_,_,_,_⟩) rfl rfl (by kernel_rfl) (fun K hK=>?_) (fun K hK=>?_)
      ·skip
       try clear hS
       rw [if_pos (by simp [Region.wanted])]
       refine wp_app _ _ _ 30 (by rfl) w3.heap.size 54 i0 (.agg #[.int .i64 0,.int .i64 0,.int .u32 0]) 3 24 Tryz.underlying30 hi hz0 hz1 hz2 rfl (by decide) _ 0 [] (by rfl) HOE.out _ k XT (by rfl) (HTS.out.2 _ (sees_upd HTS.out.1 HUx.out (by simp))) hone (by unfold maxLen;omega) (by omega) HUx.out.size ?_
       intro AA CA Wy HP
       have hgeq:=own_ge HOE.out
       have hpoA:Wy.ownsRow w3.heap.size 54 3 (.slice AA k CA) k XT:=by have:=HP.own;rw [Nat.zero_add] at this;exact this
       have HUy:=Lib.hid (HUx.out.trans' HP.upd (fun y hy=>.inr (hgeq y hy)))
       have HOA:=Lib.hid hpoA
       rw [Nat.zero_add]
       refine hK.out _ _ (fun _ h=>h.trans' HP.upd (fun y hy=>.inr (hgeq y hy))) ?_
       clear hK K HP hgeq hpoA HUx HOE
       try clear HltE
       try clear HltX
       try clear HNE
       obtain ⟨HUx,-⟩:=And.intro HUy trivial
       clear HUy
       clear Wx
       obtain ⟨Wx,rfl⟩:∃W:World,W=Wy:=⟨_,rfl⟩
       try simp only [Act.put,sA,sZ,sS]
       refine GoT.one (i:=15) (o:=⟨some 143,_,_,_,_,_⟩) rfl (by kernel_rfl) fun K hK=>?_
       try clear hS
       have hownX:Sees (Wx.alloc (.cells #[.int .i64 oa,.int .i64 ob,.int .u32 (oi:Int)] 54)) 3 (.slice (some ⟨Wx.heap.size,0,none⟩) 1 1) 1 [.int .i64 oa,.int .i64 ob,.int .u32 (oi:Int)]:=sees_lit Wx #[.int .i64 oa,.int .i64 ob,.int .u32 (oi:Int)] 54 3 1 rfl (by decide)
       replace HOA:=Lib.hid (own_upd HOA.out ((Upd.refl [] Wx).alloc (.cells #[.int .i64 oa,.int .i64 ob,.int .u32 (oi:Int)] 54)) (by simp))
       have HltX:=Lib.hid (show Wx.heap.size<(Wx.alloc (.cells #[.int .i64 oa,.int .i64 ob,.int .u32 (oi:Int)] 54)).heap.size by simp)
       have HUy:=Lib.hid (HUx.out.alloc (.cells #[.int .i64 oa,.int .i64 ob,.int .u32 (oi:Int)] 54))
       go_simp
       refine hK.out _ _ (fun _ h=>h.alloc _) ?_
       clear hK K
       generalize Wx.alloc (.cells #[.int .i64 oa,.int .i64 ob,.int .u32 (oi:Int)] 54)=Wy at hownX HUy HltX HOA ⊢
       generalize Wx.heap.size=qX at hownX HltX ⊢
       have HOX:=Lib.hid hownX
       clear hownX HUx
       obtain ⟨HUx,-⟩:=And.intro HUy trivial
       clear HUy
       clear Wx
       obtain ⟨Wx,rfl⟩:∃W:World,W=Wy:=⟨_,rfl⟩
       try simp only [Act.put,sA,sZ,sS]
       refine GoT.one (i:=16) (o:=⟨some 144,_,_,_,_,_⟩) rfl (by kernel_rfl) fun K hK=>?_
       try clear hS
       rw [if_pos (by simp [Region.wanted])]
       refine wp_app _ _ _ 30 (by rfl) w3.heap.size 54 i0 (.agg #[.int .i64 0,.int .i64 0,.int .u32 0]) 3 24 Tryz.underlying30 hi hz0 hz1 hz2 rfl (by decide) _ k XT (by rfl) HOA.out _ 1 [.int .i64 oa,.int .i64 ob,.int .u32 (oi:Int)] (by rfl) (HOX.out) (by simp [Value.oneCell']) (by unfold maxLen;omega) (by omega) HUx.out.size ?_
       intro AB CB Wy HP
       have hgeq:=own_ge HOA.out
       have hpoB:Wy.ownsRow w3.heap.size 54 3 (.slice AB (k+1) CB) (k+1) (XT++[.int .i64 oa,.int .i64 ob,.int .u32 (oi:Int)]):=by exact HP.own
       have HUy:=Lib.hid (HUx.out.trans' HP.upd (fun y hy=>.inr (hgeq y hy)))
       have HOB:=Lib.hid hpoB
       refine hK.out _ _ (fun _ h=>h.trans' HP.upd (fun y hy=>.inr (hgeq y hy))) ?_
       clear hK K HP hgeq hpoB HUx HOA HOX
       try clear HltE
       try clear HltX
       try clear HNE
       obtain ⟨HUx,-⟩:=And.intro HUy trivial
       clear HUy
       clear Wx
       obtain ⟨Wx,rfl⟩:∃W:World,W=Wy:=⟨_,rfl⟩
       try simp only [Act.put,sA,sZ,sS]
       refine' GoT.mv (i:=17) (oi:=⟨some 9,_,_,_,_,_⟩) rfl (by rfl) ?y16aa_17 ?_
       case y16aa_17=>intro w;go_simp<;>with_reducible rfl
       simp only [Act.put,sA,sZ,sS]
       refine GoT.done (by kernel_rfl) ?_
       clear o0 o1 o2 o3 o4 o5 c0 c1 c2 c3
       go_wp2_with fail
       go_meet
       case rel=>exact ⟨_,_,rfl,HOB.out,HUx.out⟩
      ·skip
       try clear hS
       have hownX:Sees (Wx.alloc (.cells #[.int .i64 oa,.int .i64 ob,.int .u32 (oi:Int)] 54)) 3 (.slice (some ⟨Wx.heap.size,0,none⟩) 1 1) 1 [.int .i64 oa,.int .i64 ob,.int .u32 (oi:Int)]:=sees_lit Wx #[.int .i64 oa,.int .i64 ob,.int .u32 (oi:Int)] 54 3 1 rfl (by decide)
       replace HOE:=Lib.hid (own_upd HOE.out ((Upd.refl [] Wx).alloc (.cells #[.int .i64 oa,.int .i64 ob,.int .u32 (oi:Int)] 54)) (by simp))
       have HNE:=Lib.hid (show qE≠Wx.heap.size from by have:=HltE.out;omega)
       have HltX:=Lib.hid (show Wx.heap.size<(Wx.alloc (.cells #[.int .i64 oa,.int .i64 ob,.int .u32 (oi:Int)] 54)).heap.size by simp)
       clear HltE
       have HUy:=Lib.hid (HUx.out.alloc (.cells #[.int .i64 oa,.int .i64 ob,.int .u32 (oi:Int)] 54))
       go_simp
       refine hK.out _ _ (fun _ h=>h.alloc _) ?_
       clear hK K
       generalize Wx.alloc (.cells #[.int .i64 oa,.int .i64 ob,.int .u32 (oi:Int)] 54)=Wy at hownX HUy HltX HOE ⊢
       generalize Wx.heap.size=qX at hownX HltX HNE ⊢
       have HOX:=Lib.hid hownX
       clear hownX HUx
       obtain ⟨HUx,-⟩:=And.intro HUy trivial
       clear HUy
       clear Wx
       obtain ⟨Wx,rfl⟩:∃W:World,W=Wy:=⟨_,rfl⟩
       try simp only [Act.put,sA,sZ,sS]
       refine GoT.one (i:=7) (o:=⟨some 135,_,_,_,_,_⟩) rfl (by kernel_rfl) fun K hK=>?_
       try clear hS
       rw [if_pos (by simp [Region.wanted])]
       refine wp_app _ _ _ 30 (by rfl) w3.heap.size 54 i0 (.agg #[.int .i64 0,.int .i64 0,.int .u32 0]) 3 24 Tryz.underlying30 hi hz0 hz1 hz2 rfl (by decide) _ 0 [] (by rfl) HOE.out _ k XT (by rfl) (HTS.out.2 _ (sees_upd HTS.out.1 HUx.out (by simp))) hone (by unfold maxLen;omega) (by omega) HUx.out.size ?_
       intro AA CA Wy HP
       have hgeq:=own_ge HOE.out
       have hpoA:Wy.ownsRow w3.heap.size 54 3 (.slice AA k CA) k XT:=by have:=HP.own;rw [Nat.zero_add] at this;exact this
       replace HOX:=Lib.hid (sees_upd HOX.out HP.upd (fun _ k hk _ hm=>by have h1:=HNE.out;simp [blk] at hk hm;omega))
       have HUy:=Lib.hid (HUx.out.trans' HP.upd (fun y hy=>.inr (hgeq y hy)))
       have HOA:=Lib.hid hpoA
       rw [Nat.zero_add]
       refine hK.out _ _ (fun _ h=>h.trans' HP.upd (fun y hy=>.inr (hgeq y hy))) ?_
       clear hK K HP hgeq hpoA HUx HOE
       try clear HltE
       try clear HltX
       try clear HNE
       obtain ⟨HUx,-⟩:=And.intro HUy trivial
       clear HUy
       clear Wx
       obtain ⟨Wx,rfl⟩:∃W:World,W=Wy:=⟨_,rfl⟩
       try simp only [Act.put,sA,sZ,sS]
       refine GoT.one (i:=16) (o:=⟨some 144,_,_,_,_,_⟩) rfl (by kernel_rfl) fun K hK=>?_
       try clear hS
       rw [if_pos (by simp [Region.wanted])]
       refine wp_app _ _ _ 30 (by rfl) w3.heap.size 54 i0 (.agg #[.int .i64 0,.int .i64 0,.int .u32 0]) 3 24 Tryz.underlying30 hi hz0 hz1 hz2 rfl (by decide) _ k XT (by rfl) HOA.out _ 1 [.int .i64 oa,.int .i64 ob,.int .u32 (oi:Int)] (by rfl) (HOX.out) (by simp [Value.oneCell']) (by unfold maxLen;omega) (by omega) HUx.out.size ?_
       intro AB CB Wy HP
       have hgeq:=own_ge HOA.out
       have hpoB:Wy.ownsRow w3.heap.size 54 3 (.slice AB (k+1) CB) (k+1) (XT++[.int .i64 oa,.int .i64 ob,.int .u32 (oi:Int)]):=by exact HP.own
       have HUy:=Lib.hid (HUx.out.trans' HP.upd (fun y hy=>.inr (hgeq y hy)))
       have HOB:=Lib.hid hpoB
       refine hK.out _ _ (fun _ h=>h.trans' HP.upd (fun y hy=>.inr (hgeq y hy))) ?_
       clear hK K HP hgeq hpoB HUx HOA HOX
       try clear HltE
       try clear HltX
       try clear HNE
       obtain ⟨HUx,-⟩:=And.intro HUy trivial
       clear HUy
       clear Wx
       obtain ⟨Wx,rfl⟩:∃W:World,W=Wy:=⟨_,rfl⟩
       try simp only [Act.put,sA,sZ,sS]
       refine' GoT.mv (i:=17) (oi:=⟨some 9,_,_,_,_,_⟩) rfl (by rfl) ?y16ab_17 ?_
       case y16ab_17=>intro w;go_simp<;>with_reducible rfl
       simp only [Act.put,sA,sZ,sS]
       refine GoT.done (by kernel_rfl) ?_
       clear o0 o1 o2 o3 o4 o5 c0 c1 c2 c3
       go_wp2_with fail
       go_meet
       case rel=>exact ⟨_,_,rfl,HOB.out,HUx.out⟩
     ·skip
      try clear hS
      have hownX:Sees (Wx.alloc (.cells #[.int .i64 oa,.int .i64 ob,.int .u32 (oi:Int)] 54)) 3 (.slice (some ⟨Wx.heap.size,0,none⟩) 1 1) 1 [.int .i64 oa,.int .i64 ob,.int .u32 (oi:Int)]:=sees_lit Wx #[.int .i64 oa,.int .i64 ob,.int .u32 (oi:Int)] 54 3 1 rfl (by decide)
      have HltX:=Lib.hid (show Wx.heap.size<(Wx.alloc (.cells #[.int .i64 oa,.int .i64 ob,.int .u32 (oi:Int)] 54)).heap.size by simp)
      have HUy:=Lib.hid (HUx.out.alloc (.cells #[.int .i64 oa,.int .i64 ob,.int .u32 (oi:Int)] 54))
      go_simp
      refine hK.out _ _ (fun _ h=>h.alloc _) ?_
      clear hK K
      generalize Wx.alloc (.cells #[.int .i64 oa,.int .i64 ob,.int .u32 (oi:Int)] 54)=Wy at hownX HUy HltX ⊢
      generalize Wx.heap.size=qX at hownX HltX ⊢
      have HOX:=Lib.hid hownX
      clear hownX HUx
      obtain ⟨HUx,-⟩:=And.intro HUy trivial
      clear HUy
      clear Wx
      obtain ⟨Wx,rfl⟩:∃W:World,W=Wy:=⟨_,rfl⟩
      try simp only [Act.put,sA,sZ,sS]
      refine GoT.one (i:=0) (o:=⟨some 128,_,_,_,_,_⟩) rfl (by kernel_rfl) fun K hK=>?_
      try clear hS
      have hownE:(Wx.alloc (.cells #[] 54)).ownsRow w3.heap.size 54 3 (.slice (some ⟨Wx.heap.size,0,none⟩) 0 0) 0 []:=World.ownsRow_lit Wx #[] 0 HUx.out.size (by decide) rfl
      replace HOX:=Lib.hid (sees_upd HOX.out ((Upd.refl [] Wx).alloc (.cells #[] 54)) (by simp))
      have HNE:=Lib.hid (show qX≠Wx.heap.size from by have:=HltX.out;omega)
      have HltE:=Lib.hid (show Wx.heap.size<(Wx.alloc (.cells #[] 54)).heap.size by simp)
      clear HltX
      have HUy:=Lib.hid (HUx.out.alloc (.cells #[] 54))
      go_simp
      refine hK.out _ _ (fun _ h=>h.alloc _) ?_
      clear hK K
      generalize Wx.alloc (.cells #[] 54)=Wy at hownE HUy HltE HOX ⊢
      generalize Wx.heap.size=qE at hownE HltE HNE ⊢
      have HOE:=Lib.hid hownE
      clear hownE HUx
      obtain ⟨HUx,-⟩:=And.intro HUy trivial
      clear HUy
      clear Wx
      obtain ⟨Wx,rfl⟩:∃W:World,W=Wy:=⟨_,rfl⟩
      try simp only [Act.put,sA,sZ,sS]
      refine GoT.one (i:=7) (o:=⟨some 135,_,_,_,_,_⟩) rfl (by kernel_rfl) fun K hK=>?_
      try clear hS
      rw [if_pos (by simp [Region.wanted])]
      refine wp_app _ _ _ 30 (by rfl) w3.heap.size 54 i0 (.agg #[.int .i64 0,.int .i64 0,.int .u32 0]) 3 24 Tryz.underlying30 hi hz0 hz1 hz2 rfl (by decide) _ 0 [] (by rfl) HOE.out _ k XT (by rfl) (HTS.out.2 _ (sees_upd HTS.out.1 HUx.out (by simp))) hone (by unfold maxLen;omega) (by omega) HUx.out.size ?_
      intro AA CA Wy HP
      have hgeq:=own_ge HOE.out
      have hpoA:Wy.ownsRow w3.heap.size 54 3 (.slice AA k CA) k XT:=by have:=HP.own;rw [Nat.zero_add] at this;exact this
      replace HOX:=Lib.hid (sees_upd HOX.out HP.upd (fun _ k hk _ hm=>by have h1:=HNE.out;simp [blk] at hk hm;omega))
      have HUy:=Lib.hid (HUx.out.trans' HP.upd (fun y hy=>.inr (hgeq y hy)))
      have HOA:=Lib.hid hpoA
      rw [Nat.zero_add]
      refine hK.out _ _ (fun _ h=>h.trans' HP.upd (fun y hy=>.inr (hgeq y hy))) ?_
      clear hK K HP hgeq hpoA HUx HOE
      try clear HltE
      try clear HltX
      try clear HNE
      obtain ⟨HUx,-⟩:=And.intro HUy trivial
      clear HUy
      clear Wx
      obtain ⟨Wx,rfl⟩:∃W:World,W=Wy:=⟨_,rfl⟩
      try simp only [Act.put,sA,sZ,sS]
      refine GoT.one (i:=16) (o:=⟨some 144,_,_,_,_,_⟩) rfl (by kernel_rfl) fun K hK=>?_
      try clear hS
      rw [if_pos (by simp [Region.wanted])]
      refine wp_app _ _ _ 30 (by rfl) w3.heap.size 54 i0 (.agg #[.int .i64 0,.int .i64 0,.int .u32 0]) 3 24 Tryz.underlying30 hi hz0 hz1 hz2 rfl (by decide) _ k XT (by rfl) HOA.out _ 1 [.int .i64 oa,.int .i64 ob,.int .u32 (oi:Int)] (by rfl) (HOX.out) (by simp [Value.oneCell']) (by unfold maxLen;omega) (by omega) HUx.out.size ?_
      intro AB CB Wy HP
      have hgeq:=own_ge HOA.out
      have hpoB:Wy.ownsRow w3.heap.size 54 3 (.slice AB (k+1) CB) (k+1) (XT++[.int .i64 oa,.int .i64 ob,.int .u32 (oi:Int)]):=by exact HP.own
      have HUy:=Lib.hid (HUx.out.trans' HP.upd (fun y hy=>.inr (hgeq y hy)))
      have HOB:=Lib.hid hpoB
      refine hK.out _ _ (fun _ h=>h.trans' HP.upd (fun y hy=>.inr (hgeq y hy))) ?_
      clear hK K HP hgeq hpoB HUx HOA HOX
      try clear HltE
      try clear HltX
      try clear HNE
      obtain ⟨HUx,-⟩:=And.intro HUy trivial
      clear HUy
      clear Wx
      obtain ⟨Wx,rfl⟩:∃W:World,W=Wy:=⟨_,rfl⟩
      try simp only [Act.put,sA,sZ,sS]
      refine' GoT.mv (i:=17) (oi:=⟨some 9,_,_,_,_,_⟩) rfl (by rfl) ?y16b_17 ?_
      case y16b_17=>intro w;go_simp<;>with_reducible rfl
      simp only [Act.put,sA,sZ,sS]
      refine GoT.done (by kernel_rfl) ?_
      clear o0 o1 o2 o3 o4 o5 c0 c1 c2 c3
      go_wp2_with fail
      go_meet
      case rel=>exact ⟨_,_,rfl,HOB.out,HUx.out⟩
    obtain ⟨Ao,Co,rfl,howo,huo⟩:=hcut
    obtain ⟨W5,rfl⟩:∃W:World,W=wc:=⟨_,rfl⟩
    have HO5:=Lib.hid (And.intro howo huo)
    have HM5:=Lib.hid (HM3.out.upd0 huo)
    have HRP5:=Lib.hid (HRP3.out.upd huo (by simp))
    obtain ⟨c0,c1,c2,c3⟩:=HM5.out.cells
    rw [HN.out.2.1] at c2
    have fr:=HM5.out.head.frozen 2
    have hkn':=Lib.hid hkn
    clear howo huo o0 o1 o2 o3 o4 o5 hone d1 d2 hrm hkn
    have hct:=HCF.out
    go_wp2_with (at_builtin;refine wpList_app _ rfl _ _ 30 rfl w3.heap.size 54 i0 (.agg #[.int .i64 0,.int .i64 0,.int .u32 0]) 3 24 Tryz.underlying30 hi hz0 hz1 hz2 rfl (by decide) (.slice Ao (k+1) Co) (k+1) (XT++[.int .i64 oa,.int .i64 ob,.int .u32 (oi:Int)]) rfl HO5.out.1 (.slice AF (n - k) CF) (n - k) (KSp.all (m.ss.drop k)) rfl (HFS.out _ (sees_upd HTS.out.1 HO5.out.2 (by simp))) (KSp.all_one _) (by unfold maxLen;omega) (by omega) HO5.out.2.size ?_)
    intro A6 C6 W6 HP6
    have hge5:=own_ge HO5.out.1
    have hu6:Upd [] w3 W6:=HO5.out.2.trans' HP6.upd (fun y hy=>.inr (hge5 y hy))
    have hN:k+1+(n - k)=n+1:=by have:=hkn'.out;omega
    have hrow6:W6.ownsRow w3.heap.size 54 3 (.slice A6 (n+1) C6) (n+1) (KSp.all (insA Sp.id ⟨oa,ob,oi⟩ m.ss)):=by
     have h:=HP6.own
     rw [hN] at h
     rw [←place_ins HOK.out.ss HP.out.1,KSp.all_app,HXT.out]
     rw [List.append_assoc] at h
     exact h
    rw [hN]
    have HR6:=Lib.hid (And.intro hrow6 hu6)
    have HM6:=Lib.hid (HM3.out.upd0 hu6)
    have HRP6:=Lib.hid (HRP3.out.upd hu6 (by simp))
    obtain ⟨c0,c1,c2,c3⟩:=HM6.out.cells
    have fr:=HM6.out.head.frozen 2
    clear HP6 hge5 hu6 hN hrow6 hct
    go_upto_region 18 with fail
    clear c0 c1 c2 c3 fr
    have hu7:Upd [r] W6 (W6.setCell ⟨r,2,none⟩ (.slice A6 (n+1) C6)):=(Upd.refl [r] W6).setCell (p:=⟨r,2,none⟩) (.inl (by simp)) _
    have hrn:r∉blk (.slice A6 (n+1) C6):=fun hc=>by
     have h1:=own_ge HR6.out.1 r hc
     have h2:=HU3.out.size
     have h3:=HQ.out.2.2.2
     omega
    have hlen:(insA Sp.id ⟨oa,ob,oi⟩ m.ss).length=n+1:=by
     rw [←place_ins HOK.out.ss HP.out.1,List.length_append,List.length_cons,List.length_take,List.length_drop,HN.out.2.1]
     have:=hkn'.out
     omega
    have HH7:=Lib.hid (show HpC (W6.setCell ⟨r,2,none⟩ (.slice A6 (n+1) C6)) r #[.int .i64 (m.room:Int),.slice AP m.ps.length CP,.slice A6 (insA Sp.id ⟨oa,ob,oi⟩ m.ss).length C6,.slice AB m.bs.length CB] 33 by
     rw [hlen]
     exact HM6.out.head.set 2 (.slice A6 (n+1) C6))
    have HO7:=Lib.hid (own_upd HR6.out.1 hu7 (fun k hk hc=>hrn (by simp at hc;rw [←hc];exact hk)))
    have HLN:=Lib.hid (And.intro hlen hrn)
    have HU7:=Lib.hid (show Upd [r] w (W6.setCell ⟨r,2,none⟩ (.slice A6 (n+1) C6)) from (((HU3.out.trans HR6.out.2).mono (by simp)).trans hu7))
    have HRPL:=Lib.hid (show qr<w3.heap.size from lt_of_block HRP3.out)
    have HRP7:=Lib.hid (HRP6.out.upd hu7 (by have:=HQ.out;simp only [List.mem_singleton];have:=HL.out.2.2;omega))
    clear hu7 hrn hlen
    generalize W6.setCell ⟨r,2,none⟩ (.slice A6 (n+1) C6)=W7 at HH7 HO7 HU7 HRP7 ⊢
    have hrp:=HRP7.out
    have f0:(W7).frozen? ⟨qr,0,none⟩=false:=hrp.frozen 0
    have f1:(W7).frozen? ⟨qr,1,none⟩=false:=hrp.frozen 1
    have f2:(W7).frozen? ⟨qr,2,none⟩=false:=hrp.frozen 2
    have f3:(W7).frozen? ⟨qr,3,none⟩=false:=hrp.frozen 3
    have f4:(W7).frozen? ⟨qr,4,none⟩=false:=hrp.frozen 4
    have f5:(W7).frozen? ⟨qr,5,none⟩=false:=hrp.frozen 5
    have c0:=hrp.cell 0
    have c1:=hrp.cell 1
    have c2:=hrp.cell 2
    have c3:=hrp.cell 3
    have c4:=hrp.cell 4
    have c5:=hrp.cell 5
    simp only [List.getElem?_toArray,List.getElem?_cons_zero,List.getElem?_cons_succ] at c0 c1 c2 c3 c4 c5
    have HP:=Lib.hid (And.intro (hrp.put (.int .i64 0) (.slice none 0 0) (.int .i64 ((n:Int)+1)) (.bool false) (.int .u64 0) (.int .u64 0)) (upd_put (q:=qr) HU7.out (.inr HQ.out.1) (.int .i64 0) (.slice none 0 0) (.int .i64 ((n:Int)+1)) (.bool false) (.int .u64 0) (.int .u64 0)))
    clear hrp
    go_wp2_with fail
    clear f0 c0 f1 c1 f2 c2 f3 c3 f4 c4 f5 c5
    have y0:=HP.out.1.cell 0
    have y1:=HP.out.1.cell 1
    have y2:=HP.out.1.cell 2
    have y3:=HP.out.1.cell 3
    have y4:=HP.out.1.cell 4
    have y5:=HP.out.1.cell 5
    simp only [List.getElem?_toArray,List.getElem?_cons_zero,List.getElem?_cons_succ] at y0 y1 y2 y3 y4 y5
    have hp:=upd_put (q:=qr) (Upd.refl [qr] W7) (.inl (by simp)) (.int .i64 0) (.slice none 0 0) (.int .i64 ((n:Int)+1)) (.bool false) (.int .u64 0) (.int .u64 0)
    refine bodyPost_ret (v:=repV 0 (n+1) false (.slice none 0 0) 0 0) ?_ rfl ⟨⟨_,rfl,by rw [HN.out.2.1];exact repAt_cnt _ _⟩,⟨AP,CP,A6,C6,AB,CB,HH7.out.upd hp (by have:=HQ.out;have:=HL.out.2.2;simp only [List.mem_singleton];omega),HM0.out.ps.upd HP.out.2 (fun _ k hk _ hc=>HM0.out.np (by simp at hc;rw [←hc];exact hk)),by have:=sees_of_own (own_upd HO7.out hp (fun k hk hc=>by have h1:=own_ge HO7.out k hk;have h2:=HU3.out.size;have h3:=HRPL.out;simp at hc;omega));unfold See;rw [HLN.out.1];exact this,HM0.out.bs.upd HP.out.2 (fun _ k hk _ hc=>HM0.out.nb (by simp at hc;rw [←hc];exact hk)),HM0.out.np,by rw [HLN.out.1];exact HLN.out.2,HM0.out.nb⟩,HP.out.2⟩
    simp [repV,results,Tryz.results26,go_sem,y0,y1,y2,y3,y4,y5]
 ·have e1:decide (ob<oa)=true:=decide_eq_true (by omega)
  rw [if_neg hab] at hres
  subst hres
  go_wp2_with fail
  (with_reducible refine (rwrong 261 _).mono ?_)
  rintro e w8 ⟨rfl,u8⟩
  have HU8:=Lib.hid (HU.out.trans u8)
  have HRP8:=Lib.hid (HRP.out.upd u8 (by simp))
  clear u8
  have hrp:=HRP8.out
  have f0:(w8).frozen? ⟨qr,0,none⟩=false:=hrp.frozen 0
  have f1:(w8).frozen? ⟨qr,1,none⟩=false:=hrp.frozen 1
  have f2:(w8).frozen? ⟨qr,2,none⟩=false:=hrp.frozen 2
  have f3:(w8).frozen? ⟨qr,3,none⟩=false:=hrp.frozen 3
  have f4:(w8).frozen? ⟨qr,4,none⟩=false:=hrp.frozen 4
  have f5:(w8).frozen? ⟨qr,5,none⟩=false:=hrp.frozen 5
  have c0:=hrp.cell 0
  have c1:=hrp.cell 1
  have c2:=hrp.cell 2
  have c3:=hrp.cell 3
  have c4:=hrp.cell 4
  have c5:=hrp.cell 5
  simp only [List.getElem?_toArray,List.getElem?_cons_zero,List.getElem?_cons_succ] at c0 c1 c2 c3 c4 c5
  have HP:=Lib.hid (And.intro (hrp.put (.int .i64 261) (.slice none 0 0) (.int .i64 0) (.bool false) (.int .u64 0) (.int .u64 0)) (upd_put (q:=qr) HU8.out (.inr HQ.out.1) (.int .i64 261) (.slice none 0 0) (.int .i64 0) (.bool false) (.int .u64 0) (.int .u64 0)))
  clear hrp
  go_wp2_with fail
  clear f0 c0 f1 c1 f2 c2 f3 c3 f4 c4 f5 c5
  have y0:=HP.out.1.cell 0
  have y1:=HP.out.1.cell 1
  have y2:=HP.out.1.cell 2
  have y3:=HP.out.1.cell 3
  have y4:=HP.out.1.cell 4
  have y5:=HP.out.1.cell 5
  simp only [List.getElem?_toArray,List.getElem?_cons_zero,List.getElem?_cons_succ] at y0 y1 y2 y3 y4 y5
  refine bodyPost_ret (v:=repV 261 0 false (.slice none 0 0) 0 0) ?_ rfl ⟨⟨_,rfl,repAt_err _ _⟩,⟨AP,CP,AS,CS,AB,CB,HM0.out.upd0 HP.out.2⟩,HP.out.2.mono (by simp)⟩
  simp [repV,results,Tryz.results26,go_sem,y0,y1,y2,y3,y4,y5]
theorem rcome3 {w:World} {r:Nat} {m:Md} {AP AS AB:Option Addr} {CP CS CB:Nat} (h:RMd w r m AP CP AS CS AB CB) (hok:m.ok) (hl:m.bs.length<100000) (hroom:m.room<4611686018427387904) (oa ob occ od:Int) (oi:Nat) :
 Calls Tryz.prog 26 #[.pointer (some ⟨r,0,none⟩),.agg #[.int .u8 3,.int .i64 oa,.int .i64 ob,.int .i64 occ,.int .i64 od,.int .u32 (oi:Int)]] w (RDoPost w r (changeM m ⟨3,oa,ob,occ,od,oi⟩)):=by
 obtain ⟨i0,hi,hz0,hz1,hz2⟩:=info_parts info_boxK
 obtain ⟨R,hR⟩:∃R,changeM m ⟨3,oa,ob,occ,od,oi⟩=R:=⟨_,rfl⟩
 rw [hR]
 have HRES:=Lib.hid hR
 have HOK:=Lib.hid hok
 have hu:Upd [] w ((w.alloc (.cells #[.int .u8 3,.int .i64 oa,.int .i64 ob,.int .i64 occ,.int .i64 od,.int .u32 (oi:Int)] 43)).alloc (.cells repZ 39)):=((Upd.refl _ _).alloc _).alloc _
 have hop:HpC ((w.alloc (.cells #[.int .u8 3,.int .i64 oa,.int .i64 ob,.int .i64 occ,.int .i64 od,.int .u32 (oi:Int)] 43)).alloc (.cells repZ 39)) w.heap.size #[.int .u8 3,.int .i64 oa,.int .i64 ob,.int .i64 occ,.int .i64 od,.int .u32 (oi:Int)] 43:=(show HpC (w.alloc (.cells #[.int .u8 3,.int .i64 oa,.int .i64 ob,.int .i64 occ,.int .i64 od,.int .u32 (oi:Int)] 43)) w.heap.size #[.int .u8 3,.int .i64 oa,.int .i64 ob,.int .i64 occ,.int .i64 od,.int .u32 (oi:Int)] 43 from heap_alloc_new w _).upd ((Upd.refl [] _).alloc _) (by simp)
 have hrp:RpAt ((w.alloc (.cells #[.int .u8 3,.int .i64 oa,.int .i64 ob,.int .i64 occ,.int .i64 od,.int .u32 (oi:Int)] 43)).alloc (.cells repZ 39)) (w.heap.size+1) repZ:=by
  have:=heap_alloc_new (w.alloc (.cells #[.int .u8 3,.int .i64 oa,.int .i64 ob,.int .i64 occ,.int .i64 od,.int .u32 (oi:Int)] 43)) (.cells repZ 39)
  unfold RpAt
  simpa using this
 have hrl:r<w.heap.size:=lt_of_block h.head
 have HU:=Lib.hid hu
 have HM:=Lib.hid (h.upd0 hu)
 have HM0:=Lib.hid h
 have HOP:=Lib.hid hop
 have HRP:=Lib.hid hrp
 have HL:=Lib.hid (And.intro hl (And.intro hroom hrl))
 clear hR hok h hu hop hrp hl hroom hrl
 go_enter Tryz.func26,Tryz.ntmps26
 go_upto_region 1 with fail
 generalize ((w.alloc (.cells #[.int .u8 3,.int .i64 oa,.int .i64 ob,.int .i64 occ,.int .i64 od,.int .u32 (oi:Int)] 43)).alloc (.cells repZ 39))=W at HU HM HOP HRP ⊢
 obtain ⟨qo,hqo⟩:∃q,w.heap.size=q:=⟨_,rfl⟩
 obtain ⟨qr,hqr⟩:∃q,w.heap.size+1=q:=⟨_,rfl⟩
 rw [hqr] at HRP ⊢
 rw [hqo] at HOP ⊢
 have HQ:=Lib.hid (show w.heap.size≤qr∧w.heap.size≤qo∧qr≠qo∧r<w.heap.size from ⟨by omega,by omega,by omega,HL.out.2.2⟩)
 clear hqo hqr
 have o0:=HOP.out.cell 0
 have o1:=HOP.out.cell 1
 have o2:=HOP.out.cell 2
 have o3:=HOP.out.cell 3
 have o4:=HOP.out.cell 4
 have o5:=HOP.out.cell 5
 simp only [List.getElem?_toArray,List.getElem?_cons_zero,List.getElem?_cons_succ] at o0 o1 o2 o3 o4 o5
 have hres:=HRES.out
 unfold changeM comeM OpP.bx at hres
 dsimp only at hres
 simp only [if_true,if_false,Nat.reduceEqDiff] at hres
 by_cases hab:oa≤ob
 ·have e1:decide (ob<oa)=false:=decide_eq_false (by omega)
  by_cases hcd:occ≤od
  ·have e2:decide (od<occ)=false:=decide_eq_false (by omega)
   rw [if_pos ⟨hab,hcd⟩] at hres
   go_upto_region 3 with fail
   clear o0 o1 o2 o3 o4 o5
   have HRS:=Lib.hid hres
   clear hres HRES
   obtain ⟨L,hL⟩:∃L,m.bs.map Bx.id=L:=⟨_,rfl⟩
   obtain ⟨n,hn⟩:∃n,m.bs.length=n:=⟨_,rfl⟩
   have hLn:L.length=n:=by rw [←hL,List.length_map,hn]
   have hnm:=rnames3 HM.out (by have:=HL.out.1;omega)
   unfold RowPostM at hnm
   rw [hL,hLn] at hnm
   have HNM:=Lib.hid hnm
   have HN:=Lib.hid (And.intro hL (And.intro hn hLn))
   have n0:(0:Int)≤(n:Int):=Int.natCast_nonneg _
   have n1:(n:Int)<100000:=by have:=HL.out.1;omega
   have m0:(0:Int)≤(m.room:Int):=Int.natCast_nonneg _
   have m1:(m.room:Int)<4611686018427387904:=by have:=HL.out.2.1;omega
   have o0:=HOP.out.cell 0
   simp only [List.getElem?_toArray,List.getElem?_cons_zero] at o0
   clear hnm hL hn hLn
   go_wp2_with fail
   (with_reducible refine HNM.out.mono ?_)
   rintro e w2 ⟨Ai,Ci,rfl,hrow,hu2⟩
   have hpl:=rplace (.slice Ai n Ci) L oi w2 (See.of_row hrow) (by have:=HN.out.2.2;omega)
   have HPL:=Lib.hid hpl
   have H2:=Lib.hid (And.intro hrow hu2)
   have o5:=(HOP.out.upd hu2 (by simp)).cell 5
   simp only [List.getElem?_toArray,List.getElem?_cons_zero,List.getElem?_cons_succ] at o5
   clear hpl hrow hu2 o0
   go_wp2_with fail
   (with_reducible refine HPL.out.mono ?_)
   rintro e w3 ⟨k,b,rfl,hp,hu3⟩
   have HU3:=Lib.hid (HU.out.trans (H2.out.2.trans hu3))
   have HU23:=Lib.hid hu3
   have HM3:=Lib.hid ((HM.out.upd0 H2.out.2).upd0 hu3)
   have HRP3:=Lib.hid ((HRP.out.upd H2.out.2 (by simp)).upd hu3 (by simp))
   have HOP3:=Lib.hid ((HOP.out.upd H2.out.2 (by simp)).upd hu3 (by simp))
   have hp':=hp
   rw [←HN.out.1] at hp'
   have hfd:=place_find HOK.out.bs hp'
   have HP:=Lib.hid (And.intro hp' hfd)
   clear hp hp' hfd hu3 o5 HPL HNM
   cases b with
   |true=>
    have hres:=HRS.out
    rw [if_pos HP.out.2] at hres
    subst hres
    go_wp2_with fail
    (with_reducible refine (rwrong 262 _).mono ?_)
    rintro e w8 ⟨rfl,u8⟩
    have HU8:=Lib.hid (HU3.out.trans u8)
    have HRP8:=Lib.hid (HRP3.out.upd u8 (by simp))
    clear u8
    have hrp:=HRP8.out
    have f0:(w8).frozen? ⟨qr,0,none⟩=false:=hrp.frozen 0
    have f1:(w8).frozen? ⟨qr,1,none⟩=false:=hrp.frozen 1
    have f2:(w8).frozen? ⟨qr,2,none⟩=false:=hrp.frozen 2
    have f3:(w8).frozen? ⟨qr,3,none⟩=false:=hrp.frozen 3
    have f4:(w8).frozen? ⟨qr,4,none⟩=false:=hrp.frozen 4
    have f5:(w8).frozen? ⟨qr,5,none⟩=false:=hrp.frozen 5
    have c0:=hrp.cell 0
    have c1:=hrp.cell 1
    have c2:=hrp.cell 2
    have c3:=hrp.cell 3
    have c4:=hrp.cell 4
    have c5:=hrp.cell 5
    simp only [List.getElem?_toArray,List.getElem?_cons_zero,List.getElem?_cons_succ] at c0 c1 c2 c3 c4 c5
    have HP:=Lib.hid (And.intro (hrp.put (.int .i64 262) (.slice none 0 0) (.int .i64 0) (.bool false) (.int .u64 0) (.int .u64 0)) (upd_put (q:=qr) HU8.out (.inr HQ.out.1) (.int .i64 262) (.slice none 0 0) (.int .i64 0) (.bool false) (.int .u64 0) (.int .u64 0)))
    clear hrp
    go_wp2_with fail
    clear f0 c0 f1 c1 f2 c2 f3 c3 f4 c4 f5 c5
    have y0:=HP.out.1.cell 0
    have y1:=HP.out.1.cell 1
    have y2:=HP.out.1.cell 2
    have y3:=HP.out.1.cell 3
    have y4:=HP.out.1.cell 4
    have y5:=HP.out.1.cell 5
    simp only [List.getElem?_toArray,List.getElem?_cons_zero,List.getElem?_cons_succ] at y0 y1 y2 y3 y4 y5
    refine bodyPost_ret (v:=repV 262 0 false (.slice none 0 0) 0 0) ?_ rfl ⟨⟨_,rfl,repAt_err _ _⟩,⟨AP,CP,AS,CS,AB,CB,HM0.out.upd0 HP.out.2⟩,HP.out.2.mono (by simp)⟩
    simp [repV,results,Tryz.results26,go_sem,y0,y1,y2,y3,y4,y5]
   |false=>
    have hres:=HRS.out
    rw [if_neg (by rw [HP.out.2];simp)] at hres
    by_cases hrm:m.room≤n
    ·have c0:=HM3.out.cells.1
     have d1:decide ((m.room:Int)≤(n:Int))=true:=decide_eq_true (by omega)
     have d2:decide (m.room≤n)=true:=decide_eq_true hrm
     rw [if_pos (by rw [HN.out.2.1];exact hrm)] at hres
     subst hres
     go_wp2_with fail
     (with_reducible refine (rwrong 5 _).mono ?_)
     rintro e w8 ⟨rfl,u8⟩
     have HU8:=Lib.hid (HU3.out.trans u8)
     have HRP8:=Lib.hid (HRP3.out.upd u8 (by simp))
     clear u8
     have hrp:=HRP8.out
     have f0:(w8).frozen? ⟨qr,0,none⟩=false:=hrp.frozen 0
     have f1:(w8).frozen? ⟨qr,1,none⟩=false:=hrp.frozen 1
     have f2:(w8).frozen? ⟨qr,2,none⟩=false:=hrp.frozen 2
     have f3:(w8).frozen? ⟨qr,3,none⟩=false:=hrp.frozen 3
     have f4:(w8).frozen? ⟨qr,4,none⟩=false:=hrp.frozen 4
     have f5:(w8).frozen? ⟨qr,5,none⟩=false:=hrp.frozen 5
     have c0:=hrp.cell 0
     have c1:=hrp.cell 1
     have c2:=hrp.cell 2
     have c3:=hrp.cell 3
     have c4:=hrp.cell 4
     have c5:=hrp.cell 5
     simp only [List.getElem?_toArray,List.getElem?_cons_zero,List.getElem?_cons_succ] at c0 c1 c2 c3 c4 c5
     have HP:=Lib.hid (And.intro (hrp.put (.int .i64 5) (.slice none 0 0) (.int .i64 0) (.bool false) (.int .u64 0) (.int .u64 0)) (upd_put (q:=qr) HU8.out (.inr HQ.out.1) (.int .i64 5) (.slice none 0 0) (.int .i64 0) (.bool false) (.int .u64 0) (.int .u64 0)))
     clear hrp
     go_wp2_with fail
     clear f0 c0 f1 c1 f2 c2 f3 c3 f4 c4 f5 c5
     have y0:=HP.out.1.cell 0
     have y1:=HP.out.1.cell 1
     have y2:=HP.out.1.cell 2
     have y3:=HP.out.1.cell 3
     have y4:=HP.out.1.cell 4
     have y5:=HP.out.1.cell 5
     simp only [List.getElem?_toArray,List.getElem?_cons_zero,List.getElem?_cons_succ] at y0 y1 y2 y3 y4 y5
     refine bodyPost_ret (v:=repV 5 0 false (.slice none 0 0) 0 0) ?_ rfl ⟨⟨_,rfl,repAt_err _ _⟩,⟨AP,CP,AS,CS,AB,CB,HM0.out.upd0 HP.out.2⟩,HP.out.2.mono (by simp)⟩
     simp [repV,results,Tryz.results26,go_sem,y0,y1,y2,y3,y4,y5]
    ·have d1:decide ((m.room:Int)≤(n:Int))=false:=decide_eq_false (by omega)
     have d2:decide (m.room≤n)=false:=decide_eq_false hrm
     rw [if_neg (by rw [HN.out.2.1];exact hrm)] at hres
     subst hres
     obtain ⟨c0,c1,c2,c3⟩:=HM3.out.cells
     rw [HN.out.2.1] at c3
     have o0:=HOP3.out.cell 0
     simp only [List.getElem?_toArray,List.getElem?_cons_zero] at o0
     go_upto_region 10 with fail
     have o1:=HOP3.out.cell 1
     have o2:=HOP3.out.cell 2
     have o3:=HOP3.out.cell 3
     have o4:=HOP3.out.cell 4
     have o5:=HOP3.out.cell 5
     simp only [List.getElem?_toArray,List.getElem?_cons_zero,List.getElem?_cons_succ] at o1 o2 o3 o4 o5
     have hkn:k≤n:=by have:=HP.out.1.1;rw [List.length_map,HN.out.2.1] at this;exact this
     have hsee:=HM3.out.bs
     unfold See at hsee
     rw [HN.out.2.1] at hsee
     obtain ⟨AT,CT,hct,hts,hbt⟩:=cut_to (P:=Tryz.prog) Tryz.underlying31 hi hz1 hsee k hkn
     have hXT:((KBx.all m.bs).take (k*5))=KBx.all (m.bs.take k):=(KBx.all_take m.bs k).symm
     obtain ⟨XT,hxt⟩:∃X,KBx.all (m.bs.take k)=X:=⟨_,rfl⟩
     rw [hXT,hxt] at hts
     have hone:∀u∈XT,u.oneCell'=true:=by rw [←hxt];exact KBx.all_one _
     have HCT:=Lib.hid hct
     have HTS:=Lib.hid (And.intro hsee hts)
     have HXT:=Lib.hid hxt
     have k0:(0:Int)≤(k:Int):=Int.natCast_nonneg _
     have k1:(k:Int)≤(n:Int):=by omega
     obtain ⟨AF,CF,hcf,hfs,hbf⟩:=cut_from (P:=Tryz.prog) Tryz.underlying31 hi hz1 hsee k hkn
     have hXF:((KBx.all m.bs).drop (k*5))=KBx.all (m.bs.drop k):=(KBx.all_drop m.bs k).symm
     rw [hXF] at hfs
     have HCF:=Lib.hid hcf
     have HFS:=Lib.hid hfs
     clear hsee hct hts hbt hXT hxt hcf hfs hbf hXF
     go_cut [10] (fun s we=>∃A C,s=.slice A (k+1) C∧we.ownsRow w3.heap.size 59 5 (.slice A (k+1) C) (k+1) (XT++[.int .i64 oa,.int .i64 ob,.int .i64 occ,.int .i64 od,.int .u32 (oi:Int)])∧Upd [] w3 we)
     case first=>
      obtain ⟨Wd,hWd⟩:∃Wd,Wd=w3.drew:=⟨_,rfl⟩
      have HD0:=Lib.hid (show Upd [] w3 Wd by rw [hWd];exact (Upd.refl _ _).drew)
      obtain ⟨Wx,hWx⟩:∃Wx,Wx=Wd:=⟨_,rfl⟩
      have HUx:=Lib.hid (show Upd [] w3 Wx by rw [hWx];exact HD0.out)
      rw [←hWx] at hWd
      clear HD0 hWx
      refine GoT.start [] (fun w'=>Upd [] w3 w') (by kernel_rfl) ?_ fun hS=>?_
      ·exact (Upd.refl [] w3).drew
      rw [←hWd] at hS ⊢
      clear hWd
      refine' GoT.mv (i:=1) (oi:=⟨some 65,_,_,_,_,_⟩) rfl (by rfl) ?y10_1 ?_
      case y10_1=>intro w;go_simp<;>with_reducible rfl
      simp only [Act.put,sA,sZ,sS]
      refine' GoT.mv (i:=2) (oi:=⟨some 66,_,_,_,_,_⟩) rfl (by rfl) ?y10_2 ?_
      case y10_2=>intro w;go_simp<;>with_reducible rfl
      simp only [Act.put,sA,sZ,sS]
      refine' GoT.mv (i:=3) (oi:=⟨some 67,_,_,_,_,_⟩) rfl (by rfl) ?y10_3 ?_
      case y10_3=>intro w;go_simp<;>with_reducible rfl
      simp only [Act.put,sA,sZ,sS]
      refine' GoT.tk 1 (i:=4) (oi:=⟨some 68,_,_,_,_,_⟩) rfl (by rfl) ?y10_4 ?_
      case y10_4=>intro w hSw;have c3:=(hSw.cell (World.block_lt_of_cell? _ _ c3) (by simp)).trans c3;have o1:=(hSw.cell (World.block_lt_of_cell? _ _ o1) (by simp)).trans o1;have o2:=(hSw.cell (World.block_lt_of_cell? _ _ o2) (by simp)).trans o2;have o3:=(hSw.cell (World.block_lt_of_cell? _ _ o3) (by simp)).trans o3;have o4:=(hSw.cell (World.block_lt_of_cell? _ _ o4) (by simp)).trans o4;have o5:=(hSw.cell (World.block_lt_of_cell? _ _ o5) (by simp)).trans o5;go_simp<;>with_reducible rfl
      simp only [Act.put,sA,sZ,sS]
      refine' GoT.mv (i:=5) (oi:=⟨some 69,_,_,_,_,_⟩) rfl (by rfl) ?y10_5 ?_
      case y10_5=>intro w;go_simp<;>with_reducible rfl
      simp only [Act.put,sA,sZ,sS]
      refine' GoT.mv (i:=6) (oi:=⟨some 70,_,_,_,_,_⟩) rfl (by rfl) ?y10_6 ?_
      case y10_6=>intro w;have hct:=HCT.out;go_simp<;>with_reducible rfl
      simp only [Act.put,sA,sZ,sS]
      refine' GoT.mv (i:=8) (oi:=⟨some 72,_,_,_,_,_⟩) rfl (by rfl) ?y10_8 ?_
      case y10_8=>intro w;go_simp<;>with_reducible rfl
      simp only [Act.put,sA,sZ,sS]
      refine' GoT.tk 1 (i:=9) (oi:=⟨some 73,_,_,_,_,_⟩) rfl (by rfl) ?y10_9 ?_
      case y10_9=>intro w hSw;have c3:=(hSw.cell (World.block_lt_of_cell? _ _ c3) (by simp)).trans c3;have o1:=(hSw.cell (World.block_lt_of_cell? _ _ o1) (by simp)).trans o1;have o2:=(hSw.cell (World.block_lt_of_cell? _ _ o2) (by simp)).trans o2;have o3:=(hSw.cell (World.block_lt_of_cell? _ _ o3) (by simp)).trans o3;have o4:=(hSw.cell (World.block_lt_of_cell? _ _ o4) (by simp)).trans o4;have o5:=(hSw.cell (World.block_lt_of_cell? _ _ o5) (by simp)).trans o5;go_simp<;>with_reducible rfl
      simp only [Act.put,sA,sZ,sS]
      refine' GoT.mv (i:=10) (oi:=⟨some 74,_,_,_,_,_⟩) rfl (by rfl) ?y10_10 ?_
      case y10_10=>intro w;go_simp<;>with_reducible rfl
      simp only [Act.put,sA,sZ,sS]
      refine' GoT.tk 1 (i:=11) (oi:=⟨some 75,_,_,_,_,_⟩) rfl (by rfl) ?y10_11 ?_
      case y10_11=>intro w hSw;have c3:=(hSw.cell (World.block_lt_of_cell? _ _ c3) (by simp)).trans c3;have o1:=(hSw.cell (World.block_lt_of_cell? _ _ o1) (by simp)).trans o1;have o2:=(hSw.cell (World.block_lt_of_cell? _ _ o2) (by simp)).trans o2;have o3:=(hSw.cell (World.block_lt_of_cell? _ _ o3) (by simp)).trans o3;have o4:=(hSw.cell (World.block_lt_of_cell? _ _ o4) (by simp)).trans o4;have o5:=(hSw.cell (World.block_lt_of_cell? _ _ o5) (by simp)).trans o5;go_simp<;>with_reducible rfl
      simp only [Act.put,sA,sZ,sS]
      refine' GoT.mv (i:=12) (oi:=⟨some 76,_,_,_,_,_⟩) rfl (by rfl) ?y10_12 ?_
      case y10_12=>intro w;go_simp<;>with_reducible rfl
      simp only [Act.put,sA,sZ,sS]
      refine' GoT.tk 1 (i:=13) (oi:=⟨some 77,_,_,_,_,_⟩) rfl (by rfl) ?y10_13 ?_
      case y10_13=>intro w hSw;have c3:=(hSw.cell (World.block_lt_of_cell? _ _ c3) (by simp)).trans c3;have o1:=(hSw.cell (World.block_lt_of_cell? _ _ o1) (by simp)).trans o1;have o2:=(hSw.cell (World.block_lt_of_cell? _ _ o2) (by simp)).trans o2;have o3:=(hSw.cell (World.block_lt_of_cell? _ _ o3) (by simp)).trans o3;have o4:=(hSw.cell (World.block_lt_of_cell? _ _ o4) (by simp)).trans o4;have o5:=(hSw.cell (World.block_lt_of_cell? _ _ o5) (by simp)).trans o5;go_simp<;>with_reducible rfl
      simp only [Act.put,sA,sZ,sS]
      refine' GoT.mv (i:=14) (oi:=⟨some 78,_,_,_,_,_⟩) rfl (by rfl) ?y10_14 ?_
      case y10_14=>intro w;go_simp<;>with_reducible rfl
      simp only [Act.put,sA,sZ,sS]
      refine' GoT.tk 1 (i:=15) (oi:=⟨some 79,_,_,_,_,_⟩) rfl (by rfl) ?y10_15 ?_
      case y10_15=>intro w hSw;have c3:=(hSw.cell (World.block_lt_of_cell? _ _ c3) (by simp)).trans c3;have o1:=(hSw.cell (World.block_lt_of_cell? _ _ o1) (by simp)).trans o1;have o2:=(hSw.cell (World.block_lt_of_cell? _ _ o2) (by simp)).trans o2;have o3:=(hSw.cell (World.block_lt_of_cell? _ _ o3) (by simp)).trans o3;have o4:=(hSw.cell (World.block_lt_of_cell? _ _ o4) (by simp)).trans o4;have o5:=(hSw.cell (World.block_lt_of_cell? _ _ o5) (by simp)).trans o5;go_simp<;>with_reducible rfl
      simp only [Act.put,sA,sZ,sS]
      refine' GoT.mv (i:=16) (oi:=⟨some 80,_,_,_,_,_⟩) rfl (by rfl) ?y10_16 ?_
      case y10_16=>intro w;go_simp<;>with_reducible rfl
      simp only [Act.put,sA,sZ,sS]
      refine' GoT.tk 1 (i:=17) (oi:=⟨some 81,_,_,_,_,_⟩) rfl (by rfl) ?y10_17 ?_
      case y10_17=>intro w hSw;have c3:=(hSw.cell (World.block_lt_of_cell? _ _ c3) (by simp)).trans c3;have o1:=(hSw.cell (World.block_lt_of_cell? _ _ o1) (by simp)).trans o1;have o2:=(hSw.cell (World.block_lt_of_cell? _ _ o2) (by simp)).trans o2;have o3:=(hSw.cell (World.block_lt_of_cell? _ _ o3) (by simp)).trans o3;have o4:=(hSw.cell (World.block_lt_of_cell? _ _ o4) (by simp)).trans o4;have o5:=(hSw.cell (World.block_lt_of_cell? _ _ o5) (by simp)).trans o5;go_simp<;>with_reducible rfl
      simp only [Act.put,sA,sZ,sS]
      refine' GoT.mv (i:=18) (oi:=⟨some 82,_,_,_,_,_⟩) rfl (by rfl) ?y10_18 ?_
      case y10_18=>intro w;go_simp<;>with_reducible rfl
      simp only [Act.put,sA,sZ,sS]
      refine GoT.pair (i:=0) (o:=⟨some 64,_,_,_,_,_⟩) (k:=19) (o':=⟨some 83,_,_,_,_,_⟩) rfl rfl (by kernel_rfl) (fun K hK=>?_) (fun K hK=>?_)
      ·skip
       try clear hS
       have hownE:(Wx.alloc (.cells #[] 59)).ownsRow w3.heap.size 59 5 (.slice (some ⟨Wx.heap.size,0,none⟩) 0 0) 0 []:=World.ownsRow_lit Wx #[] 0 HUx.out.size (by decide) rfl
       have HltE:=Lib.hid (show Wx.heap.size<(Wx.alloc (.cells #[] 59)).heap.size by simp)
       have HUy:=Lib.hid (HUx.out.alloc (.cells #[] 59))
       go_simp
       refine hK.out _ _ (fun _ h=>h.alloc _) ?_
       clear hK K
       generalize Wx.alloc (.cells #[] 59)=Wy at hownE HUy HltE ⊢
       generalize Wx.heap.size=qE at hownE HltE ⊢
       have HOE:=Lib.hid hownE
       clear hownE HUx
       obtain ⟨HUx,-⟩:=And.intro HUy trivial
       clear HUy
       clear Wx
       obtain ⟨Wx,rfl⟩:∃W:World,W=Wy:=⟨_,rfl⟩
       try simp only [Act.put,sA,sZ,sS]
       refine GoT.pair (i:=7) (o:=⟨some 71,_,_,_,_,_⟩) (k:=19) (o':=⟨some 83,_,_,_,_,_⟩) rfl rfl (by kernel_rfl) (fun K hK=>?_) (fun K hK=>?_)
       ·skip
        try clear hS
        rw [if_pos (by simp [Region.wanted])]
        refine wp_app _ _ _ 31 (by rfl) w3.heap.size 59 i0 (.agg #[.int .i64 0,.int .i64 0,.int .i64 0,.int .i64 0,.int .u32 0]) 5 40 Tryz.underlying31 hi hz0 hz1 hz2 rfl (by decide) _ 0 [] (by rfl) HOE.out _ k XT (by rfl) (HTS.out.2 _ (sees_upd HTS.out.1 HUx.out (by simp))) hone (by unfold maxLen;omega) (by omega) HUx.out.size ?_
        intro AA CA Wy HP
        have hgeq:=own_ge HOE.out
        have hpoA:Wy.ownsRow w3.heap.size 59 5 (.slice AA k CA) k XT:=by have:=HP.own;rw [Nat.zero_add] at this;exact this
        have HUy:=Lib.hid (HUx.out.trans' HP.upd (fun y hy=>.inr (hgeq y hy)))
        have HOA:=Lib.hid hpoA
        rw [Nat.zero_add]
        refine hK.out _ _ (fun _ h=>h.trans' HP.upd (fun y hy=>.inr (hgeq y hy))) ?_
        clear hK K HP hgeq hpoA HUx HOE
        try clear HltE
        try clear HltX
        try clear HNE
        obtain ⟨HUx,-⟩:=And.intro HUy trivial
        clear HUy
        clear Wx
        obtain ⟨Wx,rfl⟩:∃W:World,W=Wy:=⟨_,rfl⟩
        try simp only [Act.put,sA,sZ,sS]
        refine GoT.one (i:=19) (o:=⟨some 83,_,_,_,_,_⟩) rfl (by kernel_rfl) fun K hK=>?_
        try clear hS
        have hownX:Sees (Wx.alloc (.cells #[.int .i64 oa,.int .i64 ob,.int .i64 occ,.int .i64 od,.int .u32 (oi:Int)] 59)) 5 (.slice (some ⟨Wx.heap.size,0,none⟩) 1 1) 1 [.int .i64 oa,.int .i64 ob,.int .i64 occ,.int .i64 od,.int .u32 (oi:Int)]:=sees_lit Wx #[.int .i64 oa,.int .i64 ob,.int .i64 occ,.int .i64 od,.int .u32 (oi:Int)] 59 5 1 rfl (by decide)
        replace HOA:=Lib.hid (own_upd HOA.out ((Upd.refl [] Wx).alloc (.cells #[.int .i64 oa,.int .i64 ob,.int .i64 occ,.int .i64 od,.int .u32 (oi:Int)] 59)) (by simp))
        have HltX:=Lib.hid (show Wx.heap.size<(Wx.alloc (.cells #[.int .i64 oa,.int .i64 ob,.int .i64 occ,.int .i64 od,.int .u32 (oi:Int)] 59)).heap.size by simp)
        have HUy:=Lib.hid (HUx.out.alloc (.cells #[.int .i64 oa,.int .i64 ob,.int .i64 occ,.int .i64 od,.int .u32 (oi:Int)] 59))
        go_simp
        refine hK.out _ _ (fun _ h=>h.alloc _) ?_
        clear hK K
        generalize Wx.alloc (.cells #[.int .i64 oa,.int .i64 ob,.int .i64 occ,.int .i64 od,.int .u32 (oi:Int)] 59)=Wy at hownX HUy HltX HOA ⊢
        generalize Wx.heap.size=qX at hownX HltX ⊢
        have HOX:=Lib.hid hownX
        clear hownX HUx
        obtain ⟨HUx,-⟩:=And.intro HUy trivial
        clear HUy
        clear Wx
        obtain ⟨Wx,rfl⟩:∃W:World,W=Wy:=⟨_,rfl⟩
        try simp only [Act.put,sA,sZ,sS]
        refine GoT.one (i:=20) (o:=⟨some 84,_,_,_,_,_⟩) rfl (by kernel_rfl) fun K hK=>?_
        try clear hS
        rw [if_pos (by simp [Region.wanted])]
        refine wp_app _ _ _ 31 (by rfl) w3.heap.size 59 i0 (.agg #[.int .i64 0,.int .i64 0,.int .i64 0,.int .i64 0,.int .u32 0]) 5 40 Tryz.underlying31 hi hz0 hz1 hz2 rfl (by decide) _ k XT (by rfl) HOA.out _ 1 [.int .i64 oa,.int .i64 ob,.int .i64 occ,.int .i64 od,.int .u32 (oi:Int)] (by rfl) (HOX.out) (by simp [Value.oneCell']) (by unfold maxLen;omega) (by omega) HUx.out.size ?_
        intro AB CB Wy HP
        have hgeq:=own_ge HOA.out
        have hpoB:Wy.ownsRow w3.heap.size 59 5 (.slice AB (k+1) CB) (k+1) (XT++[.int .i64 oa,.int .i64 ob,.int .i64 occ,.int .i64 od,.int .u32 (oi:Int)]):=by exact HP.own
        have HUy:=Lib.hid (HUx.out.trans' HP.upd (fun y hy=>.inr (hgeq y hy)))
        have HOB:=Lib.hid hpoB
        refine hK.out _ _ (fun _ h=>h.trans' HP.upd (fun y hy=>.inr (hgeq y hy))) ?_
        clear hK K HP hgeq hpoB HUx HOA HOX
        try clear HltE
        try clear HltX
        try clear HNE
        obtain ⟨HUx,-⟩:=And.intro HUy trivial
        clear HUy
        clear Wx
        obtain ⟨Wx,rfl⟩:∃W:World,W=Wy:=⟨_,rfl⟩
        try simp only [Act.put,sA,sZ,sS]
        refine' GoT.mv (i:=21) (oi:=⟨some 10,_,_,_,_,_⟩) rfl (by rfl) ?y10aa_21 ?_
        case y10aa_21=>intro w;go_simp<;>with_reducible rfl
        simp only [Act.put,sA,sZ,sS]
        refine GoT.done (by kernel_rfl) ?_
        clear o0 o1 o2 o3 o4 o5 c0 c1 c2 c3
        go_wp2_with fail
        go_meet
        case rel=>exact ⟨_,_,rfl,HOB.out,HUx.out⟩
       ·skip
        try clear hS
        have hownX:Sees (Wx.alloc (.cells #[.int .i64 oa,.int .i64 ob,.int .i64 occ,.int .i64 od,.int .u32 (oi:Int)] 59)) 5 (.slice (some ⟨Wx.heap.size,0,none⟩) 1 1) 1 [.int .i64 oa,.int .i64 ob,.int .i64 occ,.int .i64 od,.int .u32 (oi:Int)]:=sees_lit Wx #[.int .i64 oa,.int .i64 ob,.int .i64 occ,.int .i64 od,.int .u32 (oi:Int)] 59 5 1 rfl (by decide)
        replace HOE:=Lib.hid (own_upd HOE.out ((Upd.refl [] Wx).alloc (.cells #[.int .i64 oa,.int .i64 ob,.int .i64 occ,.int .i64 od,.int .u32 (oi:Int)] 59)) (by simp))
        have HNE:=Lib.hid (show qE≠Wx.heap.size from by have:=HltE.out;omega)
        have HltX:=Lib.hid (show Wx.heap.size<(Wx.alloc (.cells #[.int .i64 oa,.int .i64 ob,.int .i64 occ,.int .i64 od,.int .u32 (oi:Int)] 59)).heap.size by simp)
        clear HltE
        have HUy:=Lib.hid (HUx.out.alloc (.cells #[.int .i64 oa,.int .i64 ob,.int .i64 occ,.int .i64 od,.int .u32 (oi:Int)] 59))
        go_simp
        refine hK.out _ _ (fun _ h=>h.alloc _) ?_
        clear hK K
        generalize Wx.alloc (.cells #[.int .i64 oa,.int .i64 ob,.int .i64 occ,.int .i64 od,.int .u32 (oi:Int)] 59)=Wy at hownX HUy HltX HOE ⊢
        generalize Wx.heap.size=qX at hownX HltX HNE ⊢
        have HOX:=Lib.hid hownX
        clear hownX HUx
        obtain ⟨HUx,-⟩:=And.intro HUy trivial
        clear HUy
        clear Wx
        obtain ⟨Wx,rfl⟩:∃W:World,W=Wy:=⟨_,rfl⟩
        try simp only [Act.put,sA,sZ,sS]
        refine GoT.one (i:=7) (o:=⟨some 71,_,_,_,_,_⟩) rfl (by kernel_rfl) fun K hK=>?_
        try clear hS
        rw [if_pos (by simp [Region.wanted])]
        refine wp_app _ _ _ 31 (by rfl) w3.heap.size 59 i0 (.agg #[.int .i64 0,.int .i64 0,.int .i64 0,.int .i64 0,.int .u32 0]) 5 40 Tryz.underlying31 hi hz0 hz1 hz2 rfl (by decide) _ 0 [] (by rfl) HOE.out _ k XT (by rfl) (HTS.out.2 _ (sees_upd HTS.out.1 HUx.out (by simp))) hone (by unfold maxLen;omega) (by omega) HUx.out.size ?_
        intro AA CA Wy HP
        have hgeq:=own_ge HOE.out
        have hpoA:Wy.ownsRow w3.heap.size 59 5 (.slice AA k CA) k XT:=by have:=HP.own;rw [Nat.zero_add] at this;exact this
        replace HOX:=Lib.hid (sees_upd HOX.out HP.upd (fun _ k hk _ hm=>by have h1:=HNE.out;simp [blk] at hk hm;omega))
        have HUy:=Lib.hid (HUx.out.trans' HP.upd (fun y hy=>.inr (hgeq y hy)))
        have HOA:=Lib.hid hpoA
        rw [Nat.zero_add]
        refine hK.out _ _ (fun _ h=>h.trans' HP.upd (fun y hy=>.inr (hgeq y hy))) ?_
        clear hK K HP hgeq hpoA HUx HOE
        try clear HltE
        try clear HltX
        try clear HNE
        obtain ⟨HUx,-⟩:=And.intro HUy trivial
        clear HUy
        clear Wx
        obtain ⟨Wx,rfl⟩:∃W:World,W=Wy:=⟨_,rfl⟩
        try simp only [Act.put,sA,sZ,sS]
        refine GoT.one (i:=20) (o:=⟨some 84,_,_,_,_,_⟩) rfl (by kernel_rfl) fun K hK=>?_
        try clear hS
        rw [if_pos (by simp [Region.wanted])]
        refine wp_app _ _ _ 31 (by rfl) w3.heap.size 59 i0 (.agg #[.int .i64 0,.int .i64 0,.int .i64 0,.int .i64 0,.int .u32 0]) 5 40 Tryz.underlying31 hi hz0 hz1 hz2 rfl (by decide) _ k XT (by rfl) HOA.out _ 1 [.int .i64 oa,.int .i64 ob,.int .i64 occ,.int .i64 od,.int .u32 (oi:Int)] (by rfl) (HOX.out) (by simp [Value.oneCell']) (by unfold maxLen;omega) (by omega) HUx.out.size ?_
        intro AB CB Wy HP
        have hgeq:=own_ge HOA.out
        have hpoB:Wy.ownsRow w3.heap.size 59 5 (.slice AB (k+1) CB) (k+1) (XT++[.int .i64 oa,.int .i64 ob,.int .i64 occ,.int .i64 od,.int .u32 (oi:Int)]):=by exact HP.own
        have HUy:=Lib.hid (HUx.out.trans' HP.upd (fun y hy=>.inr (hgeq y hy)))
        have HOB:=Lib.hid hpoB
        refine hK.out _ _ (fun _ h=>h.trans' HP.upd (fun y hy=>.inr (hgeq y hy))) ?_
        clear hK K HP hgeq hpoB HUx HOA HOX
        try clear HltE
        try clear HltX
        try clear HNE
        obtain ⟨HUx,-⟩:=And.intro HUy trivial
        clear HUy
        clear Wx
        obtain ⟨Wx,rfl⟩:∃W:World,W=Wy:=⟨_,rfl⟩
        try simp only [Act.put,sA,sZ,sS]
        refine' GoT.mv (i:=21) (oi:=⟨some 10,_,_,_,_,_⟩) rfl (by rfl) ?y10ab_21 ?_
        case y10ab_21=>intro w;go_simp<;>with_reducible rfl
        simp only [Act.put,sA,sZ,sS]
        refine GoT.done (by kernel_rfl) ?_
        clear o0 o1 o2 o3 o4 o5 c0 c1 c2 c3
        go_wp2_with fail
        go_meet
        case rel=>exact ⟨_,_,rfl,HOB.out,HUx.out⟩
      ·skip
       try clear hS
       have hownX:Sees (Wx.alloc (.cells #[.int .i64 oa,.int .i64 ob,.int .i64 occ,.int .i64 od,.int .u32 (oi:Int)] 59)) 5 (.slice (some ⟨Wx.heap.size,0,none⟩) 1 1) 1 [.int .i64 oa,.int .i64 ob,.int .i64 occ,.int .i64 od,.int .u32 (oi:Int)]:=sees_lit Wx #[.int .i64 oa,.int .i64 ob,.int .i64 occ,.int .i64 od,.int .u32 (oi:Int)] 59 5 1 rfl (by decide)
       have HltX:=Lib.hid (show Wx.heap.size<(Wx.alloc (.cells #[.int .i64 oa,.int .i64 ob,.int .i64 occ,.int .i64 od,.int .u32 (oi:Int)] 59)).heap.size by simp)
       have HUy:=Lib.hid (HUx.out.alloc (.cells #[.int .i64 oa,.int .i64 ob,.int .i64 occ,.int .i64 od,.int .u32 (oi:Int)] 59))
       go_simp
       refine hK.out _ _ (fun _ h=>h.alloc _) ?_
       clear hK K
       generalize Wx.alloc (.cells #[.int .i64 oa,.int .i64 ob,.int .i64 occ,.int .i64 od,.int .u32 (oi:Int)] 59)=Wy at hownX HUy HltX ⊢
       generalize Wx.heap.size=qX at hownX HltX ⊢
       have HOX:=Lib.hid hownX
       clear hownX HUx
       obtain ⟨HUx,-⟩:=And.intro HUy trivial
       clear HUy
       clear Wx
       obtain ⟨Wx,rfl⟩:∃W:World,W=Wy:=⟨_,rfl⟩
       try simp only [Act.put,sA,sZ,sS]
       refine GoT.one (i:=0) (o:=⟨some 64,_,_,_,_,_⟩) rfl (by kernel_rfl) fun K hK=>?_
       try clear hS
       have hownE:(Wx.alloc (.cells #[] 59)).ownsRow w3.heap.size 59 5 (.slice (some ⟨Wx.heap.size,0,none⟩) 0 0) 0 []:=World.ownsRow_lit Wx #[] 0 HUx.out.size (by decide) rfl
       replace HOX:=Lib.hid (sees_upd HOX.out ((Upd.refl [] Wx).alloc (.cells #[] 59)) (by simp))
       have HNE:=Lib.hid (show qX≠Wx.heap.size from by have:=HltX.out;omega)
       have HltE:=Lib.hid (show Wx.heap.size<(Wx.alloc (.cells #[] 59)).heap.size by simp)
       clear HltX
       have HUy:=Lib.hid (HUx.out.alloc (.cells #[] 59))
       go_simp
       refine hK.out _ _ (fun _ h=>h.alloc _) ?_
       clear hK K
       generalize Wx.alloc (.cells #[] 59)=Wy at hownE HUy HltE HOX ⊢
       generalize Wx.heap.size=qE at hownE HltE HNE ⊢
       have HOE:=Lib.hid hownE
       clear hownE HUx
       obtain ⟨HUx,-⟩:=And.intro HUy trivial
       clear HUy
       clear Wx
       obtain ⟨Wx,rfl⟩:∃W:World,W=Wy:=⟨_,rfl⟩
       try simp only [Act.put,sA,sZ,sS]
       refine GoT.one (i:=7) (o:=⟨some 71,_,_,_,_,_⟩) rfl (by kernel_rfl) fun K hK=>?_
       try clear hS
       rw [if_pos (by simp [Region.wanted])]
       refine wp_app _ _ _ 31 (by rfl) w3.heap.size 59 i0 (.agg #[.int .i64 0,.int .i64 0,.int .i64 0,.int .i64 0,.int .u32 0]) 5 40 Tryz.underlying31 hi hz0 hz1 hz2 rfl (by decide) _ 0 [] (by rfl) HOE.out _ k XT (by rfl) (HTS.out.2 _ (sees_upd HTS.out.1 HUx.out (by simp))) hone (by unfold maxLen;omega) (by omega) HUx.out.size ?_
       intro AA CA Wy HP
       have hgeq:=own_ge HOE.out
       have hpoA:Wy.ownsRow w3.heap.size 59 5 (.slice AA k CA) k XT:=by have:=HP.own;rw [Nat.zero_add] at this;exact this
       replace HOX:=Lib.hid (sees_upd HOX.out HP.upd (fun _ k hk _ hm=>by have h1:=HNE.out;simp [blk] at hk hm;omega))
       have HUy:=Lib.hid (HUx.out.trans' HP.upd (fun y hy=>.inr (hgeq y hy)))
       have HOA:=Lib.hid hpoA
       rw [Nat.zero_add]
       refine hK.out _ _ (fun _ h=>h.trans' HP.upd (fun y hy=>.inr (hgeq y hy))) ?_
       clear hK K HP hgeq hpoA HUx HOE
       try clear HltE
       try clear HltX
       try clear HNE
       obtain ⟨HUx,-⟩:=And.intro HUy trivial
       clear HUy
       clear Wx
       obtain ⟨Wx,rfl⟩:∃W:World,W=Wy:=⟨_,rfl⟩
       try simp only [Act.put,sA,sZ,sS]
       refine GoT.one (i:=20) (o:=⟨some 84,_,_,_,_,_⟩) rfl (by kernel_rfl) fun K hK=>?_
       try clear hS
       rw [if_pos (by simp [Region.wanted])]
       refine wp_app _ _ _ 31 (by rfl) w3.heap.size 59 i0 (.agg #[.int .i64 0,.int .i64 0,.int .i64 0,.int .i64 0,.int .u32 0]) 5 40 Tryz.underlying31 hi hz0 hz1 hz2 rfl (by decide) _ k XT (by rfl) HOA.out _ 1 [.int .i64 oa,.int .i64 ob,.int .i64 occ,.int .i64 od,.int .u32 (oi:Int)] (by rfl) (HOX.out) (by simp [Value.oneCell']) (by unfold maxLen;omega) (by omega) HUx.out.size ?_
       intro AB CB Wy HP
       have hgeq:=own_ge HOA.out
       have hpoB:Wy.ownsRow w3.heap.size 59 5 (.slice AB (k+1) CB) (k+1) (XT++[.int .i64 oa,.int .i64 ob,.int .i64 occ,.int .i64 od,.int .u32 (oi:Int)]):=by exact HP.own
       have HUy:=Lib.hid (HUx.out.trans' HP.upd (fun y hy=>.inr (hgeq y hy)))
       have HOB:=Lib.hid hpoB
       refine hK.out _ _ (fun _ h=>h.trans' HP.upd (fun y hy=>.inr (hgeq y hy))) ?_
       clear hK K HP hgeq hpoB HUx HOA HOX
       try clear HltE
       try clear HltX
       try clear HNE
       obtain ⟨HUx,-⟩:=And.intro HUy trivial
       clear HUy
       clear Wx
       obtain ⟨Wx,rfl⟩:∃W:World,W=Wy:=⟨_,rfl⟩
       try simp only [Act.put,sA,sZ,sS]
       refine' GoT.mv (i:=21) (oi:=⟨some 10,_,_,_,_,_⟩) rfl (by rfl) ?y10b_21 ?_
       case y10b_21=>intro w;go_simp<;>with_reducible rfl
       simp only [Act.put,sA,sZ,sS]
       refine GoT.done (by kernel_rfl) ?_
       clear o0 o1 o2 o3 o4 o5 c0 c1 c2 c3
       go_wp2_with fail
       go_meet
       case rel=>exact ⟨_,_,rfl,HOB.out,HUx.out⟩
     obtain ⟨Ao,Co,rfl,howo,huo⟩:=hcut
     obtain ⟨W5,rfl⟩:∃W:World,W=wc:=⟨_,rfl⟩
     have HO5:=Lib.hid (And.intro howo huo)
     have HM5:=Lib.hid (HM3.out.upd0 huo)
     have HRP5:=Lib.hid (HRP3.out.upd huo (by simp))
     obtain ⟨c0,c1,c2,c3⟩:=HM5.out.cells
     rw [HN.out.2.1] at c3
     have fr:=HM5.out.head.frozen 3
     have hkn':=Lib.hid hkn
     clear howo huo o0 o1 o2 o3 o4 o5 hone d1 d2 hrm hkn
     have hct:=HCF.out
     go_wp2_with (at_builtin;refine wpList_app _ rfl _ _ 31 rfl w3.heap.size 59 i0 (.agg #[.int .i64 0,.int .i64 0,.int .i64 0,.int .i64 0,.int .u32 0]) 5 40 Tryz.underlying31 hi hz0 hz1 hz2 rfl (by decide) (.slice Ao (k+1) Co) (k+1) (XT++[.int .i64 oa,.int .i64 ob,.int .i64 occ,.int .i64 od,.int .u32 (oi:Int)]) rfl HO5.out.1 (.slice AF (n - k) CF) (n - k) (KBx.all (m.bs.drop k)) rfl (HFS.out _ (sees_upd HTS.out.1 HO5.out.2 (by simp))) (KBx.all_one _) (by unfold maxLen;omega) (by omega) HO5.out.2.size ?_)
     intro A6 C6 W6 HP6
     have hge5:=own_ge HO5.out.1
     have hu6:Upd [] w3 W6:=HO5.out.2.trans' HP6.upd (fun y hy=>.inr (hge5 y hy))
     have hN:k+1+(n - k)=n+1:=by have:=hkn'.out;omega
     have hrow6:W6.ownsRow w3.heap.size 59 5 (.slice A6 (n+1) C6) (n+1) (KBx.all (insA Bx.id ⟨oa,ob,occ,od,oi⟩ m.bs)):=by
      have h:=HP6.own
      rw [hN] at h
      rw [←place_ins HOK.out.bs HP.out.1,KBx.all_app,HXT.out]
      rw [List.append_assoc] at h
      exact h
     rw [hN]
     have HR6:=Lib.hid (And.intro hrow6 hu6)
     have HM6:=Lib.hid (HM3.out.upd0 hu6)
     have HRP6:=Lib.hid (HRP3.out.upd hu6 (by simp))
     obtain ⟨c0,c1,c2,c3⟩:=HM6.out.cells
     have fr:=HM6.out.head.frozen 3
     clear HP6 hge5 hu6 hN hrow6 hct
     go_upto_region 18 with fail
     clear c0 c1 c2 c3 fr
     have hu7:Upd [r] W6 (W6.setCell ⟨r,3,none⟩ (.slice A6 (n+1) C6)):=(Upd.refl [r] W6).setCell (p:=⟨r,3,none⟩) (.inl (by simp)) _
     have hrn:r∉blk (.slice A6 (n+1) C6):=fun hc=>by
      have h1:=own_ge HR6.out.1 r hc
      have h2:=HU3.out.size
      have h3:=HQ.out.2.2.2
      omega
     have hlen:(insA Bx.id ⟨oa,ob,occ,od,oi⟩ m.bs).length=n+1:=by
      rw [←place_ins HOK.out.bs HP.out.1,List.length_append,List.length_cons,List.length_take,List.length_drop,HN.out.2.1]
      have:=hkn'.out
      omega
     have HH7:=Lib.hid (show HpC (W6.setCell ⟨r,3,none⟩ (.slice A6 (n+1) C6)) r #[.int .i64 (m.room:Int),.slice AP m.ps.length CP,.slice AS m.ss.length CS,.slice A6 (insA Bx.id ⟨oa,ob,occ,od,oi⟩ m.bs).length C6] 33 by
      rw [hlen]
      exact HM6.out.head.set 3 (.slice A6 (n+1) C6))
     have HO7:=Lib.hid (own_upd HR6.out.1 hu7 (fun k hk hc=>hrn (by simp at hc;rw [←hc];exact hk)))
     have HLN:=Lib.hid (And.intro hlen hrn)
     have HU7:=Lib.hid (show Upd [r] w (W6.setCell ⟨r,3,none⟩ (.slice A6 (n+1) C6)) from (((HU3.out.trans HR6.out.2).mono (by simp)).trans hu7))
     have HRPL:=Lib.hid (show qr<w3.heap.size from lt_of_block HRP3.out)
     have HRP7:=Lib.hid (HRP6.out.upd hu7 (by have:=HQ.out;simp only [List.mem_singleton];have:=HL.out.2.2;omega))
     clear hu7 hrn hlen
     generalize W6.setCell ⟨r,3,none⟩ (.slice A6 (n+1) C6)=W7 at HH7 HO7 HU7 HRP7 ⊢
     have hrp:=HRP7.out
     have f0:(W7).frozen? ⟨qr,0,none⟩=false:=hrp.frozen 0
     have f1:(W7).frozen? ⟨qr,1,none⟩=false:=hrp.frozen 1
     have f2:(W7).frozen? ⟨qr,2,none⟩=false:=hrp.frozen 2
     have f3:(W7).frozen? ⟨qr,3,none⟩=false:=hrp.frozen 3
     have f4:(W7).frozen? ⟨qr,4,none⟩=false:=hrp.frozen 4
     have f5:(W7).frozen? ⟨qr,5,none⟩=false:=hrp.frozen 5
     have c0:=hrp.cell 0
     have c1:=hrp.cell 1
     have c2:=hrp.cell 2
     have c3:=hrp.cell 3
     have c4:=hrp.cell 4
     have c5:=hrp.cell 5
     simp only [List.getElem?_toArray,List.getElem?_cons_zero,List.getElem?_cons_succ] at c0 c1 c2 c3 c4 c5
     have HP:=Lib.hid (And.intro (hrp.put (.int .i64 0) (.slice none 0 0) (.int .i64 ((n:Int)+1)) (.bool false) (.int .u64 0) (.int .u64 0)) (upd_put (q:=qr) HU7.out (.inr HQ.out.1) (.int .i64 0) (.slice none 0 0) (.int .i64 ((n:Int)+1)) (.bool false) (.int .u64 0) (.int .u64 0)))
     clear hrp
     go_wp2_with fail
     clear f0 c0 f1 c1 f2 c2 f3 c3 f4 c4 f5 c5
     have y0:=HP.out.1.cell 0
     have y1:=HP.out.1.cell 1
     have y2:=HP.out.1.cell 2
     have y3:=HP.out.1.cell 3
     have y4:=HP.out.1.cell 4
     have y5:=HP.out.1.cell 5
     simp only [List.getElem?_toArray,List.getElem?_cons_zero,List.getElem?_cons_succ] at y0 y1 y2 y3 y4 y5
     have hp:=upd_put (q:=qr) (Upd.refl [qr] W7) (.inl (by simp)) (.int .i64 0) (.slice none 0 0) (.int .i64 ((n:Int)+1)) (.bool false) (.int .u64 0) (.int .u64 0)
     refine bodyPost_ret (v:=repV 0 (n+1) false (.slice none 0 0) 0 0) ?_ rfl ⟨⟨_,rfl,by rw [HN.out.2.1];exact repAt_cnt _ _⟩,⟨AP,CP,AS,CS,A6,C6,HH7.out.upd hp (by have:=HQ.out;have:=HL.out.2.2;simp only [List.mem_singleton];omega),HM0.out.ps.upd HP.out.2 (fun _ k hk _ hc=>HM0.out.np (by simp at hc;rw [←hc];exact hk)),HM0.out.ss.upd HP.out.2 (fun _ k hk _ hc=>HM0.out.ns (by simp at hc;rw [←hc];exact hk)),by have:=sees_of_own (own_upd HO7.out hp (fun k hk hc=>by have h1:=own_ge HO7.out k hk;have h2:=HU3.out.size;have h3:=HRPL.out;simp at hc;omega));unfold See;rw [HLN.out.1];exact this,HM0.out.np,HM0.out.ns,by rw [HLN.out.1];exact HLN.out.2⟩,HP.out.2⟩
     simp [repV,results,Tryz.results26,go_sem,y0,y1,y2,y3,y4,y5]
  ·have e2:decide (od<occ)=true:=decide_eq_true (by omega)
   rw [if_neg (fun h=>hcd h.2)] at hres
   subst hres
   go_wp2_with fail
   (with_reducible refine (rwrong 261 _).mono ?_)
   rintro e w8 ⟨rfl,u8⟩
   have HU8:=Lib.hid (HU.out.trans u8)
   have HRP8:=Lib.hid (HRP.out.upd u8 (by simp))
   clear u8
   have hrp:=HRP8.out
   have f0:(w8).frozen? ⟨qr,0,none⟩=false:=hrp.frozen 0
   have f1:(w8).frozen? ⟨qr,1,none⟩=false:=hrp.frozen 1
   have f2:(w8).frozen? ⟨qr,2,none⟩=false:=hrp.frozen 2
   have f3:(w8).frozen? ⟨qr,3,none⟩=false:=hrp.frozen 3
   have f4:(w8).frozen? ⟨qr,4,none⟩=false:=hrp.frozen 4
   have f5:(w8).frozen? ⟨qr,5,none⟩=false:=hrp.frozen 5
   have c0:=hrp.cell 0
   have c1:=hrp.cell 1
   have c2:=hrp.cell 2
   have c3:=hrp.cell 3
   have c4:=hrp.cell 4
   have c5:=hrp.cell 5
   simp only [List.getElem?_toArray,List.getElem?_cons_zero,List.getElem?_cons_succ] at c0 c1 c2 c3 c4 c5
   have HP:=Lib.hid (And.intro (hrp.put (.int .i64 261) (.slice none 0 0) (.int .i64 0) (.bool false) (.int .u64 0) (.int .u64 0)) (upd_put (q:=qr) HU8.out (.inr HQ.out.1) (.int .i64 261) (.slice none 0 0) (.int .i64 0) (.bool false) (.int .u64 0) (.int .u64 0)))
   clear hrp
   go_wp2_with fail
   clear f0 c0 f1 c1 f2 c2 f3 c3 f4 c4 f5 c5
   have y0:=HP.out.1.cell 0
   have y1:=HP.out.1.cell 1
   have y2:=HP.out.1.cell 2
   have y3:=HP.out.1.cell 3
   have y4:=HP.out.1.cell 4
   have y5:=HP.out.1.cell 5
   simp only [List.getElem?_toArray,List.getElem?_cons_zero,List.getElem?_cons_succ] at y0 y1 y2 y3 y4 y5
   refine bodyPost_ret (v:=repV 261 0 false (.slice none 0 0) 0 0) ?_ rfl ⟨⟨_,rfl,repAt_err _ _⟩,⟨AP,CP,AS,CS,AB,CB,HM0.out.upd0 HP.out.2⟩,HP.out.2.mono (by simp)⟩
   simp [repV,results,Tryz.results26,go_sem,y0,y1,y2,y3,y4,y5]
 ·have e1:decide (ob<oa)=true:=decide_eq_true (by omega)
  rw [if_neg (fun h=>hab h.1)] at hres
  subst hres
  go_wp2_with fail
  (with_reducible refine (rwrong 261 _).mono ?_)
  rintro e w8 ⟨rfl,u8⟩
  have HU8:=Lib.hid (HU.out.trans u8)
  have HRP8:=Lib.hid (HRP.out.upd u8 (by simp))
  clear u8
  have hrp:=HRP8.out
  have f0:(w8).frozen? ⟨qr,0,none⟩=false:=hrp.frozen 0
  have f1:(w8).frozen? ⟨qr,1,none⟩=false:=hrp.frozen 1
  have f2:(w8).frozen? ⟨qr,2,none⟩=false:=hrp.frozen 2
  have f3:(w8).frozen? ⟨qr,3,none⟩=false:=hrp.frozen 3
  have f4:(w8).frozen? ⟨qr,4,none⟩=false:=hrp.frozen 4
  have f5:(w8).frozen? ⟨qr,5,none⟩=false:=hrp.frozen 5
  have c0:=hrp.cell 0
  have c1:=hrp.cell 1
  have c2:=hrp.cell 2
  have c3:=hrp.cell 3
  have c4:=hrp.cell 4
  have c5:=hrp.cell 5
  simp only [List.getElem?_toArray,List.getElem?_cons_zero,List.getElem?_cons_succ] at c0 c1 c2 c3 c4 c5
  have HP:=Lib.hid (And.intro (hrp.put (.int .i64 261) (.slice none 0 0) (.int .i64 0) (.bool false) (.int .u64 0) (.int .u64 0)) (upd_put (q:=qr) HU8.out (.inr HQ.out.1) (.int .i64 261) (.slice none 0 0) (.int .i64 0) (.bool false) (.int .u64 0) (.int .u64 0)))
  clear hrp
  go_wp2_with fail
  clear f0 c0 f1 c1 f2 c2 f3 c3 f4 c4 f5 c5
  have y0:=HP.out.1.cell 0
  have y1:=HP.out.1.cell 1
  have y2:=HP.out.1.cell 2
  have y3:=HP.out.1.cell 3
  have y4:=HP.out.1.cell 4
  have y5:=HP.out.1.cell 5
  simp only [List.getElem?_toArray,List.getElem?_cons_zero,List.getElem?_cons_succ] at y0 y1 y2 y3 y4 y5
  refine bodyPost_ret (v:=repV 261 0 false (.slice none 0 0) 0 0) ?_ rfl ⟨⟨_,rfl,repAt_err _ _⟩,⟨AP,CP,AS,CS,AB,CB,HM0.out.upd0 HP.out.2⟩,HP.out.2.mono (by simp)⟩
  simp [repV,results,Tryz.results26,go_sem,y0,y1,y2,y3,y4,y5]
end Go.Proofs.YtkmnbodlciepaaaGreat
