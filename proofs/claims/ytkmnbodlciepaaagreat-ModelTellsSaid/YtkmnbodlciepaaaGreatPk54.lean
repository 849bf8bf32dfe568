/- gridironlaw26.ModelTells: the walk. Printed by mkmtells.py. -/
import Derived.Test.YtkmnbodlciepaaaGreatPk28
import Derived.Test.YtkmnbodlciepaaaGreatPk27
import Derived.Test.YtkmnbodlciepaaaGreatPk53
set_option maxHeartbeats 16000000
set_option maxRecDepth 100000
namespace Go.Proofs.YtkmnbodlciepaaaGreat
open Go.RowKit
theorem RMd.updM {w w':World} {r:Nat} {m:Md} {AP AS AB:Option Addr} {CP CS CB:Nat} {h p s x:Nat} {m':Md} (g:RMd w r m AP CP AS CS AB CB) (k:MdAt w h p s x m') (hu:Upd [p,s,x] w w') (hr:r∉[p,s,x]):RMd w' r m AP CP AS CS AB CB:=
 ⟨g.head.upd hu hr,g.ps.updM (by decide) k hu,g.ss.updM (by decide) k hu,g.bs.updM (by decide) k hu,g.np,g.ns,g.nb⟩
theorem MM.updR {w w':World} {h p s x N r:Nat} {m:Md} (g:MM w h p s x m N) (hu:Upd [r] w w') (hr:h≠r∧p≠r∧s≠r∧x≠r):MM w' h p s x m N:=
 ⟨g.at'.upd hu (by simp;exact hr.1) (by simp;exact hr.2.1) (by simp;exact hr.2.2.1) (by simp;exact hr.2.2.2),g.in64,g.small⟩
structure Both (w wr:World) (r h p s x k room:Nat) (m:Md):Prop where
 mm:MM wr h p s x m k
 rm:∃AP CP AS CS AB CB,RMd wr r m AP CP AS CS AB CB
 few:m.bs.length≤7
 room':m.room=room
 up:Upd [r,p,s,x] w wr
 apart:w.heap.size≤h∧w.heap.size≤p∧w.heap.size≤s∧w.heap.size≤x∧w.heap.size≤r∧h≠r∧p≠r∧s≠r∧x≠r
theorem Both.see {α:Type} {K:Kind α} {w wr:World} {v:Value} {l:List α} {r h p s x k room:Nat} {m:Md} (g:Both w wr r h p s x k room m) (hs:See K w v l):See K wr v l:=
 hs.upd g.up fun _ y _ hy hc=>by
  have:=g.apart
  simp only [List.mem_cons,List.not_mem_nil,or_false] at hc
  omega
theorem modelTells_walk (room:Int) (v:Value) (L:List OpP) (w:World) (hs:See KOp w v L) (hl:L.length<9223372036854775808) (hin:∀o∈L,o.in64) :
 Calls Tryz.prog 3 #[.int .i64 room,v] w fun e w'=>e=.returned (.bool true)∧Upd [] w w':=by
 obtain ⟨A',C',rfl⟩:=hs.form
 obtain ⟨n,hn⟩:∃n,L.length=n:=⟨_,rfl⟩
 rw [hn] at hs hl ⊢
 have n0:(0:Int)≤(n:Int):=Int.natCast_nonneg _
 have n1:(n:Int)<9223372036854775808:=by omega
 have HS:=Lib.hid (And.intro hs (And.intro hn hin))
 clear hs hn hin hl
 by_cases hbad:room<1∨2147483648<room
 ·have hd:decide (room<1)=true∨(decide (room<1)=false∧decide (2147483648<room)=true):=by
   by_cases h1:room<1
   ·exact .inl (decide_eq_true h1)
   ·exact .inr ⟨decide_eq_false h1,decide_eq_true (by omega)⟩
  have HB:=Lib.hid hbad
  clear hbad
  go_enter Tryz.func3,Tryz.ntmps3
  go_wp2_with fail
  (with_reducible refine (newMC room _).mono ?_)
  rintro e w1 ⟨hu,hnew⟩
  rw [if_neg (by have:=HB.out;omega)] at hnew
  subst hnew
  have HU:=Lib.hid hu
  clear hu
  rcases hd with d1 | ⟨d1,d2⟩
  all_goals
   go_wp2_with fail
   (with_reducible refine (awake26 ar26 w1).mono ?_)
   rintro e w2 ⟨rfl,hu2⟩
   have HU2:=Lib.hid (HU.out.trans hu2)
   clear hu2
   go_wp2_with fail
   go_ret
   exact ⟨rfl,HU2.out⟩
 have d1:decide (room<1)=false:=decide_eq_false (by omega)
 have d2:decide (2147483648<room)=false:=decide_eq_false (by omega)
 have HB:=Lib.hid (show 1≤room∧room≤2147483648 by omega)
 clear hbad
 go_enter Tryz.func3,Tryz.ntmps3
 go_wp2_with fail
 (with_reducible refine (newMC room _).mono ?_)
 rintro e w1 ⟨hu,hnew⟩
 rw [if_pos HB.out] at hnew
 obtain ⟨h,p,s,x,rfl,hmd,g1,g2,g3,g4⟩:=hnew
 have hmm:MM w1 h p s x ⟨room.toNat,[],[],[]⟩ 0:=⟨hmd,in64_nil _,Nat.le_refl _,Nat.le_refl _,Nat.le_refl _⟩
 have HN:=Lib.hid (And.intro hu (And.intro hmm (And.intro g1 (And.intro g2 (And.intro g3 g4)))))
 clear hu hmd hmm g1 g2 g3 g4
 obtain ⟨W,hW,hu,hb⟩:=one_new w1 #[.int .i64 room,.slice none 0 0,.slice none 0 0,.slice none 0 0] 33
 have hrm:((room.toNat:Nat):Int)=room:=by have:=HB.out;omega
 have hr0:RMd W w1.heap.size ⟨room.toNat,[],[],[]⟩ none 0 none 0 none 0:=⟨(by dsimp only [List.length_nil];rw [hrm];exact hb),See.nil _ _,See.nil _ _,See.nil _ _,(by simp [blk]),(by simp [blk]),(by simp [blk])⟩
 have hlt:h<w1.heap.size∧p<w1.heap.size∧s<w1.heap.size∧x<w1.heap.size:=⟨lt_of_block HN.out.2.1.at'.head,HN.out.2.1.at'.ps.lt,HN.out.2.1.at'.ss.lt,HN.out.2.1.at'.bs.lt⟩
 have hsz:=HN.out.1.size
 have hbo:Both w W w1.heap.size h p s x 0 room.toNat (runM areaN rimN ⟨room.toNat,[],[],[]⟩ (L.take 0)):=
  ⟨HN.out.2.1.upd0 hu,⟨_,_,_,_,_,_,hr0⟩,by simp [runM],rfl,(HN.out.1.trans hu).mono (by simp),by have:=HN.out.2.2;omega⟩
 have HBO:=Lib.hid hbo
 have HW:=Lib.hid hW
 have HRM:=Lib.hid (show room.toNat<4611686018427387904 by have:=HB.out;omega)
 clear hW hu hb hrm hr0 hlt hsz hbo
 go_upto_region 6 with fail
 iterate 17 go_step
 rw [←HW.out]
 clear HW d1 d2
 obtain ⟨rn,hrn⟩:∃k,room.toNat=k:=⟨_,rfl⟩
 rw [hrn] at HBO HRM
 clear hrn HB HN
 generalize w1.heap.size=r at HBO ⊢
 go_cut [8] (fun s8 we=>∃k m,k≤40∧Both w we r h p s x k rn m)
 case first=>
  go_wp2_with fail
  go_loopg [8] n (fun m s8 wr=>∃k,m+k=n∧k≤40∧s8=.int .i64 (k:Int)∧Both w wr r h p s x k rn (runM areaN rimN ⟨rn,[],[],[]⟩ (L.take k)))
  case atStart=>exact ⟨0,rfl,by omega,rfl,HBO.out⟩
  case round=>
   obtain ⟨k,hk,hk40,rfl,hm⟩:=hrel
   have HK:=Lib.hid (And.intro hk (And.intro hk40 hm))
   have k0:(0:Int)≤(k:Int):=Int.natCast_nonneg _
   have k3:(k:Int)<100:=by omega
   clear hm
   by_cases hlt:k<n
   ·have i1:(k:Int)<(n:Int):=by omega
    by_cases h40:k<40
    ·have i2:(k:Int)<40:=by omega
     obtain ⟨o,ho⟩:∃o,L[k]? = some o:=⟨_,List.getElem?_eq_getElem (by rw [HS.out.2.1];exact hlt)⟩
     obtain ⟨b,of,rfl,-,-,c0,c1,c2,c3,c4,c5⟩:=KOp.at (HK.out.2.2.see HS.out.1) ho
     have hin:=HS.out.2.2 o (List.mem_of_getElem? ho)
     obtain ⟨M,hM⟩:∃M,runM areaN rimN ⟨rn,[],[],[]⟩ (L.take k)=M:=⟨_,rfl⟩
     have hnx:runM areaN rimN ⟨rn,[],[],[]⟩ (L.take (k+1))=(doM areaN rimN M o).1:=by rw [runM_step ho,hM]
     have hB:=HK.out.2.2
     rw [hM] at hB
     obtain ⟨AP,CP,AS,CS,AB,CB,hr⟩:=hB.rm
     have hsm:=hB.mm.small
     have hdoR:=rdoC hr hB.mm.at'.ok hB.mm.in64 (by omega) (by omega) (by have:=hB.few;omega) (by rw [hB.room'];exact HRM.out) o
     have hdoM:=fun (W9:World) (g:MM W9 h p s x M k)=>doMM ar26 g (by omega) o hin
     obtain ⟨⟨M2,z⟩,hz⟩:∃R,doM areaN rimN M o=R:=⟨_,rfl⟩
     have hsh:=do_short (A:=areaN) (R:=rimN) (o:=o) hB.mm.small
     have hroom2:(doM areaN rimN M o).1.room=rn:=doM_room.trans hB.room'
     simp only [hz] at hdoR hdoM hsh hnx hroom2
     unfold opV at hdoR hdoM
     have HDR:=Lib.hid hdoR
     have HDM:=Lib.hid hdoM
     have HO:=Lib.hid (And.intro hnx (And.intro hB (And.intro hsh (And.intro ho hroom2))))
     have HLT:=Lib.hid (And.intro hlt h40)
     clear ho hin hM hnx hB hr hsm hdoR hdoM hz hsh hroom2 hk hk40 hlt h40
     go_upto_region 10 with fail
     go_wp2_with fail
     (with_reducible refine HDR.out.mono ?_)
     rintro e w8 ⟨⟨u,rfl,hre⟩,⟨AP,CP,AS,CS,AB,CB,hr⟩,hup⟩
     have hap:=HO.out.2.1.apart
     have hB8:MM w8 h p s x M k∧Upd [r,p,s,x] w w8:=⟨HO.out.2.1.mm.updR hup ⟨by omega,by omega,by omega,by omega⟩,HO.out.2.1.up.trans (hup.mono (by simp))⟩
     have HRE:=Lib.hid hre
     obtain ⟨Az,Cz,hz,lz,hve,-⟩:=hre
     unfold repV at hve
     subst hve
     obtain ⟨W4,hW4,hu4,hq4⟩:=one_new w8 #[.int .i64 (z.err:Int),.slice Az z.ids.length Cz,.int .i64 (z.cnt:Int),.bool z.yes,.int .u64 (hz:Int),.int .u64 (lz:Int)] 39
     have HW4:=Lib.hid hW4
     have hq9:p<w8.heap.size∧s<w8.heap.size∧x<w8.heap.size:=⟨hB8.1.at'.ps.lt,hB8.1.at'.ss.lt,hB8.1.at'.bs.lt⟩
     have HG4:=Lib.hid (And.intro (hB8.1.upd0 hu4) (And.intro (hr.upd0 hu4) (And.intro (hB8.2.trans (hu4.mono (by simp))) (HRE.out.upd0 hu4))))
     have hcb:=(hr.upd0 hu4).cells.2.2.2
     clear hW4 hup hB8 hr hu4 HRE HDR c0 c1 c2 c3 c4 c5
     go_upto_region 11 with fail
     rw [←HW4.out]
     clear HW4
     obtain ⟨q9,hq⟩:∃q,w8.heap.size=q:=⟨_,rfl⟩
     rw [hq] at hq4 hq9 ⊢
     clear hq
     have HQ:=Lib.hid (show q9∉[p,s,x] by simp only [List.mem_cons,List.not_mem_nil,or_false];omega)
     have HRP:=Lib.hid (show RpAt W4 q9 #[.int .i64 (z.err:Int),.slice Az z.ids.length Cz,.int .i64 (z.cnt:Int),.bool z.yes,.int .u64 (hz:Int),.int .u64 (lz:Int)] from hq4)
     have HAP:=Lib.hid hap
     clear hq4 hq9 hap
     by_cases h7:M2.bs.length≤7
     ·have d7:decide ((7:Int)<(M2.bs.length:Int))=false:=decide_eq_false (by omega)
      have HF:=Lib.hid h7
      clear h7
      have hsee:See KOp W4 (.slice (some ⟨b,of,none⟩) n C') L:=HS.out.1.upd HG4.out.2.2.1 fun _ y _ hy hc=>by
       have:=HAP.out
       simp only [List.mem_cons,List.not_mem_nil,or_false] at hc
       omega
      have HSE:=Lib.hid hsee
      clear hsee
      go_upto_region 13 with fail
      refine GoT.start [] (fun w'=>RpAt w' q9 #[.int .i64 (z.err:Int),.slice Az z.ids.length Cz,.int .i64 (z.cnt:Int),.bool z.yes,.int .u64 (hz:Int),.int .u64 (lz:Int)]∧See KOp w' (.slice (some ⟨b,of,none⟩) n C') L) (by kernel_rfl) ?_ fun hS=>?_
      ·exact ⟨HRP.out.upd (Upd.refl [] _).drew (by simp),HSE.out.upd0 (Upd.refl [] _).drew⟩
      refine' GoT.mv (i:=0) (oi:=⟨some 62,_,_,_,_,_⟩) rfl (by rfl) ?y13_0 ?_
      case y13_0=>intro w;go_simp<;>with_reducible rfl
      simp only [Act.put,sA,sZ,sS]
      refine' GoT.mv (i:=1) (oi:=⟨some 63,_,_,_,_,_⟩) rfl (by rfl) ?y13_1 ?_
      case y13_1=>intro w;go_simp<;>with_reducible rfl
      simp only [Act.put,sA,sZ,sS]
      refine' GoT.mv (i:=2) (oi:=⟨some 64,_,_,_,_,_⟩) rfl (by rfl) ?y13_2 ?_
      case y13_2=>intro w;go_simp<;>with_reducible rfl
      simp only [Act.put,sA,sZ,sS]
      refine' GoT.mv (i:=3) (oi:=⟨some 65,_,_,_,_,_⟩) rfl (by rfl) ?y13_3 ?_
      case y13_3=>intro w;go_simp<;>with_reducible rfl
      simp only [Act.put,sA,sZ,sS]
      refine' GoT.tk 1 (i:=4) (oi:=⟨some 66,_,_,_,_,_⟩) rfl (by rfl) ?y13_4 ?_
      case y13_4=>intro w hSw;obtain ⟨_,_,ea,-,-,c0,c1,c2,c3,c4,c5⟩:=KOp.at hSw.2 HO.out.2.2.2.1;cases ea;have r0:=hSw.1.cell 0;have r1:=hSw.1.cell 1;have r2:=hSw.1.cell 2;have r3:=hSw.1.cell 3;have r4:=hSw.1.cell 4;have r5:=hSw.1.cell 5;simp only [List.getElem?_toArray,List.getElem?_cons_zero,List.getElem?_cons_succ] at r0 r1 r2 r3 r4 r5;clear hSw;go_simp<;>with_reducible rfl
      simp only [Act.put,sA,sZ,sS]
      refine' GoT.tk 1 (i:=6) (oi:=⟨some 68,_,_,_,_,_⟩) rfl (by rfl) ?y13_6 ?_
      case y13_6=>intro w hSw;obtain ⟨_,_,ea,-,-,c0,c1,c2,c3,c4,c5⟩:=KOp.at hSw.2 HO.out.2.2.2.1;cases ea;have r0:=hSw.1.cell 0;have r1:=hSw.1.cell 1;have r2:=hSw.1.cell 2;have r3:=hSw.1.cell 3;have r4:=hSw.1.cell 4;have r5:=hSw.1.cell 5;simp only [List.getElem?_toArray,List.getElem?_cons_zero,List.getElem?_cons_succ] at r0 r1 r2 r3 r4 r5;clear hSw;go_simp<;>with_reducible rfl
      simp only [Act.put,sA,sZ,sS]
      refine GoT.one (i:=5) (o:=⟨some 67,_,_,_,_,_⟩) rfl (by kernel_rfl) fun K hK=>?_
      go_simp
      (with_reducible refine (HDM.out _ (HG4.out.1.upd0 (Upd.refl [] _).drew)).mono ?_)
      rintro e w5 ⟨⟨u,rfl,hre⟩,hmm,hu5⟩
      have HR5:=Lib.hid (And.intro hre (And.intro hmm (show Upd [p,s,x] W4 w5 from ((Upd.refl [] W4).drew.mono (by simp)).trans hu5)))
      have HZ5:=Lib.hid (RepAt.updM HG4.out.2.2.2 HG4.out.1.at' HR5.out.2.2)
      obtain ⟨A7,C7,h7,l7,hve,-⟩:=hre
      unfold repV at hve
      subst hve
      clear hmm
      refine hK.out _ _ (fun _ h=>?_) ?_
      ·exact ⟨h.1.upd hu5 HQ.out,h.2.updM (by decide) (HG4.out.1.at'.upd0 (Upd.refl [] _).drew) hu5⟩
      clear hK K
      have hS5:=And.intro (HRP.out.upd HR5.out.2.2 HQ.out) (HSE.out.updM (by decide) HG4.out.1.at' HR5.out.2.2)
      clear hu5 hS
      try simp only [Act.put,sA,sZ,sS]
      refine GoT.one (i:=7) (o:=⟨some 69,_,_,_,_,_⟩) rfl (by kernel_rfl) fun K hK=>?_
      go_simp
      (with_reducible refine (sameC _ _ z z _ HR5.out.1 HZ5.out (by have:=HO.out.2.2.1;omega) (by have:=HO.out.2.2.1;omega)).mono ?_)
      rintro e w6 ⟨bb,rfl,hb,hu6⟩
      have e8:bb=true:=hb.2 rfl
      subst e8
      have HU6:=Lib.hid (show MM w6 h p s x M2 (k+1)∧(∃AP CP AS CS AB CB,RMd w6 r M2 AP CP AS CS AB CB)∧Upd [r,p,s,x] w w6 from ⟨HR5.out.2.1.upd0 hu6,⟨_,_,_,_,_,_,(HG4.out.2.1.updM HG4.out.1.at' HR5.out.2.2 (by have:=HAP.out;simp only [List.mem_cons,List.not_mem_nil,or_false];omega)).upd0 hu6⟩,(HG4.out.2.2.1.trans (HR5.out.2.2.mono (by simp))).trans (hu6.mono (by simp))⟩)
      clear hb
      refine hK.out _ _ (fun _ h=>?_) ?_
      ·exact ⟨h.1.upd hu6 (by simp),h.2.upd0 hu6⟩
      clear hK K
      clear hu6
      try simp only [Act.put,sA,sZ,sS]
      refine' GoT.mv (i:=8) (oi:=⟨some 70,_,_,_,_,_⟩) rfl (by rfl) ?y13_8 ?_
      case y13_8=>intro w;go_simp<;>with_reducible rfl
      simp only [Act.put,sA,sZ,sS]
      refine GoT.done (by kernel_rfl) ?_
      clear hcb d7
      go_wp2_with fail
      go_roundg (n - (k+1))
      case measure=>have:=HK.out.1;have:=HLT.out;omega
      case rel=>
       refine ⟨k+1,by have:=HK.out.1;have:=HLT.out.1;omega,by have:=HLT.out.2;omega,by go_num,?_⟩
       rw [HO.out.1]
       exact ⟨HU6.out.1,HU6.out.2.1,HF.out,HO.out.2.2.2.2,HU6.out.2.2,HAP.out⟩
     ·have d7:decide ((7:Int)<(M2.bs.length:Int))=true:=decide_eq_true (by omega)
      clear h7
      go_wp2_with fail
      (with_reducible refine (awake26 ar26 _).mono ?_)
      rintro e w9 ⟨rfl,hu9⟩
      have HU9:=Lib.hid (HG4.out.2.2.1.trans (hu9.mono (by simp)))
      clear hu9 d7 hcb
      go_wp2_with fail
      go_ret
      exact ⟨rfl,HU9.out.mono fun y hy=>.inr (by have:=HAP.out;simp only [List.mem_cons,List.not_mem_nil,or_false] at hy;omega)⟩
    ·obtain ⟨c,hc⟩:∃c:Int,(k:Int)=c:=⟨_,rfl⟩
     rw [hc] at i1 ⊢
     have d6:c=40:=by omega
     clear hk hk40 k0 k3 h40 hlt hc
     subst d6
     go_wp2_with fail
     go_meet
     case rel=>exact ⟨k,_,HK.out.2.1,HK.out.2.2⟩
   ·have b2:decide (k<n)=false:=decide_eq_false hlt
    clear hk hk40 hlt
    go_wp2_with fail
    go_meet
    case rel=>exact ⟨k,_,HK.out.2.1,HK.out.2.2⟩
 obtain ⟨k,m,hk,hB⟩:=hcut
 obtain ⟨wo,rfl⟩:∃W:World,W=wc:=⟨_,rfl⟩
 obtain ⟨AP,CP,AS,CS,AB,CB,hr⟩:=hB.rm
 have hsm:=hB.mm.small
 have hpp:=fun W9 (g:MM W9 h p s x m k)=>thePoints g.at' (by omega)
 have hsp:=fun W9 (g:MM W9 h p s x m k)=>theSpans g.at' (by omega)
 have hbp:=fun W9 (g:MM W9 h p s x m k)=>theBoxes g.at' (by omega)
 have hlp:=fun v u W9 (g:See KPt W9 v m.ps) (g':See KPt W9 u m.ps)=>lowPC v u m.ps m.ps W9 g g' (by omega) (by omega)
 have hls:=fun v u W9 (g:See KSp W9 v m.ss) (g':See KSp W9 u m.ss)=>lowSC v u m.ss m.ss W9 g g' (by omega) (by omega)
 have hlb:=fun v u W9 (g:See KBx W9 v m.bs) (g':See KBx W9 u m.bs)=>lowBC v u m.bs m.bs W9 g g' (by omega) (by omega)
 have HPP:=Lib.hid hpp
 have HSP:=Lib.hid hsp
 have HBP:=Lib.hid hbp
 have HLP:=Lib.hid hlp
 have HLS:=Lib.hid hls
 have HLB:=Lib.hid hlb
 have HG:=Lib.hid (And.intro hB.mm (And.intro hr (And.intro hB.up hB.apart)))
 clear hB hr hsm hpp hsp hbp hlp hls hlb hk
 go_upto_region 15 with fail
 refine GoT.start [] (fun w'=>Upd [] wo w') (by kernel_rfl) ?_ fun hS=>?_
 ·exact (Upd.refl [] _).drew
 refine' GoT.mv (i:=0) (oi:=⟨some 71,_,_,_,_,_⟩) rfl (by rfl) ?y15_0 ?_
 case y15_0=>intro w;go_simp<;>with_reducible rfl
 simp only [Act.put,sA,sZ,sS]
 refine' GoT.mv (i:=2) (oi:=⟨some 73,_,_,_,_,_⟩) rfl (by rfl) ?y15_2 ?_
 case y15_2=>intro w;go_simp<;>with_reducible rfl
 simp only [Act.put,sA,sZ,sS]
 refine' GoT.mv (i:=3) (oi:=⟨some 74,_,_,_,_,_⟩) rfl (by rfl) ?y15_3 ?_
 case y15_3=>intro w;go_simp<;>with_reducible rfl
 simp only [Act.put,sA,sZ,sS]
 refine' GoT.mv (i:=4) (oi:=⟨some 75,_,_,_,_,_⟩) rfl (by rfl) ?y15_4 ?_
 case y15_4=>intro w;go_simp<;>with_reducible rfl
 simp only [Act.put,sA,sZ,sS]
 refine' GoT.tk 1 (i:=5) (oi:=⟨some 76,_,_,_,_,_⟩) rfl (by rfl) ?y15_5 ?_
 case y15_5=>intro w hSw;obtain ⟨c0,c1,c2,c3⟩:=(HG.out.2.1.upd0 hSw).cells;clear hSw;go_simp<;>with_reducible rfl
 simp only [Act.put,sA,sZ,sS]
 refine GoT.one (i:=1) (o:=⟨some 72,_,_,_,_,_⟩) rfl (by kernel_rfl) fun K hK=>?_
 go_simp
 (with_reducible refine (HPP.out _ (HG.out.1.upd0 (Upd.refl [] wo).drew)).mono ?_)
 rintro e w1 ⟨AP1,CP1,rfl,hrow,hu⟩
 have HU1:=Lib.hid (((Upd.refl [] wo).drew).trans hu)
 have HR1:=Lib.hid (See.of_row hrow)
 clear hrow
 refine hK.out _ _ (fun _ h=>?_) ?_
 ·exact h.trans hu
 clear hK K
 have hS1:=HU1.out
 clear hu hS
 try simp only [Act.put,sA,sZ,sS]
 refine GoT.one (i:=6) (o:=⟨some 77,_,_,_,_,_⟩) rfl (by kernel_rfl) fun K hK=>?_
 go_simp
 (with_reducible refine (HLP.out _ _ _ HR1.out (HG.out.2.1.ps.upd0 HU1.out)).mono ?_)
 rintro e w6 ⟨bb,rfl,hb,hu⟩
 obtain rfl:bb=true:=hb.2 rfl
 have HU6:=Lib.hid ((HU1.out).trans hu)
 clear hb
 refine hK.out _ _ (fun _ h=>?_) ?_
 ·exact h.trans hu
 clear hK K
 have hS6:=HU6.out
 clear hu hS1
 try simp only [Act.put,sA,sZ,sS]
 refine' GoT.mv (i:=7) (oi:=⟨some 78,_,_,_,_,_⟩) rfl (by rfl) ?y15_7 ?_
 case y15_7=>intro w;go_simp<;>with_reducible rfl
 simp only [Act.put,sA,sZ,sS]
 refine' GoT.mv (i:=8) (oi:=⟨some 79,_,_,_,_,_⟩) rfl (by rfl) ?y15_8 ?_
 case y15_8=>intro w;go_simp<;>with_reducible rfl
 simp only [Act.put,sA,sZ,sS]
 refine' GoT.mv (i:=10) (oi:=⟨some 81,_,_,_,_,_⟩) rfl (by rfl) ?y15_10 ?_
 case y15_10=>intro w;go_simp<;>with_reducible rfl
 simp only [Act.put,sA,sZ,sS]
 refine' GoT.mv (i:=11) (oi:=⟨some 82,_,_,_,_,_⟩) rfl (by rfl) ?y15_11 ?_
 case y15_11=>intro w;go_simp<;>with_reducible rfl
 simp only [Act.put,sA,sZ,sS]
 refine' GoT.mv (i:=12) (oi:=⟨some 83,_,_,_,_,_⟩) rfl (by rfl) ?y15_12 ?_
 case y15_12=>intro w;go_simp<;>with_reducible rfl
 simp only [Act.put,sA,sZ,sS]
 refine' GoT.tk 1 (i:=13) (oi:=⟨some 84,_,_,_,_,_⟩) rfl (by rfl) ?y15_13 ?_
 case y15_13=>intro w hSw;obtain ⟨c0,c1,c2,c3⟩:=(HG.out.2.1.upd0 hSw).cells;clear hSw;go_simp<;>with_reducible rfl
 simp only [Act.put,sA,sZ,sS]
 refine GoT.one (i:=9) (o:=⟨some 80,_,_,_,_,_⟩) rfl (by kernel_rfl) fun K hK=>?_
 go_simp
 (with_reducible refine (HSP.out _ (HG.out.1.upd0 HU6.out)).mono ?_)
 rintro e w9 ⟨AS1,CS1,rfl,hrow,hu⟩
 have HU9:=Lib.hid ((HU6.out).trans hu)
 have HR9:=Lib.hid (See.of_row hrow)
 clear hrow
 refine hK.out _ _ (fun _ h=>?_) ?_
 ·exact h.trans hu
 clear hK K
 have hS9:=HU9.out
 clear hu hS6
 try simp only [Act.put,sA,sZ,sS]
 refine GoT.one (i:=14) (o:=⟨some 85,_,_,_,_,_⟩) rfl (by kernel_rfl) fun K hK=>?_
 go_simp
 (with_reducible refine (HLS.out _ _ _ HR9.out (HG.out.2.1.ss.upd0 HU9.out)).mono ?_)
 rintro e w14 ⟨bb,rfl,hb,hu⟩
 obtain rfl:bb=true:=hb.2 rfl
 have HU14:=Lib.hid ((HU9.out).trans hu)
 clear hb
 refine hK.out _ _ (fun _ h=>?_) ?_
 ·exact h.trans hu
 clear hK K
 have hS14:=HU14.out
 clear hu hS9
 try simp only [Act.put,sA,sZ,sS]
 refine' GoT.mv (i:=15) (oi:=⟨some 86,_,_,_,_,_⟩) rfl (by rfl) ?y15_15 ?_
 case y15_15=>intro w;go_simp<;>with_reducible rfl
 simp only [Act.put,sA,sZ,sS]
 refine' GoT.mv (i:=16) (oi:=⟨some 87,_,_,_,_,_⟩) rfl (by rfl) ?y15_16 ?_
 case y15_16=>intro w;go_simp<;>with_reducible rfl
 simp only [Act.put,sA,sZ,sS]
 refine' GoT.mv (i:=17) (oi:=⟨some 88,_,_,_,_,_⟩) rfl (by rfl) ?y15_17 ?_
 case y15_17=>intro w;go_simp<;>with_reducible rfl
 simp only [Act.put,sA,sZ,sS]
 refine' GoT.mv (i:=19) (oi:=⟨some 90,_,_,_,_,_⟩) rfl (by rfl) ?y15_19 ?_
 case y15_19=>intro w;go_simp<;>with_reducible rfl
 simp only [Act.put,sA,sZ,sS]
 refine' GoT.mv (i:=20) (oi:=⟨some 91,_,_,_,_,_⟩) rfl (by rfl) ?y15_20 ?_
 case y15_20=>intro w;go_simp<;>with_reducible rfl
 simp only [Act.put,sA,sZ,sS]
 refine' GoT.mv (i:=21) (oi:=⟨some 92,_,_,_,_,_⟩) rfl (by rfl) ?y15_21 ?_
 case y15_21=>intro w;go_simp<;>with_reducible rfl
 simp only [Act.put,sA,sZ,sS]
 refine' GoT.tk 1 (i:=22) (oi:=⟨some 93,_,_,_,_,_⟩) rfl (by rfl) ?y15_22 ?_
 case y15_22=>intro w hSw;obtain ⟨c0,c1,c2,c3⟩:=(HG.out.2.1.upd0 hSw).cells;clear hSw;go_simp<;>with_reducible rfl
 simp only [Act.put,sA,sZ,sS]
 refine GoT.one (i:=18) (o:=⟨some 89,_,_,_,_,_⟩) rfl (by kernel_rfl) fun K hK=>?_
 go_simp
 (with_reducible refine (HBP.out _ (HG.out.1.upd0 HU14.out)).mono ?_)
 rintro e w18 ⟨AB1,CB1,rfl,hrow,hu⟩
 have HU18:=Lib.hid ((HU14.out).trans hu)
 have HR18:=Lib.hid (See.of_row hrow)
 clear hrow
 refine hK.out _ _ (fun _ h=>?_) ?_
 ·exact h.trans hu
 clear hK K
 have hS18:=HU18.out
 clear hu hS14
 try simp only [Act.put,sA,sZ,sS]
 refine GoT.one (i:=23) (o:=⟨some 94,_,_,_,_,_⟩) rfl (by kernel_rfl) fun K hK=>?_
 go_simp
 (with_reducible refine (HLB.out _ _ _ HR18.out (HG.out.2.1.bs.upd0 HU18.out)).mono ?_)
 rintro e w23 ⟨bb,rfl,hb,hu⟩
 obtain rfl:bb=true:=hb.2 rfl
 have HU23:=Lib.hid ((HU18.out).trans hu)
 clear hb
 refine hK.out _ _ (fun _ h=>?_) ?_
 ·exact h.trans hu
 clear hK K
 have hS23:=HU23.out
 clear hu hS18
 try simp only [Act.put,sA,sZ,sS]
 refine' GoT.mv (i:=24) (oi:=⟨some 95,_,_,_,_,_⟩) rfl (by rfl) ?y15_24 ?_
 case y15_24=>intro w;go_simp<;>with_reducible rfl
 simp only [Act.put,sA,sZ,sS]
 refine' GoT.mv (i:=25) (oi:=⟨some 96,_,_,_,_,_⟩) rfl (by rfl) ?y15_25 ?_
 case y15_25=>intro w;go_simp<;>with_reducible rfl
 simp only [Act.put,sA,sZ,sS]
 refine GoT.one (i:=26) (o:=⟨some 97,_,_,_,_,_⟩) rfl (by kernel_rfl) fun K hK=>?_
 go_simp
 (with_reducible refine (awake26 ar26 _).mono ?_)
 rintro e w26 ⟨rfl,hu⟩
 have HU26:=Lib.hid ((HU23.out).trans hu)
 refine hK.out _ _ (fun _ h=>?_) ?_
 ·exact h.trans hu
 clear hK K
 have hS26:=HU26.out
 clear hu hS23
 try simp only [Act.put,sA,sZ,sS]
 refine' GoT.mv (i:=27) (oi:=⟨some 98,_,_,_,_,_⟩) rfl (by rfl) ?y15_27 ?_
 case y15_27=>intro w;go_simp<;>with_reducible rfl
 simp only [Act.put,sA,sZ,sS]
 refine' GoT.mv (i:=28) (oi:=⟨some 4,_,_,_,_,_⟩) rfl (by rfl) ?y15_28 ?_
 case y15_28=>intro w;go_simp<;>with_reducible rfl
 simp only [Act.put,sA,sZ,sS]
 refine GoT.done (by kernel_rfl) ?_
 have HU9:=Lib.hid (HG.out.2.2.1.trans (HU26.out.mono (by simp)))
 go_wp2_with fail
 go_ret
 exact ⟨rfl,HU9.out.mono fun y hy=>.inr (by have:=HG.out.2.2.2;simp only [List.mem_cons,List.not_mem_nil,or_false] at hy;omega)⟩
end Go.Proofs.YtkmnbodlciepaaaGreat
