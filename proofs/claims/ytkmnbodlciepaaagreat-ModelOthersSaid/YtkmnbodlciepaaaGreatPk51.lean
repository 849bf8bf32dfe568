/- area.Area: the walk. A number of 128 bits, opened. -/
import Derived.Deep.LoopGhost
import Derived.WalkMore
import Derived.Test.YtkmnbodlciepaaaGreatPk47
import Derived.Test.YtkmnbodlciepaaaGreatPk24
import Derived.Test.YtkmnbodlciepaaaGreatPk46
import Derived.Test.YtkmnbodlciepaaaGreatPk45
import Derived.Test.YtkmnbodlciepaaaGreatPk32
import Derived.Test.YtkmnbodlciepaaaGreatPk17
set_option maxHeartbeats 8000000
set_option maxRecDepth 100000
namespace Go.Proofs.YtkmnbodlciepaaaGreat
open Go.RowKit
theorem keep4 {w w':World} {a1 a2 a3 a4:Addr} {v1 v2 v3 v4:Value} (h:w.cell? a1=some v1∧w.cell? a2=some v2∧w.cell? a3=some v3∧w.cell? a4=some v4) (hu:Upd [] w w') :
 w'.cell? a1=some v1∧w'.cell? a2=some v2∧w'.cell? a3=some v3∧w'.cell? a4=some v4:=by
 have e:∀{a:Addr} {v:Value},w.cell? a=some v→w'.cell? a=some v:=fun {a v} ha=>(hu.cell (World.block_lt_of_cell? w _ ha) (by simp)).trans ha
 exact ⟨e h.1,e h.2.1,e h.2.2.1,e h.2.2.2⟩
def areaE (l:List Bx):Nat:=sweepE (sqz (linY l)) (turnsL l)
def AreaPost (l:List Bx) (w:World) (e:Ending) (w':World):Prop:=
 e=.returned (.tuple #[wideV (areaA l).toNat,.int .i64 (areaE l:Int)])∧Upd [] w w'
theorem areaAll (v:Value) (l:List Bx) (w:World) (hs:See KBx w v l) (hl:l.length<100000) (hb:∀b∈l,b.in64) :
 Calls Tryz.prog 21 #[v] w (AreaPost l w):=by
 obtain ⟨A,C,rfl⟩:=hs.form
 unfold AreaPost
 have hu0:Upd [] w (w.alloc (.cells #[.int .u64 0,.int .u64 0] 37)):=(Upd.refl _ _).alloc _
 have htc:=turnsC (.slice A l.length C) l _ (hs.upd0 hu0) (by omega)
 have hM:=marks_ok hb hl
 have hpart:=fun T hp hs k hk=>sweep_part (T:=T) hb hl hp hs (k:=k) hk
 have htot:=fun T hp hs=>sweep_area (T:=T) hb hl hp hs
 have hok:=fun T hp=>okT (l:=l) (T:=T) hp
 have hse:=fun T hp hs k t ht=>stepE_eq (l:=l) (T:=T) hp hs (k:=k) (t:=t) ht
 have htl:=turns_len l
 have hxin:∀t∈turnsL l,-9223372036854775808≤t.x∧t.x≤9223372036854775807:=by
  intro t ht
  have hx:=(mem_turnsX t.x).1 (List.mem_map.2 ⟨t,ht,rfl⟩)
  unfold linX at hx
  obtain ⟨b,h1,h2⟩:=List.mem_flatMap.1 hx
  have h3:=hb b (List.mem_filter.1 h1).1
  unfold Bx.in64 at h3
  simp at h2
  rcases h2 with h2 | h2<;>rw [h2]
  ·exact h3.1
  ·exact h3.2.1
 have hE:areaE l=sweepE (sqz (linY l)) (turnsL l):=rfl
 have hEl:=sweepE_le (sqz (linY l)) hM.len (turnsL l)
 unfold TurnsPost at htc
 rw [hE]
 obtain ⟨Y,hY⟩:∃Y,sqz (linY l)=Y:=⟨_,rfl⟩
 obtain ⟨U,hU⟩:∃U,turnsL l=U:=⟨_,rfl⟩
 obtain ⟨AA,hAA⟩:∃AA,areaA l=AA:=⟨_,rfl⟩
 rw [hY] at htc hM hpart htot hok hse hEl ⊢
 rw [hU] at htc hpart htot hok hse htl hxin hEl ⊢
 rw [hAA] at htot ⊢
 have h20:(w.alloc (.cells #[.int .u64 0,.int .u64 0] 37)).heap[w.heap.size]? = some (.cells #[.int .u64 0,.int .u64 0] 37 (0,0)):=heap_alloc_new _ _
 have HTC:=Lib.hid htc
 have HM:=Lib.hid hM
 have HU0:=Lib.hid hu0
 have H20:=Lib.hid h20
 have HLN:=Lib.hid (And.intro (show U.length<200000 by omega) hEl)
 have HPART:=Lib.hid hpart
 have HTOT:=Lib.hid htot
 have HOK:=Lib.hid hok
 have HSE:=Lib.hid hse
 have HXIN:=Lib.hid hxin
 clear hs hl hb hu0 htc hM hpart htot hok hse htl hxin hEl hY hU hAA h20 hE
 go_enter Tryz.func21,Tryz.ntmps21
 go_wp2_with fail
 go_step3
 go_wp2_with fail
 (with_reducible refine HTC.out.mono ?_)
 rintro e W1 ⟨A1,C1,A2,C2,T,rfl,sT,pT,oT,sM,hu1⟩
 have hTl:T.length=U.length:=pT.length_eq
 obtain ⟨n,hn⟩:∃n,U.length=n:=⟨_,rfl⟩
 have hsT:See KT W1 (.slice A1 n C1) T:=by rw [←hn];exact sT
 rw [hn] at hTl ⊢
 have hnb:(n:Int)<200000:=by have:=HLN.out.1;omega
 have hnw:=newC (.slice A2 Y.length C2) Y W1 sM HM.out
 unfold NewCPost at hnw
 have HNW:=Lib.hid hnw
 have HT:=Lib.hid (And.intro hsT (And.intro pT oT))
 have HNL:=Lib.hid (And.intro hTl hn)
 have h2:=(hu1.block w.heap.size (lt_of_block H20.out) (by simp)).trans H20.out
 have HW1:=Lib.hid (And.intro (HU0.out.trans hu1) h2)
 clear sT pT oT sM hu1 hTl hn hsT hnw h2
 go_wp2_with fail
 (with_reducible refine HNW.out.mono ?_)
 rintro e W2 ⟨b,F,rfl,hc0,hu2,hF⟩
 have hs0:SumAt (W2.alloc (.cells #[.int .u64 0,.int .u64 0] 37)) W2.heap.size 0:=heap_alloc_new _ _
 have hua:Upd [] W2 (W2.alloc (.cells #[.int .u64 0,.int .u64 0] 37)):=(Upd.refl _ _).alloc _
 have HF:=Lib.hid (And.intro hF hc0.lt)
 obtain ⟨p,hp⟩:∃p,W2.heap.size=p:=⟨_,rfl⟩
 rw [hp] at hs0
 have HS0:=Lib.hid (And.intro hs0 (And.intro (hc0.upd0 hua) (hu2.trans hua)))
 have HP:=Lib.hid (show W1.heap.size≤p∧(∀y∈F,y<p) from ⟨by rw [←hp];exact hu2.size,fun y hy=>by rw [←hp];exact HF.out.2 y hy⟩)
 clear hs0 hua hc0 hu2 hF
 go_upto_region 6 with fail
 clear hp
 generalize W2.alloc (.cells #[.int .u64 0,.int .u64 0] 37)=W0 at HS0 ⊢
 go_wp2_with fail
 go_step3
 go_wp2_with fail
 go_loopg [9,30] n (fun m s9 s30 wr=>∃k N,m+k=n∧N≤k∧(k<n∨n=0)∧s9=.int .i64 (sweepE Y (T.take k):Int)∧s30=.int .i64 (k:Int)∧SumAt wr p (sumK (addT Y T) k)∧IsCov wr b F Y (sw Y (T.take k)) N∧Upd [] W1 wr)
 case atStart=>exact ⟨0,0,by omega,Nat.le_refl _,by omega,rfl,rfl,HS0.out.1,HS0.out.2.1,HS0.out.2.2⟩
 case round=>
  obtain ⟨k,N,hk,hN,hkn,rfl,rfl,hsum,hc,hu⟩:=hrel
  have b0:(0:Int)≤(k:Int):=Int.natCast_nonneg _
  by_cases hlt:k<n
  ·have b1:(k:Int)<(n:Int):=by omega
   obtain ⟨t,ht⟩:∃t,T[k]? = some t:=⟨_,List.getElem?_eq_getElem (by have:=HNL.out.1;omega)⟩
   obtain ⟨gt,ot,hA1,l0,l1,l2,l3,l4,l5,l6⟩:=KT.at (HT.out.1.upd0 hu) ht
   have hsn:sw Y (T.take (k+1))=stepT Y (sw Y (T.take k)) t:=by rw [show T.take (k+1)=T.take k++[t] by rw [List.take_add_one,ht];rfl,sw_snoc]
   have hen:=sweepE_take Y ht
   have hse:=HSE.out T HT.out.2.1 HT.out.2.2 k t ht
   have hEk:sweepE Y (T.take (k+1))≤sweepE Y U:=by
    rw [←sweepE_perm HT.out.2.1]
    have:sweepE Y T=sweepE Y (T.take (k+1))+sweepE Y (T.drop (k+1)):=by
     unfold sweepE
     rw [←List.sum_append_nat,←List.map_append,List.take_append_drop]
    omega
   have hHl:=sw_len Y (T.take k)
   have hxt:=HXIN.out t (HT.out.2.1.mem_iff.1 (List.mem_of_getElem? ht))
   have hxu:∀u,T[k+1]? = some u→(-9223372036854775808≤u.x∧u.x≤9223372036854775807)∧t.x≤u.x∧addT Y T k=(longT Y T k).toNat*(u.x - t.x).toNat:=by
    intro u hu
    have htu:=(turn_le HT.out.2.2 ht).2 u (List.mem_of_getElem? (i:=1) (by rw [List.getElem?_drop];exact hu))
    refine ⟨HXIN.out u (HT.out.2.1.mem_iff.1 (List.mem_of_getElem? hu)),htu,?_⟩
    unfold addT
    have et:mf (T.map Tn.x) k=t.x:=by unfold mf;rw [List.getElem?_map,ht];rfl
    have eu:mf (T.map Tn.x) (k+1)=u.x:=by unfold mf;rw [List.getElem?_map,hu];rfl
    rw [et,eu]
   have hlg:0≤longT Y T k∧longT Y T k<18446744073709551616:=long_nonneg HM.out T k
   have hlo:(wholeP Y (sw Y (T.take (k+1)))).long=longT Y T k:=rfl
   have hHl2:(sw Y (T.take k)).length≤1000000:=by
    rw [List.length_take] at hHl
    have:=HLN.out.1;have:=HNL.out.1;have:=HNL.out.2
    omega
   obtain ⟨E,hE⟩:∃E,sweepE Y (T.take k)=E:=⟨_,rfl⟩
   obtain ⟨K,hK⟩:∃K,entN (spT Y t) (Y.length - 1)=K:=⟨_,rfl⟩
   rw [hE,hK] at hen
   rw [hK] at hse
   rw [hE]
   have hEb:(E:Int)+(K:Int)<100000000:=by have:=HLN.out.2;have:=HLN.out.1;omega
   have e0:(0:Int)≤(E:Int):=Int.natCast_nonneg _
   have k0:(0:Int)≤(K:Int):=Int.natCast_nonneg _
   obtain ⟨H,hH⟩:∃H,sw Y (T.take k)=H:=⟨_,rfl⟩
   rw [hH] at hc hsn hse hHl2
   rw [hsn] at hlo
   obtain ⟨tx,⟨x1,x2,y1,y2,bi⟩,g⟩:=t
   dsimp only at l0 l1 l2 l3 l4 l5 l6 hxt hxu
   subst hA1
   have hua:Upd [] wr (wr.alloc (.cells #[.int .i64 tx,.int .i64 x1,.int .i64 x2,.int .i64 y1,.int .i64 y2,.int .u32 (bi:Int),.bool g] 89)):=(Upd.refl _ _).alloc _
   have hbx:(wr.alloc (.cells #[.int .i64 tx,.int .i64 x1,.int .i64 x2,.int .i64 y1,.int .i64 y2,.int .u32 (bi:Int),.bool g] 89)).heap[wr.heap.size]? = some (.cells #[.int .i64 tx,.int .i64 x1,.int .i64 x2,.int .i64 y1,.int .i64 y2,.int .u32 (bi:Int),.bool g] 89 (0,0)):=heap_alloc_new _ _
   have HUA:=Lib.hid hua
   have HBX:=Lib.hid hbx
   have HSUM:=Lib.hid hsum
   have HC:=Lib.hid hc
   have HU:=Lib.hid hu
   have HK:=Lib.hid (And.intro hk (And.intro hN hlt))
   have HSN:=Lib.hid hsn
   have HEN:=Lib.hid hen
   have HSEK:=Lib.hid hse
   have HXT:=Lib.hid hxt
   have HXU:=Lib.hid hxu
   have HLG:=Lib.hid (And.intro hlg hlo)
   have HHL:=Lib.hid hHl2
   clear hua hbx hsum hc hu hk hN hkn hsn hen hse hEk hHl hxt hxu hlg hlo hHl2 hE hK hH ht
   clear hlt
   go_upto_region 10 with fail
   have HQF:=Lib.hid (show (∀y∈F,y<wr.heap.size)∧p<wr.heap.size from ⟨HC.out.lt,HSUM.out.lt⟩)
   have HCa:=Lib.hid (HC.out.upd0 HUA.out)
   have HSa:=Lib.hid (HSUM.out.upd0 HUA.out)
   have HUa:=Lib.hid (HU.out.trans HUA.out)
   generalize (wr.alloc (.cells #[.int .i64 tx,.int .i64 x1,.int .i64 x2,.int .i64 y1,.int .i64 y2,.int .u32 (bi:Int),.bool g] 89))=Wb at HBX HCa HSa HUa HUA ⊢
   generalize wr.heap.size=q at HBX HQF ⊢
   have c3:Wb.cell? ⟨q,3,none⟩=some (.int .i64 y1):=by have:=HBX.out;simp [World.cell?,this]
   have c4:Wb.cell? ⟨q,4,none⟩=some (.int .i64 y2):=by have:=HBX.out;simp [World.cell?,this]
   have c6:Wb.cell? ⟨q,6,none⟩=some (.bool g):=by have:=HBX.out;simp [World.cell?,this]
   have hstep:Calls Tryz.prog (bif g then 43 else 42) #[.pointer (some ⟨b,0,none⟩),.int .i64 y1,.int .i64 y2] Wb (fun e w'=>∃X,e=.returned (.tuple #[.int .i64 (K:Int),.int .i64 X])∧(∃N',N'≤k+1∧IsCov w' b F Y (sw Y (T.take (k+1))) N')∧Upd F Wb w'):=by
    have hkk:=HK.out
    have hnn:=HLN.out.1
    have h1:=HSN.out
    have h2:=HSEK.out
    cases g
    ·refine (addC b F Y H N Wb y1 y2 HCa.out HM.out (by have:=HNL.out.2;omega) HHL.out).mono ?_
     rintro e w' ⟨rfl,⟨N',hN',hc'⟩,hu'⟩
     refine ⟨addX Y y1 y2,?_,⟨N',by omega,?_⟩,hu'⟩
     ·rw [←h2];rfl
     ·rw [h1];exact hc'
    ·refine (dropC b F Y H N Wb y1 y2 HCa.out HM.out (by have:=HNL.out.2;omega) HHL.out).mono ?_
     rintro e w' ⟨rfl,⟨N',hN',hc'⟩,hu'⟩
     refine ⟨dropX Y H y1 y2,?_,⟨N',by omega,?_⟩,hu'⟩
     ·rw [←h2];rfl
     ·rw [h1];exact hc'
   have HST:=Lib.hid hstep
   clear hstep
   cases g
   ·have hb3:=HST.out
    simp only [cond_false] at hb3
    have HB:=Lib.hid hb3
    clear hb3
    go_wp2_with fail
    (with_reducible refine HB.out.mono ?_)
    rintro e w3 ⟨X,rfl,⟨N',hNk,hc3⟩,hu3⟩
    clear c3 c4 c6
    have hq:=(hu3.block q (lt_of_block HBX.out) (fun h=>Nat.lt_irrefl _ (HQF.out.1 q h))).trans HBX.out
    have hs3:=HSa.out.upd hu3 (fun h=>Nat.lt_irrefl _ (HP.out.2 p h))
    have hw3:Upd [] W1 w3:=HUa.out.trans' hu3 (fun y hy=>.inr (HF.out.1 y hy))
    by_cases hend:k+1=n
    ·have hd:((k:Int)+1==(n:Int))=true:=by rw [beq_iff_eq];omega
     have hd2:decide ((k:Int)+1=(n:Int))=true:=decide_eq_true (by omega)
     have hTk:T.take (k+1)=T:=List.take_of_length_le (by have:=HNL.out.1;omega)
     have htot:=HTOT.out T HT.out.2.1 HT.out.2.2
     rw [HNL.out.1,←hend,Nat.add_sub_cancel] at htot
     have hsz:SumAt w3 p AA.toNat:=by
      have e:AA.toNat=sumK (addT Y T) k:=by omega
      rw [e];exact hs3
     have hee:(E:Int)+(K:Int)=(sweepE Y U:Int):=by
      have:=HEN.out
      rw [hTk,sweepE_perm HT.out.2.1] at this
      omega
     have hud:=hw3
     obtain ⟨EE,hEE⟩:∃EE:Nat,sweepE Y U=EE:=⟨_,rfl⟩
     rw [hEE] at hee
     have hw:IntKind.i64.wrap ((E:Int)+(K:Int))=(EE:Int):=by rw [IntWalk.i64_in _ ⟨by omega,by omega⟩,hee]
     clear hs3 hw3 hc3 hu3 hq htot hTk hend hee hNk hEb e0 k0
     obtain ⟨s0,s1,-⟩:=hsz.cells
     have h2:=(hud.block w.heap.size (lt_of_block HW1.out.2) (by simp)).trans HW1.out.2
     have r0:w3.cell? ⟨w.heap.size,0,none⟩=some (.int .u64 0):=by simp [World.cell?,h2]
     have r1:w3.cell? ⟨w.heap.size,1,none⟩=some (.int .u64 0):=by simp [World.cell?,h2]
     have f0:w3.frozen? ⟨w.heap.size,0,none⟩=false:=by simp [World.frozen?,h2]
     have f1:w3.frozen? ⟨w.heap.size,1,none⟩=false:=by simp [World.frozen?,h2]
     obtain ⟨h,hh⟩:∃h,AA.toNat / 18446744073709551616=h:=⟨_,rfl⟩
     obtain ⟨lo,hlo⟩:∃lo,AA.toNat % 18446744073709551616=lo:=⟨_,rfl⟩
     have hv:wideV AA.toNat=.agg #[.int .u64 (h:Int),.int .u64 (lo:Int)]:=by unfold wideV;rw [hh,hlo]
     have hz:SumAt w3 w.heap.size 0:=h2
     have hfin:=hz.set hh.symm hlo.symm
     rw [hh] at s0
     rw [hlo] at s1
     have HFIN:=Lib.hid hfin
     have HV:=Lib.hid (And.intro hv (And.intro hh hlo))
     have HUE:=Lib.hid (show Upd [] w ((w3.setCell ⟨w.heap.size,0,none⟩ (.int .u64 (h:Int))).setCell ⟨w.heap.size,1,none⟩ (.int .u64 (lo:Int))) from (((HW1.out.1.trans hud).setCell (.inr (Nat.le_refl _)) _).setCell (.inr (Nat.le_refl _)) _))
     have HEE:=Lib.hid hEE
     clear hh hlo h2 hsz hud hv hz hfin hEE
     go_wp2_with fail
     obtain ⟨e0,e1,-⟩:=HFIN.out.cells
     rw [HV.out.2.1] at e0
     rw [HV.out.2.2] at e1
     try rw [Exit.noGoto_ret]
     exact bodyPost_ret (v:=.tuple #[.agg #[.int .u64 (h:Int),.int .u64 (lo:Int)],.int .i64 (EE:Int)]) (by simp [results,Tryz.results21,go_sem,e0,e1]) rfl ⟨by rw [HV.out.1,HEE.out],HUE.out⟩
    ·have hd:((k:Int)+1==(n:Int))=false:=by rw [beq_eq_false_iff_ne];omega
     have hd2:decide ((k:Int)+1=(n:Int))=false:=decide_eq_false (by omega)
     have hkl:=HK.out.2.2
     obtain ⟨u,hu⟩:∃u,T[k+1]? = some u:=⟨_,List.getElem?_eq_getElem (by have:=HNL.out.1;omega)⟩
     obtain ⟨gt',ot',hA1',l0',-⟩:=KT.at (HT.out.1.upd0 hw3) hu
     cases hA1'
     obtain ⟨hx64,hxm,hadd⟩:=HXU.out u hu
     have hbd:=HPART.out T HT.out.2.1 HT.out.2.2 (k+1) (by have:=HNL.out.1;omega)
     obtain ⟨ux,hux⟩:∃ux,u.x=ux:=⟨_,rfl⟩
     rw [hux] at l0' hx64 hxm hadd
     have hss:sumK (addT Y T) (k+1)=sumK (addT Y T) k+addT Y T k:=rfl
     rw [hss,hadd] at hbd
     rw [hadd] at hss
     have x64:=HXT.out
     have hdfx:=fun w=>diffC tx ux w x64 hx64
     obtain ⟨dx,hdx⟩:∃d:Nat,(ux - tx).toNat=d:=⟨_,rfl⟩
     obtain ⟨LG,hLG⟩:∃d:Nat,(longT Y T k).toNat=d:=⟨_,rfl⟩
     rw [hdx,hLG] at hss hbd
     rw [show diffN tx ux=(dx:Int) by unfold diffN;split<;>omega] at hdfx
     have hlg:=HLG.out
     have hml:=fun w=>wMulC LG dx (by omega) (by omega) w
     obtain ⟨M,hMM⟩:∃M,LG*dx=M:=⟨_,rfl⟩
     obtain ⟨Q,hQQ⟩:∃Q,sumK (addT Y T) k=Q:=⟨_,rfl⟩
     rw [hMM,hQQ] at hss hbd
     simp only [hMM] at hml
     rw [hQQ] at hs3
     have had:=fun w=>wAddC Q M hbd w
     obtain ⟨h,hh⟩:∃h,Q / 18446744073709551616=h:=⟨_,rfl⟩
     obtain ⟨lo,hlo⟩:∃lo,Q % 18446744073709551616=lo:=⟨_,rfl⟩
     obtain ⟨h2,hh2⟩:∃h,(Q+M) / 18446744073709551616=h:=⟨_,rfl⟩
     obtain ⟨lo2,hlo2⟩:∃lo,(Q+M) % 18446744073709551616=lo:=⟨_,rfl⟩
     obtain ⟨mh,hmh⟩:∃h,M / 18446744073709551616=h:=⟨_,rfl⟩
     obtain ⟨ml,hml2⟩:∃lo,M % 18446744073709551616=lo:=⟨_,rfl⟩
     unfold wideV at had hml
     simp only [hh,hlo,hh2,hlo2,hmh,hml2] at had hml
     obtain ⟨s0,s1,-⟩:=hs3.cells
     rw [hh] at s0
     rw [hlo] at s1
     have d0:w3.cell? ⟨q,0,none⟩=some (.int .i64 tx):=by simp [World.cell?,hq]
     have hlong:∀w',w'=w3.drew→Calls Tryz.prog 46 #[.pointer (some ⟨b,0,none⟩)] w' fun e w2=>e=.returned (.int .u64 (LG:Int))∧Upd [] w' w2:=by
      rintro w' rfl
      have h1:=longC b F Y _ N' w3.drew (hc3.upd0 (Upd.refl _ _).drew)
      rw [HSN.out,hlg.2] at h1
      rw [show longT Y T k=(LG:Int) by omega] at h1
      exact h1
     have HLONG0:=Lib.hid hlong
     have HNEW:=Lib.hid (And.intro (show (sumK (addT Y T) (k+1)) / 18446744073709551616=h2 by rw [hss,hh2]) (show (sumK (addT Y T) (k+1)) % 18446744073709551616=lo2 by rw [hss,hlo2]))
     have HDX:=Lib.hid hdfx
     have HMUL:=Lib.hid hml
     have HADD:=Lib.hid had
     have i2:(k:Int)+1<(n:Int):=by omega
     have HU3:=Lib.hid hw3
     have HS3:=Lib.hid hs3
     have HC3:=Lib.hid hc3
     have HC4:=Lib.hid (And.intro s0 (And.intro s1 (And.intro d0 l0')))
     have HEND:=Lib.hid hend
     have hw:IntKind.i64.wrap ((E:Int)+(K:Int))=((E+K:Nat):Int):=by rw [IntWalk.i64_in _ ⟨by omega,by omega⟩];omega
     clear hu hkl hx64 hxm hadd hbd hss x64 hdfx hdx hLG hlg hml hMM hQQ had hh hlo hh2 hlo2 hmh hml2 s0 s1 d0 l0' hlong hend hw3 hs3 hc3 hu3 hq hux hEb e0 k0
     go_upto_region 16 with fail
     clear hw hd hd2
     obtain ⟨Wd,hWd⟩:∃Wd,Wd=w3.drew:=⟨_,rfl⟩
     have HS0b:=Lib.hid (keep4 HC4.out (show Upd [] w3 Wd by rw [hWd];exact (Upd.refl _ _).drew))
     have HUd:=Lib.hid (show Upd [] W1 Wd by rw [hWd];exact HU3.out.drew)
     have HSM:=Lib.hid (show SumAt Wd p Q by rw [hWd];exact HS3.out)
     have HCd:=Lib.hid (show IsCov Wd b F Y (sw Y (T.take (k+1))) N' by rw [hWd];exact HC3.out.upd0 (Upd.refl _ _).drew)
     have HLONG:=Lib.hid (HLONG0.out Wd hWd)
     clear HC4 HU3 HS3 HC3 HLONG0
     have kp:(0:Int)≤(k:Int)+1:=by omega
     have kn:((k:Int)+1).toNat=k+1:=by omega
     have wk:IntKind.i64.wrap ((k:Int)+1)=(k:Int)+1:=IntWalk.i64_in _ ⟨by omega,by omega⟩
     refine GoT.start [13,14,15,16,17] (fun w'=>w'.cell? ⟨p,0,none⟩=some (.int .u64 h)∧w'.cell? ⟨p,1,none⟩=some (.int .u64 lo)∧w'.cell? ⟨q,0,none⟩=some (.int .i64 tx)∧w'.cell? ⟨gt,ot+(k+1)*7,none⟩=some (.int .i64 ux)) (by kernel_rfl) ?_ fun hS=>?_
     ·exact by rw [←hWd];exact HS0b.out
     rw [←hWd] at hS ⊢
     clear hWd
     refine' GoT.tk 5 (i:=0) (oi:=⟨some 61,_,_,_,_,_⟩) rfl (by rfl) ?y16_0 ?_
     case y16_0=>intro w hSw;go_simp<;>with_reducible rfl
     simp only [Act.put,sA,sZ,sS]
     refine' GoT.mv (i:=1) (oi:=⟨some 62,_,_,_,_,_⟩) rfl (by rfl) ?y16_1 ?_
     case y16_1=>intro w;go_simp<;>with_reducible rfl
     simp only [Act.put,sA,sZ,sS]
     refine' GoT.mv (i:=3) (oi:=⟨some 64,_,_,_,_,_⟩) rfl (by rfl) ?y16_3 ?_
     case y16_3=>intro w;go_simp<;>with_reducible rfl
     simp only [Act.put,sA,sZ,sS]
     refine' GoT.tk 5 (i:=4) (oi:=⟨some 65,_,_,_,_,_⟩) rfl (by rfl) ?y16_4 ?_
     case y16_4=>intro w hSw;go_simp<;>with_reducible rfl
     simp only [Act.put,sA,sZ,sS]
     refine' GoT.mv (i:=5) (oi:=⟨some 66,_,_,_,_,_⟩) rfl (by rfl) ?y16_5 ?_
     case y16_5=>intro w;go_simp<;>with_reducible rfl
     simp only [Act.put,sA,sZ,sS]
     refine' GoT.mv (i:=6) (oi:=⟨some 67,_,_,_,_,_⟩) rfl (by rfl) ?y16_6 ?_
     case y16_6=>intro w;go_simp<;>with_reducible rfl
     simp only [Act.put,sA,sZ,sS]
     refine' GoT.mv (i:=7) (oi:=⟨some 68,_,_,_,_,_⟩) rfl (by rfl) ?y16_7 ?_
     case y16_7=>intro w;go_simp<;>with_reducible rfl
     simp only [Act.put,sA,sZ,sS]
     refine' GoT.mv (i:=8) (oi:=⟨some 69,_,_,_,_,_⟩) rfl (by rfl) ?y16_8 ?_
     case y16_8=>intro w;go_simp<;>with_reducible rfl
     simp only [Act.put,sA,sZ,sS]
     refine' GoT.mv (i:=9) (oi:=⟨some 70,_,_,_,_,_⟩) rfl (by rfl) ?y16_9 ?_
     case y16_9=>intro w;go_simp<;>with_reducible rfl
     simp only [Act.put,sA,sZ,sS]
     refine' GoT.tk 5 (i:=10) (oi:=⟨some 71,_,_,_,_,_⟩) rfl (by rfl) ?y16_10 ?_
     case y16_10=>intro w hSw;go_simp<;>with_reducible rfl
     simp only [Act.put,sA,sZ,sS]
     refine GoT.one (i:=2) (o:=⟨some 63,_,_,_,_,_⟩) rfl (by kernel_rfl) fun K hK=>?_
     go_simp
     go_at_call 46
     (with_reducible refine HLONG.out.mono ?_)
     rintro e w4 ⟨rfl,hu4⟩
     refine hK.out _ _ (fun _ h=>?_) ?_
     ·exact keep4 h hu4
     clear hK K
     try simp only [Act.put,sA,sZ,sS]
     have HU4:=Lib.hid hu4
     clear hu4
     refine GoT.one (i:=11) (o:=⟨some 72,_,_,_,_,_⟩) rfl (by kernel_rfl) fun K hK=>?_
     go_simp
     go_at_call 47
     (with_reducible refine (HDX.out _).mono ?_)
     rintro e w' ⟨rfl,rfl⟩
     refine hK.out _ _ (fun _ h=>?_) ?_
     ·exact h
     clear hK K
     try simp only [Act.put,sA,sZ,sS]
     refine GoT.one (i:=12) (o:=⟨some 73,_,_,_,_,_⟩) rfl (by kernel_rfl) fun K hK=>?_
     go_simp
     go_at_call 45
     (with_reducible refine (HMUL.out _).mono ?_)
     rintro e w5 ⟨rfl,hu5⟩
     refine hK.out _ _ (fun _ h=>?_) ?_
     ·exact keep4 h hu5
     clear hK K
     try simp only [Act.put,sA,sZ,sS]
     have HU5:=Lib.hid (HU4.out.trans hu5)
     clear hu5
     refine GoT.one (i:=13) (o:=⟨some 74,_,_,_,_,_⟩) rfl (by kernel_rfl) fun K hK=>?_
     go_simp
     go_at_call 44
     (with_reducible refine (HADD.out _).mono ?_)
     rintro e w6 ⟨rfl,hu6⟩
     refine hK.out _ _ (fun h=>(by cases h)) ?_
     clear hK K
     try simp only [Act.put,sA,sZ,sS]
     have HU6:=Lib.hid (HU5.out.trans hu6)
     have hsm:=HSM.out.upd0 HU6.out
     obtain ⟨z0,z1,zf⟩:=hsm.cells
     have zf0:=zf 0
     have zf1:=zf 1
     have HS6:=Lib.hid hsm
     clear hu6 zf hsm
     refine' GoT.mv (i:=14) (oi:=⟨some 60,_,_,_,_,_⟩) rfl (by rfl) ?y16_14 ?_
     case y16_14=>intro w;go_simp<;>with_reducible rfl
     simp only [Act.put,sA,sZ,sS]
     refine' GoT.mv (i:=15) (oi:=⟨some 75,_,_,_,_,_⟩) rfl (by rfl) ?y16_15 ?_
     case y16_15=>intro w;go_simp<;>with_reducible rfl
     simp only [Act.put,sA,sZ,sS]
     refine' GoT.mv (i:=16) (oi:=⟨some 76,_,_,_,_,_⟩) rfl (by rfl) ?y16_16 ?_
     case y16_16=>intro w;go_simp<;>with_reducible rfl
     simp only [Act.put,sA,sZ,sS]
     refine GoT.one (i:=17) (o:=⟨none,_,_,_,_,_⟩) rfl (by kernel_rfl) fun K hK=>?_
     go_simp
     refine hK.out _ _ (fun h=>(by cases h)) ?_
     clear hK K
     try simp only [Act.put,sA,sZ,sS]
     refine GoT.done (by kernel_rfl) ?_
     clear wk kn kp
     have HSN2:=Lib.hid (HS6.out.set HNEW.out.1.symm HNEW.out.2.symm)
     have hpu:Upd [p] w6 ((w6.setCell ⟨p,0,none⟩ (.int .u64 h2)).setCell ⟨p,1,none⟩ (.int .u64 lo2)):=((Upd.refl _ _).setCell (.inl (by simp)) _).setCell (.inl (by simp)) _
     have HUN:=Lib.hid (show Upd [] W1 ((w6.setCell ⟨p,0,none⟩ (.int .u64 h2)).setCell ⟨p,1,none⟩ (.int .u64 lo2)) from (HUd.out.trans HU6.out).trans' hpu (fun y hy=>.inr (by simp at hy;subst hy;exact HP.out.1)))
     have HCN:=Lib.hid ((HCd.out.upd0 HU6.out).upd hpu (fun y hy hm=>by simp at hm;have:=HP.out.2 y hy;omega))
     clear z0 z1 zf0 zf1 hpu
     go_wp2_with fail
     go_roundg (n - (k+1))
     case measure=>have:=HK.out;omega
     case rel=>exact ⟨k+1,N',by have:=HK.out;omega,hNk,by have:=HK.out;omega,by rw [HEN.out,Int.natCast_add],by go_num,HSN2.out,HCN.out,HUN.out⟩
   ·have hb3:=HST.out
    simp only [cond_true] at hb3
    have HB:=Lib.hid hb3
    clear hb3
    go_wp2_with fail
    (with_reducible refine HB.out.mono ?_)
    rintro e w3 ⟨X,rfl,⟨N',hNk,hc3⟩,hu3⟩
    clear c3 c4 c6
    have hq:=(hu3.block q (lt_of_block HBX.out) (fun h=>Nat.lt_irrefl _ (HQF.out.1 q h))).trans HBX.out
    have hs3:=HSa.out.upd hu3 (fun h=>Nat.lt_irrefl _ (HP.out.2 p h))
    have hw3:Upd [] W1 w3:=HUa.out.trans' hu3 (fun y hy=>.inr (HF.out.1 y hy))
    by_cases hend:k+1=n
    ·have hd:((k:Int)+1==(n:Int))=true:=by rw [beq_iff_eq];omega
     have hd2:decide ((k:Int)+1=(n:Int))=true:=decide_eq_true (by omega)
     have hTk:T.take (k+1)=T:=List.take_of_length_le (by have:=HNL.out.1;omega)
     have htot:=HTOT.out T HT.out.2.1 HT.out.2.2
     rw [HNL.out.1,←hend,Nat.add_sub_cancel] at htot
     have hsz:SumAt w3 p AA.toNat:=by
      have e:AA.toNat=sumK (addT Y T) k:=by omega
      rw [e];exact hs3
     have hee:(E:Int)+(K:Int)=(sweepE Y U:Int):=by
      have:=HEN.out
      rw [hTk,sweepE_perm HT.out.2.1] at this
      omega
     have hud:=hw3
     obtain ⟨EE,hEE⟩:∃EE:Nat,sweepE Y U=EE:=⟨_,rfl⟩
     rw [hEE] at hee
     have hw:IntKind.i64.wrap ((E:Int)+(K:Int))=(EE:Int):=by rw [IntWalk.i64_in _ ⟨by omega,by omega⟩,hee]
     clear hs3 hw3 hc3 hu3 hq htot hTk hend hee hNk hEb e0 k0
     obtain ⟨s0,s1,-⟩:=hsz.cells
     have h2:=(hud.block w.heap.size (lt_of_block HW1.out.2) (by simp)).trans HW1.out.2
     have r0:w3.cell? ⟨w.heap.size,0,none⟩=some (.int .u64 0):=by simp [World.cell?,h2]
     have r1:w3.cell? ⟨w.heap.size,1,none⟩=some (.int .u64 0):=by simp [World.cell?,h2]
     have f0:w3.frozen? ⟨w.heap.size,0,none⟩=false:=by simp [World.frozen?,h2]
     have f1:w3.frozen? ⟨w.heap.size,1,none⟩=false:=by simp [World.frozen?,h2]
     obtain ⟨h,hh⟩:∃h,AA.toNat / 18446744073709551616=h:=⟨_,rfl⟩
     obtain ⟨lo,hlo⟩:∃lo,AA.toNat % 18446744073709551616=lo:=⟨_,rfl⟩
     have hv:wideV AA.toNat=.agg #[.int .u64 (h:Int),.int .u64 (lo:Int)]:=by unfold wideV;rw [hh,hlo]
     have hz:SumAt w3 w.heap.size 0:=h2
     have hfin:=hz.set hh.symm hlo.symm
     rw [hh] at s0
     rw [hlo] at s1
     have HFIN:=Lib.hid hfin
     have HV:=Lib.hid (And.intro hv (And.intro hh hlo))
     have HUE:=Lib.hid (show Upd [] w ((w3.setCell ⟨w.heap.size,0,none⟩ (.int .u64 (h:Int))).setCell ⟨w.heap.size,1,none⟩ (.int .u64 (lo:Int))) from (((HW1.out.1.trans hud).setCell (.inr (Nat.le_refl _)) _).setCell (.inr (Nat.le_refl _)) _))
     have HEE:=Lib.hid hEE
     clear hh hlo h2 hsz hud hv hz hfin hEE
     go_wp2_with fail
     obtain ⟨e0,e1,-⟩:=HFIN.out.cells
     rw [HV.out.2.1] at e0
     rw [HV.out.2.2] at e1
     try rw [Exit.noGoto_ret]
     exact bodyPost_ret (v:=.tuple #[.agg #[.int .u64 (h:Int),.int .u64 (lo:Int)],.int .i64 (EE:Int)]) (by simp [results,Tryz.results21,go_sem,e0,e1]) rfl ⟨by rw [HV.out.1,HEE.out],HUE.out⟩
    ·have hd:((k:Int)+1==(n:Int))=false:=by rw [beq_eq_false_iff_ne];omega
     have hd2:decide ((k:Int)+1=(n:Int))=false:=decide_eq_false (by omega)
     have hkl:=HK.out.2.2
     obtain ⟨u,hu⟩:∃u,T[k+1]? = some u:=⟨_,List.getElem?_eq_getElem (by have:=HNL.out.1;omega)⟩
     obtain ⟨gt',ot',hA1',l0',-⟩:=KT.at (HT.out.1.upd0 hw3) hu
     cases hA1'
     obtain ⟨hx64,hxm,hadd⟩:=HXU.out u hu
     have hbd:=HPART.out T HT.out.2.1 HT.out.2.2 (k+1) (by have:=HNL.out.1;omega)
     obtain ⟨ux,hux⟩:∃ux,u.x=ux:=⟨_,rfl⟩
     rw [hux] at l0' hx64 hxm hadd
     have hss:sumK (addT Y T) (k+1)=sumK (addT Y T) k+addT Y T k:=rfl
     rw [hss,hadd] at hbd
     rw [hadd] at hss
     have x64:=HXT.out
     have hdfx:=fun w=>diffC tx ux w x64 hx64
     obtain ⟨dx,hdx⟩:∃d:Nat,(ux - tx).toNat=d:=⟨_,rfl⟩
     obtain ⟨LG,hLG⟩:∃d:Nat,(longT Y T k).toNat=d:=⟨_,rfl⟩
     rw [hdx,hLG] at hss hbd
     rw [show diffN tx ux=(dx:Int) by unfold diffN;split<;>omega] at hdfx
     have hlg:=HLG.out
     have hml:=fun w=>wMulC LG dx (by omega) (by omega) w
     obtain ⟨M,hMM⟩:∃M,LG*dx=M:=⟨_,rfl⟩
     obtain ⟨Q,hQQ⟩:∃Q,sumK (addT Y T) k=Q:=⟨_,rfl⟩
     rw [hMM,hQQ] at hss hbd
     simp only [hMM] at hml
     rw [hQQ] at hs3
     have had:=fun w=>wAddC Q M hbd w
     obtain ⟨h,hh⟩:∃h,Q / 18446744073709551616=h:=⟨_,rfl⟩
     obtain ⟨lo,hlo⟩:∃lo,Q % 18446744073709551616=lo:=⟨_,rfl⟩
     obtain ⟨h2,hh2⟩:∃h,(Q+M) / 18446744073709551616=h:=⟨_,rfl⟩
     obtain ⟨lo2,hlo2⟩:∃lo,(Q+M) % 18446744073709551616=lo:=⟨_,rfl⟩
     obtain ⟨mh,hmh⟩:∃h,M / 18446744073709551616=h:=⟨_,rfl⟩
     obtain ⟨ml,hml2⟩:∃lo,M % 18446744073709551616=lo:=⟨_,rfl⟩
     unfold wideV at had hml
     simp only [hh,hlo,hh2,hlo2,hmh,hml2] at had hml
     obtain ⟨s0,s1,-⟩:=hs3.cells
     rw [hh] at s0
     rw [hlo] at s1
     have d0:w3.cell? ⟨q,0,none⟩=some (.int .i64 tx):=by simp [World.cell?,hq]
     have hlong:∀w',w'=w3.drew→Calls Tryz.prog 46 #[.pointer (some ⟨b,0,none⟩)] w' fun e w2=>e=.returned (.int .u64 (LG:Int))∧Upd [] w' w2:=by
      rintro w' rfl
      have h1:=longC b F Y _ N' w3.drew (hc3.upd0 (Upd.refl _ _).drew)
      rw [HSN.out,hlg.2] at h1
      rw [show longT Y T k=(LG:Int) by omega] at h1
      exact h1
     have HLONG0:=Lib.hid hlong
     have HNEW:=Lib.hid (And.intro (show (sumK (addT Y T) (k+1)) / 18446744073709551616=h2 by rw [hss,hh2]) (show (sumK (addT Y T) (k+1)) % 18446744073709551616=lo2 by rw [hss,hlo2]))
     have HDX:=Lib.hid hdfx
     have HMUL:=Lib.hid hml
     have HADD:=Lib.hid had
     have i2:(k:Int)+1<(n:Int):=by omega
     have HU3:=Lib.hid hw3
     have HS3:=Lib.hid hs3
     have HC3:=Lib.hid hc3
     have HC4:=Lib.hid (And.intro s0 (And.intro s1 (And.intro d0 l0')))
     have HEND:=Lib.hid hend
     have hw:IntKind.i64.wrap ((E:Int)+(K:Int))=((E+K:Nat):Int):=by rw [IntWalk.i64_in _ ⟨by omega,by omega⟩];omega
     clear hu hkl hx64 hxm hadd hbd hss x64 hdfx hdx hLG hlg hml hMM hQQ had hh hlo hh2 hlo2 hmh hml2 s0 s1 d0 l0' hlong hend hw3 hs3 hc3 hu3 hq hux hEb e0 k0
     go_upto_region 16 with fail
     clear hw hd hd2
     obtain ⟨Wd,hWd⟩:∃Wd,Wd=w3.drew:=⟨_,rfl⟩
     have HS0b:=Lib.hid (keep4 HC4.out (show Upd [] w3 Wd by rw [hWd];exact (Upd.refl _ _).drew))
     have HUd:=Lib.hid (show Upd [] W1 Wd by rw [hWd];exact HU3.out.drew)
     have HSM:=Lib.hid (show SumAt Wd p Q by rw [hWd];exact HS3.out)
     have HCd:=Lib.hid (show IsCov Wd b F Y (sw Y (T.take (k+1))) N' by rw [hWd];exact HC3.out.upd0 (Upd.refl _ _).drew)
     have HLONG:=Lib.hid (HLONG0.out Wd hWd)
     clear HC4 HU3 HS3 HC3 HLONG0
     have kp:(0:Int)≤(k:Int)+1:=by omega
     have kn:((k:Int)+1).toNat=k+1:=by omega
     have wk:IntKind.i64.wrap ((k:Int)+1)=(k:Int)+1:=IntWalk.i64_in _ ⟨by omega,by omega⟩
     refine GoT.start [13,14,15,16,17] (fun w'=>w'.cell? ⟨p,0,none⟩=some (.int .u64 h)∧w'.cell? ⟨p,1,none⟩=some (.int .u64 lo)∧w'.cell? ⟨q,0,none⟩=some (.int .i64 tx)∧w'.cell? ⟨gt,ot+(k+1)*7,none⟩=some (.int .i64 ux)) (by kernel_rfl) ?_ fun hS=>?_
     ·exact by rw [←hWd];exact HS0b.out
     rw [←hWd] at hS ⊢
     clear hWd
     refine' GoT.tk 5 (i:=0) (oi:=⟨some 61,_,_,_,_,_⟩) rfl (by rfl) ?y16_0b ?_
     case y16_0b=>intro w hSw;go_simp<;>with_reducible rfl
     simp only [Act.put,sA,sZ,sS]
     refine' GoT.mv (i:=1) (oi:=⟨some 62,_,_,_,_,_⟩) rfl (by rfl) ?y16_1b ?_
     case y16_1b=>intro w;go_simp<;>with_reducible rfl
     simp only [Act.put,sA,sZ,sS]
     refine' GoT.mv (i:=3) (oi:=⟨some 64,_,_,_,_,_⟩) rfl (by rfl) ?y16_3b ?_
     case y16_3b=>intro w;go_simp<;>with_reducible rfl
     simp only [Act.put,sA,sZ,sS]
     refine' GoT.tk 5 (i:=4) (oi:=⟨some 65,_,_,_,_,_⟩) rfl (by rfl) ?y16_4b ?_
     case y16_4b=>intro w hSw;go_simp<;>with_reducible rfl
     simp only [Act.put,sA,sZ,sS]
     refine' GoT.mv (i:=5) (oi:=⟨some 66,_,_,_,_,_⟩) rfl (by rfl) ?y16_5b ?_
     case y16_5b=>intro w;go_simp<;>with_reducible rfl
     simp only [Act.put,sA,sZ,sS]
     refine' GoT.mv (i:=6) (oi:=⟨some 67,_,_,_,_,_⟩) rfl (by rfl) ?y16_6b ?_
     case y16_6b=>intro w;go_simp<;>with_reducible rfl
     simp only [Act.put,sA,sZ,sS]
     refine' GoT.mv (i:=7) (oi:=⟨some 68,_,_,_,_,_⟩) rfl (by rfl) ?y16_7b ?_
     case y16_7b=>intro w;go_simp<;>with_reducible rfl
     simp only [Act.put,sA,sZ,sS]
     refine' GoT.mv (i:=8) (oi:=⟨some 69,_,_,_,_,_⟩) rfl (by rfl) ?y16_8b ?_
     case y16_8b=>intro w;go_simp<;>with_reducible rfl
     simp only [Act.put,sA,sZ,sS]
     refine' GoT.mv (i:=9) (oi:=⟨some 70,_,_,_,_,_⟩) rfl (by rfl) ?y16_9b ?_
     case y16_9b=>intro w;go_simp<;>with_reducible rfl
     simp only [Act.put,sA,sZ,sS]
     refine' GoT.tk 5 (i:=10) (oi:=⟨some 71,_,_,_,_,_⟩) rfl (by rfl) ?y16_10b ?_
     case y16_10b=>intro w hSw;go_simp<;>with_reducible rfl
     simp only [Act.put,sA,sZ,sS]
     refine GoT.one (i:=2) (o:=⟨some 63,_,_,_,_,_⟩) rfl (by kernel_rfl) fun K hK=>?_
     go_simp
     go_at_call 46
     (with_reducible refine HLONG.out.mono ?_)
     rintro e w4 ⟨rfl,hu4⟩
     refine hK.out _ _ (fun _ h=>?_) ?_
     ·exact keep4 h hu4
     clear hK K
     try simp only [Act.put,sA,sZ,sS]
     have HU4:=Lib.hid hu4
     clear hu4
     refine GoT.one (i:=11) (o:=⟨some 72,_,_,_,_,_⟩) rfl (by kernel_rfl) fun K hK=>?_
     go_simp
     go_at_call 47
     (with_reducible refine (HDX.out _).mono ?_)
     rintro e w' ⟨rfl,rfl⟩
     refine hK.out _ _ (fun _ h=>?_) ?_
     ·exact h
     clear hK K
     try simp only [Act.put,sA,sZ,sS]
     refine GoT.one (i:=12) (o:=⟨some 73,_,_,_,_,_⟩) rfl (by kernel_rfl) fun K hK=>?_
     go_simp
     go_at_call 45
     (with_reducible refine (HMUL.out _).mono ?_)
     rintro e w5 ⟨rfl,hu5⟩
     refine hK.out _ _ (fun _ h=>?_) ?_
     ·exact keep4 h hu5
     clear hK K
     try simp only [Act.put,sA,sZ,sS]
     have HU5:=Lib.hid (HU4.out.trans hu5)
     clear hu5
     refine GoT.one (i:=13) (o:=⟨some 74,_,_,_,_,_⟩) rfl (by kernel_rfl) fun K hK=>?_
     go_simp
     go_at_call 44
     (with_reducible refine (HADD.out _).mono ?_)
     rintro e w6 ⟨rfl,hu6⟩
     refine hK.out _ _ (fun h=>(by cases h)) ?_
     clear hK K
     try simp only [Act.put,sA,sZ,sS]
     have HU6:=Lib.hid (HU5.out.trans hu6)
     have hsm:=HSM.out.upd0 HU6.out
     obtain ⟨z0,z1,zf⟩:=hsm.cells
     have zf0:=zf 0
     have zf1:=zf 1
     have HS6:=Lib.hid hsm
     clear hu6 zf hsm
     refine' GoT.mv (i:=14) (oi:=⟨some 60,_,_,_,_,_⟩) rfl (by rfl) ?y16_14b ?_
     case y16_14b=>intro w;go_simp<;>with_reducible rfl
     simp only [Act.put,sA,sZ,sS]
     refine' GoT.mv (i:=15) (oi:=⟨some 75,_,_,_,_,_⟩) rfl (by rfl) ?y16_15b ?_
     case y16_15b=>intro w;go_simp<;>with_reducible rfl
     simp only [Act.put,sA,sZ,sS]
     refine' GoT.mv (i:=16) (oi:=⟨some 76,_,_,_,_,_⟩) rfl (by rfl) ?y16_16b ?_
     case y16_16b=>intro w;go_simp<;>with_reducible rfl
     simp only [Act.put,sA,sZ,sS]
     refine GoT.one (i:=17) (o:=⟨none,_,_,_,_,_⟩) rfl (by kernel_rfl) fun K hK=>?_
     go_simp
     refine hK.out _ _ (fun h=>(by cases h)) ?_
     clear hK K
     try simp only [Act.put,sA,sZ,sS]
     refine GoT.done (by kernel_rfl) ?_
     clear wk kn kp
     have HSN2:=Lib.hid (HS6.out.set HNEW.out.1.symm HNEW.out.2.symm)
     have hpu:Upd [p] w6 ((w6.setCell ⟨p,0,none⟩ (.int .u64 h2)).setCell ⟨p,1,none⟩ (.int .u64 lo2)):=((Upd.refl _ _).setCell (.inl (by simp)) _).setCell (.inl (by simp)) _
     have HUN:=Lib.hid (show Upd [] W1 ((w6.setCell ⟨p,0,none⟩ (.int .u64 h2)).setCell ⟨p,1,none⟩ (.int .u64 lo2)) from (HUd.out.trans HU6.out).trans' hpu (fun y hy=>.inr (by simp at hy;subst hy;exact HP.out.1)))
     have HCN:=Lib.hid ((HCd.out.upd0 HU6.out).upd hpu (fun y hy hm=>by simp at hm;have:=HP.out.2 y hy;omega))
     clear z0 z1 zf0 zf1 hpu
     go_wp2_with fail
     go_roundg (n - (k+1))
     case measure=>have:=HK.out;omega
     case rel=>exact ⟨k+1,N',by have:=HK.out;omega,hNk,by have:=HK.out;omega,by rw [HEN.out,Int.natCast_add],by go_num,HSN2.out,HCN.out,HUN.out⟩
  ·have hk0:n=0∧k=0:=by omega
   obtain ⟨rfl,rfl⟩:=hk0
   have htot:=HTOT.out T HT.out.2.1 HT.out.2.2
   rw [HNL.out.1] at htot
   have hsz:SumAt wr p AA.toNat:=by
    have e:AA.toNat=sumK (addT Y T) 0:=by
     have:(sumK (addT Y T) (0 - 1):Int)=0:=rfl
     rw [this] at htot;rw [←htot];rfl
    rw [e];exact hsum
   have hez:sweepE Y (T.take 0)=sweepE Y U:=by
    rw [←sweepE_perm HT.out.2.1]
    have:T = []:=List.eq_nil_of_length_eq_zero HNL.out.1
    rw [this];rfl
   rw [hez]
   have hud:=hu
   clear hsum hez htot hc hu hk hN hkn hlt
   obtain ⟨s0,s1,-⟩:=hsz.cells
   have h2:=(hud.block w.heap.size (lt_of_block HW1.out.2) (by simp)).trans HW1.out.2
   have r0:wr.cell? ⟨w.heap.size,0,none⟩=some (.int .u64 0):=by simp [World.cell?,h2]
   have r1:wr.cell? ⟨w.heap.size,1,none⟩=some (.int .u64 0):=by simp [World.cell?,h2]
   have f0:wr.frozen? ⟨w.heap.size,0,none⟩=false:=by simp [World.frozen?,h2]
   have f1:wr.frozen? ⟨w.heap.size,1,none⟩=false:=by simp [World.frozen?,h2]
   obtain ⟨h,hh⟩:∃h,AA.toNat / 18446744073709551616=h:=⟨_,rfl⟩
   obtain ⟨lo,hlo⟩:∃lo,AA.toNat % 18446744073709551616=lo:=⟨_,rfl⟩
   have hv:wideV AA.toNat=.agg #[.int .u64 (h:Int),.int .u64 (lo:Int)]:=by unfold wideV;rw [hh,hlo]
   have hz:SumAt wr w.heap.size 0:=h2
   have hfin:=hz.set hh.symm hlo.symm
   rw [hh] at s0
   rw [hlo] at s1
   have HFIN:=Lib.hid hfin
   have HV:=Lib.hid (And.intro hv (And.intro hh hlo))
   have HUE:=Lib.hid (show Upd [] w ((wr.setCell ⟨w.heap.size,0,none⟩ (.int .u64 (h:Int))).setCell ⟨w.heap.size,1,none⟩ (.int .u64 (lo:Int))) from (((HW1.out.1.trans hud).setCell (.inr (Nat.le_refl _)) _).setCell (.inr (Nat.le_refl _)) _))
   obtain ⟨EE,hEE⟩:∃EE:Nat,sweepE Y U=EE:=⟨_,rfl⟩
   rw [hEE]
   have HEE:=Lib.hid hEE
   clear hh hlo h2 hsz hud hv hz hfin hEE
   go_wp2_with fail
   obtain ⟨e0,e1,-⟩:=HFIN.out.cells
   rw [HV.out.2.1] at e0
   rw [HV.out.2.2] at e1
   try rw [Exit.noGoto_ret]
   exact bodyPost_ret (v:=.tuple #[.agg #[.int .u64 (h:Int),.int .u64 (lo:Int)],.int .i64 (EE:Int)]) (by simp [results,Tryz.results21,go_sem,e0,e1]) rfl ⟨by rw [HV.out.1,HEE.out],HUE.out⟩
end Go.Proofs.YtkmnbodlciepaaaGreat
namespace Go.Proofs.YtkmnbodlciepaaaGreat
theorem wideV_open (n:Nat):∃h lo:Nat,wideV n=.agg #[.int .u64 (h:Int),.int .u64 (lo:Int)]∧h=n / 18446744073709551616∧lo=n % 18446744073709551616:=⟨_,_,rfl,rfl,rfl⟩
end Go.Proofs.YtkmnbodlciepaaaGreat
