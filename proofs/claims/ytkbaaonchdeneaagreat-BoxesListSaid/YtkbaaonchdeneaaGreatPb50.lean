/- area.Area: the walk. A number of 128 bits, opened. -/
import Derived.Test.YtkbaaonchdeneaaGreatPb46
set_option maxHeartbeats 8000000
set_option maxRecDepth 100000
namespace Go.Proofs.YtkbaaonchdeneaaGreat
open Go.RowKit
theorem MF {w w':World} {a1 a2 a3 a4:Addr} {v1 v2 v3 v4:Value} (h:w.cell? a1=some v1∧w.cell? a2=some v2∧w.cell? a3=some v3∧w.cell? a4=some v4) (hu:Bf [] w w') :
 w'.cell? a1=some v1∧w'.cell? a2=some v2∧w'.cell? a3=some v3∧w'.cell? a4=some v4:=by
 have e:∀{a:Addr} {v:Value},w.cell? a=some v→w'.cell? a=some v:=fun {a v} ha=>(hu.cell (World.block_lt_of_cell? w _ ha) (by simp)).trans ha
 exact ⟨e h.1,e h.2.1,e h.2.2.1,e h.2.2.2⟩
def X9 (l:List Bx):Nat:=BQ (Dv (BG l)) (BF l)
def I8 (l:List Bx) (w:World) (e:Ending) (w':World):Prop:=
 e=.returned (.tuple #[ED (BZ l).toNat,.int .i64 (X9 l:Int)])∧Bf [] w w'
theorem QU (v:Value) (l:List Bx) (w:World) (hs:See G5 w v l) (hl:l.length<100000) (hb:∀b∈l,b.BO) :
 Calls Tryz.prog 43 #[v] w (I8 l w):=by
 obtain ⟨A,C,rfl⟩:=hs.form;unfold I8;have hu0:Bf [] w (w.alloc (.cells #[.int .u64 0,.int .u64 0] 52)):=(Bf.refl _ _).alloc _;have htc:=a3Q (.slice A l.length C) l _ (hs.Bh hu0) (by omega);have hM:=Gn hb hl;have hpart:=fun T hp hs k hk=>kM (T:=T) hb hl hp hs (k:=k) hk
 have htot:=fun T hp hs=>X4 (T:=T) hb hl hp hs
 have hok:=fun T hp=>okT (l:=l) (T:=T) hp
 have hse:=fun T hp hs k t ht=>fP (l:=l) (T:=T) hp hs (k:=k) (t:=t) ht
 have htl:=Ea l
 have a5j:∀t∈BF l,-9223372036854775808≤t.x∧t.x≤9223372036854775807:=by
  intro t ht;have hx:=(Gi t.x).1 (List.mem_map.2 ⟨t,ht,rfl⟩);unfold Eu at hx;obtain ⟨b,h1,h2⟩:=List.mem_flatMap.1 hx;have h3:=hb b (List.mem_filter.1 h1).1;unfold Bx.BO at h3;simp at h2;rcases h2 with h2 | h2<;>rw [h2]
  ·exact h3.1
  ·exact h3.2.1
 have hE:X9 l=BQ (Dv (BG l)) (BF l):=rfl;have hEl:=Jo (Dv (BG l)) hM.len (BF l);unfold UM at htc;rw [hE];obtain ⟨Y,hY⟩:=AO (Dv (BG l));obtain ⟨U,hU⟩:=AO (BF l);obtain ⟨AA,hAA⟩:=AO (BZ l);rw [hY] at htc hM hpart htot hok hse hEl ⊢;rw [hU] at htc hpart htot hok hse htl a5j hEl ⊢;rw [hAA] at htot ⊢;have h20:(w.alloc (.cells #[.int .u64 0,.int .u64 0] 52)).heap[w.heap.size]? = some (.cells #[.int .u64 0,.int .u64 0] 52 (0,0)):=heap_alloc_new _ _;have HTC:=AQ htc;have HM:=AQ hM;have ET:=AQ hu0;have H20:=AQ h20;have Om:=Ai (show U.length<200000 by omega) hEl;have a2n:=AQ hpart;have Si:=AQ htot;have HOK:=AQ hok;have tK:=AQ hse;have a8p:=AQ a5j;clear hs hl hb hu0 htc hM hpart htot hok hse htl a5j hEl hY hU hAA h20 hE;go_enter Tryz.func43,Tryz.ntmps43
 go_wp2_with fail
 go_step3
 go_wp2_with fail
 (with_reducible refine HTC.out.mono ?_);rintro e W1 ⟨A1,C1,A2,C2,T,rfl,sT,pT,oT,sM,hu1⟩;have hTl:T.length=U.length:=pT.length_eq;obtain ⟨n,hn⟩:=AO U.length;have hsT:See KT W1 (.slice A1 n C1) T:=by rw [←hn];exact sT
 rw [hn] at hTl ⊢;have hnb:(n:Int)<200000:=Ac Om.1;have hnw:=newC (.slice A2 Y.length C2) Y W1 sM HM.out;unfold XY at hnw;have HNW:=AQ hnw;have HT:=Aj hsT pT oT;have O6:=Ai hTl hn;have h2:=(hu1.block w.heap.size (lt_of_block H20.out) (by simp)).trans H20.out;have HW1:=Ai (ET.out.trans hu1) h2;clear sT pT oT sM hu1 hTl hn hsT hnw h2;go_wp2_with fail
 (with_reducible refine HNW.out.mono ?_);rintro e W2 ⟨b,F,rfl,hc0,hu2,hF⟩;have hs0:Dy (W2.alloc (.cells #[.int .u64 0,.int .u64 0] 52)) W2.heap.size 0:=heap_alloc_new _ _;have FM:Bf [] W2 (W2.alloc (.cells #[.int .u64 0,.int .u64 0] 52)):=(Bf.refl _ _).alloc _;have HF:=Ai hF hc0.lt;obtain ⟨p,hp⟩:=AO W2.heap.size;rw [hp] at hs0;have HS0:=Aj hs0 (hc0.Bh FM) (hu2.trans FM);have HP:=AQ (show W1.heap.size≤p∧(∀y∈F,y<p) from ⟨by rw [←hp];exact hu2.size,fun y hy=>by rw [←hp];exact HF.2 y hy⟩);clear hs0 FM hc0 hu2 hF;go_upto_region 6 with fail
 clear hp;generalize W2.alloc (.cells #[.int .u64 0,.int .u64 0] 52)=W0 at HS0 ⊢;go_wp2_with fail
 go_step3
 go_wp2_with fail
 go_loopg [9,30] n (fun m s9 s30 wr=>∃k N,m+k=n∧N≤k∧(k<n∨n=0)∧s9=.int .i64 (BQ Y (T.take k):Int)∧s30=.int .i64 (k:Int)∧Dy wr p (DV (Ld Y T) k)∧Ej wr b F Y (sw Y (T.take k)) N∧Bf [] W1 wr)
 case atStart=>exact ⟨0,0,by omega,Nat.le_refl _,by omega,rfl,rfl,HS0.1,HS0.2.1,HS0.2.2⟩
 case round=>
  obtain ⟨k,N,hk,hN,hkn,rfl,rfl,hsum,hc,hu⟩:=hrel;have b0:(0:Int)≤(k:Int):=AU _;by_cases hlt:k<n
  ·have b1:(k:Int)<(n:Int):=by omega
   obtain ⟨t,ht⟩:∃t,T[k]? = some t:=⟨_,AX (Ac O6.1)⟩;obtain ⟨gt,ot,hA1,l0,l1,l2,l3,l4,l5,l6⟩:=KT.at (HT.1.Bh hu) ht;have hsn:sw Y (T.take (k+1))=stepT Y (sw Y (T.take k)) t:=by rw [show T.take (k+1)=T.take k++[t] by rw [List.take_add_one,ht];rfl,aC]
   have hen:=fQ Y ht;have hse:=tK.out T HT.2.1 HT.2.2 k t ht
   have hEk:BQ Y (T.take (k+1))≤BQ Y U:=by
    rw [←G9 HT.2.1]
    have:BQ Y T=BQ Y (T.take (k+1))+BQ Y (T.drop (k+1)):=by
     unfold BQ;rw [←List.sum_append_nat,←List.map_append,List.take_append_drop]
    omega
   have hHl:=zy Y (T.take k);have hxt:=a8p.out t (HT.2.1.mem_iff.1 (List.mem_of_getElem? ht))
   have hxu:∀u,T[k+1]? = some u→(-9223372036854775808≤u.x∧u.x≤9223372036854775807)∧t.x≤u.x∧Ld Y T k=(NJ Y T k).toNat*(u.x - t.x).toNat:=by
    intro u hu;have htu:=(Ko HT.2.2 ht).2 u (List.mem_of_getElem? (i:=1) (by rw [List.getElem?_drop];exact hu));refine ⟨a8p.out u (HT.2.1.mem_iff.1 (List.mem_of_getElem? hu)),htu,?_⟩
    unfold Ld;have et:mf (T.map Tn.x) k=t.x:=by unfold mf;rw [List.getElem?_map,ht];rfl
    have eu:mf (T.map Tn.x) (k+1)=u.x:=by unfold mf;rw [List.getElem?_map,hu];rfl
    rw [et,eu]
   have hlg:0≤NJ Y T k∧NJ Y T k<18446744073709551616:=VJ HM.out T k;have hlo:(G8 Y (sw Y (T.take (k+1)))).long=NJ Y T k:=rfl
   have a5k:(sw Y (T.take k)).length≤1000000:=by
    rw [Ba] at hHl;have:=Om.1;have:=O6.1;have:=O6.2;omega
   obtain ⟨E,hE⟩:=AO (BQ Y (T.take k));obtain ⟨K,hK⟩:=AO (La (Ut Y t) (Y.length - 1));rw [hE,hK] at hen;rw [hK] at hse;rw [hE];have qw:(E:Int)+(K:Int)<100000000:=Ad Om.2 Om.1;have e0:(0:Int)≤(E:Int):=AU _;have k0:(0:Int)≤(K:Int):=AU _;obtain ⟨H,hH⟩:=AO (sw Y (T.take k));rw [hH] at hc hsn hse a5k;rw [hsn] at hlo;obtain ⟨tx,⟨x1,x2,y1,y2,bi⟩,g⟩:=t;dsimp only at l0 l1 l2 l3 l4 l5 l6 hxt hxu;subst hA1;have FM:Bf [] wr (wr.alloc (.cells #[.int .i64 tx,.int .i64 x1,.int .i64 x2,.int .i64 y1,.int .i64 y2,.int .u32 (bi:Int),.bool g] 139)):=(Bf.refl _ _).alloc _;have hbx:(wr.alloc (.cells #[.int .i64 tx,.int .i64 x1,.int .i64 x2,.int .i64 y1,.int .i64 y2,.int .u32 (bi:Int),.bool g] 139)).heap[wr.heap.size]? = some (.cells #[.int .i64 tx,.int .i64 x1,.int .i64 x2,.int .i64 y1,.int .i64 y2,.int .u32 (bi:Int),.bool g] 139 (0,0)):=heap_alloc_new _ _;have Gl:=AQ FM;have EH:=AQ hbx;have a8q:=AQ hsum;have HC:=AQ hc;have HU:=AQ hu;have HK:=Aj hk hN hlt;have HSN:=AQ hsn;have HEN:=AQ hen;have b1O:=AQ hse;have HXT:=AQ hxt;have HXU:=AQ hxu;have HLG:=Ai hlg hlo;have HHL:=AQ a5k;clear FM hbx hsum hc hu hk hN hkn hsn hen hse hEk hHl hxt hxu hlg hlo a5k hE hK hH ht;clear hlt;go_upto_region 10 with fail
   have OW:=AQ (show (∀y∈F,y<wr.heap.size)∧p<wr.heap.size from ⟨HC.out.lt,a8q.out.lt⟩);have HCa:=AQ (HC.out.Bh Gl.out);have HSa:=AQ (a8q.out.Bh Gl.out);have HUa:=AQ (HU.out.trans Gl.out);generalize (wr.alloc (.cells #[.int .i64 tx,.int .i64 x1,.int .i64 x2,.int .i64 y1,.int .i64 y2,.int .u32 (bi:Int),.bool g] 139))=Wb at EH HCa HSa HUa Gl ⊢;generalize wr.heap.size=q at EH OW ⊢;have c3:Wb.cell? ⟨q,3,none⟩=some (.int .i64 y1):=by have:=EH.out;simp [World.cell?,this]
   have c4:Wb.cell? ⟨q,4,none⟩=some (.int .i64 y2):=by have:=EH.out;simp [World.cell?,this]
   have c6:Wb.cell? ⟨q,6,none⟩=some (.bool g):=by have:=EH.out;simp [World.cell?,this]
   have hstep:Calls Tryz.prog (bif g then 95 else 94) #[.pointer (some ⟨b,0,none⟩),.int .i64 y1,.int .i64 y2] Wb (fun e w'=>∃X,e=.returned (.tuple #[.int .i64 (K:Int),.int .i64 X])∧(∃N',N'≤k+1∧Ej w' b F Y (sw Y (T.take (k+1))) N')∧Bf F Wb w'):=by
    have hkk:=HK.out;have hnn:=Om.1;have h1:=HSN.out;have h2:=b1O.out
    cases g
    ·refine (a8g b F Y H N Wb y1 y2 HCa.out HM.out (Ac O6.2) HHL.out).mono ?_
     rintro e w' ⟨rfl,⟨N',hN',hc'⟩,hu'⟩;refine ⟨su Y y1 y2,?_,⟨N',by omega,?_⟩,hu'⟩
     ·rw [←h2];rfl
     ·rw [h1];exact hc'
    ·refine (a2k b F Y H N Wb y1 y2 HCa.out HM.out (Ac O6.2) HHL.out).mono ?_
     rintro e w' ⟨rfl,⟨N',hN',hc'⟩,hu'⟩;refine ⟨VF Y H y1 y2,?_,⟨N',by omega,?_⟩,hu'⟩
     ·rw [←h2];rfl
     ·rw [h1];exact hc'
   have HST:=AQ hstep;clear hstep
   cases g
   ·have hb3:=HST.out;simp only [cond_false] at hb3;have HB:=AQ hb3;clear hb3;go_wp2_with fail
    (with_reducible refine HB.out.mono ?_);rintro e w3 ⟨X,rfl,⟨N',hNk,hc3⟩,hu3⟩;clear c3 c4 c6;have hq:=(hu3.block q (lt_of_block EH.out) (fun h=>Nat.lt_irrefl _ (OW.1 q h))).trans EH.out;have hs3:=HSa.out.upd hu3 (fun h=>Nat.lt_irrefl _ (HP.2 p h));have hw3:Bf [] W1 w3:=HUa.out.trans' hu3 (fun y hy=>.inr (HF.1 y hy));by_cases hend:k+1=n
    ·have hd:((k:Int)+1==(n:Int))=true:=by rw [beq_iff_eq];omega
     have hd2:decide ((k:Int)+1=(n:Int))=true:=decide_eq_true (by omega);have hTk:T.take (k+1)=T:=List.take_of_length_le (Ac O6.1);have htot:=Si.out T HT.2.1 HT.2.2;rw [O6.1,←hend,Nat.add_sub_cancel] at htot
     have hsz:Dy w3 p AA.toNat:=by
      have e:AA.toNat=DV (Ld Y T) k:=by omega
      rw [e];exact hs3
     have hee:(E:Int)+(K:Int)=(BQ Y U:Int):=by
      have:=HEN.out;rw [hTk,G9 HT.2.1] at this;omega
     have hud:=hw3;obtain ⟨EE,hEE⟩:∃EE:Nat,BQ Y U=EE:=⟨_,rfl⟩;rw [hEE] at hee;have hw:IntKind.i64.wrap ((E:Int)+(K:Int))=(EE:Int):=by rw [IntWalk.i64_in _ ⟨by omega,by omega⟩,hee]
     clear hs3 hw3 hc3 hu3 hq htot hTk hend hee hNk qw e0 k0;obtain ⟨s0,s1,-⟩:=hsz.cells;have h2:=(hud.block w.heap.size (lt_of_block HW1.2) (by simp)).trans HW1.2;have r0:w3.cell? ⟨w.heap.size,0,none⟩=some (.int .u64 0):=by simp [World.cell?,h2]
     have r1:w3.cell? ⟨w.heap.size,1,none⟩=some (.int .u64 0):=by simp [World.cell?,h2]
     have f0:w3.frozen? ⟨w.heap.size,0,none⟩=false:=by simp [World.frozen?,h2]
     have f1:w3.frozen? ⟨w.heap.size,1,none⟩=false:=by simp [World.frozen?,h2]
     obtain ⟨h,hh⟩:=AO (AA.toNat / 18446744073709551616);obtain ⟨lo,hlo⟩:=AO (AA.toNat % 18446744073709551616);have hv:ED AA.toNat=.agg #[.int .u64 (h:Int),.int .u64 (lo:Int)]:=by unfold ED;rw [hh,hlo]
     have hz:Dy w3 w.heap.size 0:=h2;have hfin:=hz.set hh.symm hlo.symm;rw [hh] at s0;rw [hlo] at s1;have Gv:=AQ hfin;have HV:=Aj hv hh hlo;have Yy:=AQ (show Bf [] w ((w3.setCell ⟨w.heap.size,0,none⟩ (.int .u64 (h:Int))).setCell ⟨w.heap.size,1,none⟩ (.int .u64 (lo:Int))) from (((HW1.1.trans hud).setCell (.inr (Nat.le_refl _)) _).setCell (.inr (Nat.le_refl _)) _));have HEE:=AQ hEE;clear hh hlo h2 hsz hud hv hz hfin hEE;go_wp2_with fail
     obtain ⟨e0,e1,-⟩:=Gv.out.cells;rw [HV.2.1] at e0;rw [HV.2.2] at e1;try rw [Exit.noGoto_ret]
     exact bodyPost_ret (v:=.tuple #[.agg #[.int .u64 (h:Int),.int .u64 (lo:Int)],.int .i64 (EE:Int)]) (by simp [results,Tryz.results43,go_sem,e0,e1]) rfl ⟨by rw [HV.1,HEE.out],Yy.out⟩
    ·have hd:((k:Int)+1==(n:Int))=false:=by rw [beq_eq_false_iff_ne];omega
     have hd2:decide ((k:Int)+1=(n:Int))=false:=decide_eq_false (by omega);have hkl:=HK.2.2;obtain ⟨u,hu⟩:∃u,T[k+1]? = some u:=⟨_,AX (Ac O6.1)⟩;obtain ⟨gt',ot',a5l,l0',-⟩:=KT.at (HT.1.Bh hw3) hu
     cases a5l
     obtain ⟨kP,hxm,hadd⟩:=HXU.out u hu;have hbd:=a2n.out T HT.2.1 HT.2.2 (k+1) (Ac O6.1);obtain ⟨ux,SE⟩:=AO u.x;rw [SE] at l0' kP hxm hadd;have hss:DV (Ld Y T) (k+1)=DV (Ld Y T) k+Ld Y T k:=rfl;rw [hss,hadd] at hbd;rw [hadd] at hss;have x64:=HXT.out;have kQ:=fun w=>nG tx ux w x64 kP
     obtain ⟨dx,hdx⟩:∃d:Nat,(ux - tx).toNat=d:=⟨_,rfl⟩;obtain ⟨LG,sH⟩:∃d:Nat,(NJ Y T k).toNat=d:=⟨_,rfl⟩;rw [hdx,sH] at hss hbd;rw [show PV tx ux=(dx:Int) by unfold PV;split<;>omega] at kQ;have hlg:=HLG.out;have hml:=fun w=>nT LG dx (by omega) (by omega) w
     obtain ⟨M,hMM⟩:=AO (LG*dx);obtain ⟨Q,hQQ⟩:=AO (DV (Ld Y T) k);rw [hMM,hQQ] at hss hbd;simp only [hMM] at hml;rw [hQQ] at hs3;have had:=fun w=>fK Q M hbd w
     obtain ⟨h,hh⟩:=AO (Q / 18446744073709551616);obtain ⟨lo,hlo⟩:=AO (Q % 18446744073709551616);obtain ⟨h2,hh2⟩:∃h,(Q+M) / 18446744073709551616=h:=⟨_,rfl⟩;obtain ⟨lo2,hlo2⟩:∃lo,(Q+M) % 18446744073709551616=lo:=⟨_,rfl⟩;obtain ⟨mh,zC⟩:∃h,M / 18446744073709551616=h:=⟨_,rfl⟩;obtain ⟨ml,Ya⟩:∃lo,M % 18446744073709551616=lo:=⟨_,rfl⟩;unfold ED at had hml;simp only [hh,hlo,hh2,hlo2,zC,Ya] at had hml;obtain ⟨s0,s1,-⟩:=hs3.cells;rw [hh] at s0;rw [hlo] at s1;have d0:w3.cell? ⟨q,0,none⟩=some (.int .i64 tx):=by simp [World.cell?,hq]
     have hlong:∀w',w'=w3.drew→Calls Tryz.prog 97 #[.pointer (some ⟨b,0,none⟩)] w' fun e w2=>e=.returned (.int .u64 (LG:Int))∧Bf [] w' w2:=by
      rintro w' rfl;have h1:=a2l b F Y _ N' w3.drew (hc3.Bh (Bf.refl _ _).drew);rw [HSN.out,hlg.2] at h1;rw [show NJ Y T k=(LG:Int) by omega] at h1;exact h1
     have Yb:=AQ hlong;have Sv:=Ai (show (DV (Ld Y T) (k+1)) / 18446744073709551616=h2 by rw [hss,hh2]) (show (DV (Ld Y T) (k+1)) % 18446744073709551616=lo2 by rw [hss,hlo2]);have HDX:=AQ kQ;have kR:=AQ hml;have Z4:=AQ had;have i2:(k:Int)+1<(n:Int):=by omega
     have Gj:=AQ hw3;have wK:=AQ hs3;have Xp:=AQ hc3;have Vz:=Ap s0 s1 d0 l0';have qC:=AQ hend;have hw:IntKind.i64.wrap ((E:Int)+(K:Int))=((E+K:Nat):Int):=by rw [IntWalk.i64_in _ ⟨by omega,by omega⟩];omega
     clear hu hkl kP hxm hadd hbd hss x64 kQ hdx sH hlg hml hMM hQQ had hh hlo hh2 hlo2 zC Ya s0 s1 d0 l0' hlong hend hw3 hs3 hc3 hu3 hq SE qw e0 k0;go_upto_region 16 with fail
     clear hw hd hd2;obtain ⟨Wd,hWd⟩:∃Wd,Wd=w3.drew:=⟨_,rfl⟩;have a5m:=AQ (MF Vz.out (show Bf [] w3 Wd by rw [hWd];exact (Bf.refl _ _).drew));have HUd:=AQ (show Bf [] W1 Wd by rw [hWd];exact Gj.out.drew);have HSM:=AQ (show Dy Wd p Q by rw [hWd];exact wK.out);have zD:=AQ (show Ej Wd b F Y (sw Y (T.take (k+1))) N' by rw [hWd];exact Xp.out.Bh (Bf.refl _ _).drew);have zF:=AQ (Yb.out Wd hWd);clear Vz Gj wK Xp Yb;have kp:(0:Int)≤(k:Int)+1:=by omega
     have kn:((k:Int)+1).toNat=k+1:=by omega
     have wk:IntKind.i64.wrap ((k:Int)+1)=(k:Int)+1:=IntWalk.i64_in _ ⟨by omega,by omega⟩;refine Bj.start [13,14,15,16,17] (fun w'=>w'.cell? ⟨p,0,none⟩=some (.int .u64 h)∧w'.cell? ⟨p,1,none⟩=some (.int .u64 lo)∧w'.cell? ⟨q,0,none⟩=some (.int .i64 tx)∧w'.cell? ⟨gt,ot+(k+1)*7,none⟩=some (.int .i64 ux)) (by kernel_rfl) ?_ fun hS=>?_
     ·exact by rw [←hWd];exact a5m.out
     rw [←hWd] at hS ⊢;clear hWd;refine' Bj.tl 5 0 (oi:=⟨some 61,_,_,_,_,_⟩) ?_
     simp only [Act.put,sA,sZ,sS];refine' Bj.mw 1 (oi:=⟨some 62,_,_,_,_,_⟩) ?_
     simp only [Act.put,sA,sZ,sS];refine' Bj.mw 3 (oi:=⟨some 64,_,_,_,_,_⟩) ?_
     simp only [Act.put,sA,sZ,sS];refine' Bj.tl 5 4 (oi:=⟨some 65,_,_,_,_,_⟩) ?_
     simp only [Act.put,sA,sZ,sS];refine' Bj.mw 5 (oi:=⟨some 66,_,_,_,_,_⟩) ?_
     simp only [Act.put,sA,sZ,sS];refine' Bj.mw 6 (oi:=⟨some 67,_,_,_,_,_⟩) ?_
     simp only [Act.put,sA,sZ,sS];refine' Bj.mw 7 (oi:=⟨some 68,_,_,_,_,_⟩) ?_
     simp only [Act.put,sA,sZ,sS];refine' Bj.mw 8 (oi:=⟨some 69,_,_,_,_,_⟩) ?_
     simp only [Act.put,sA,sZ,sS];refine' Bj.mw 9 (oi:=⟨some 70,_,_,_,_,_⟩) ?_
     simp only [Act.put,sA,sZ,sS];refine' Bj.tl 5 10 (oi:=⟨some 71,_,_,_,_,_⟩) ?_
     simp only [Act.put,sA,sZ,sS];refine Bj.one (i:=2) (o:=⟨some 63,_,_,_,_,_⟩) rfl (by kernel_rfl) fun K hK=>?_
     go_simp
     go_at_call 97
     (with_reducible refine zF.out.mono ?_);rintro e w4 ⟨rfl,Gt⟩;refine hK.out _ _ (fun _ h=>?_) ?_
     ·exact MF h Gt
     clear hK K;try simp only [Act.put,sA,sZ,sS]
     have Zu:=AQ Gt;clear Gt;refine Bj.one (i:=11) (o:=⟨some 72,_,_,_,_,_⟩) rfl (by kernel_rfl) fun K hK=>?_
     go_simp
     go_at_call 98
     (with_reducible refine (HDX.out _).mono ?_);rintro e w' ⟨rfl,rfl⟩;refine hK.out _ _ (fun _ h=>?_) ?_
     ·exact h
     clear hK K;try simp only [Act.put,sA,sZ,sS]
     refine Bj.one (i:=12) (o:=⟨some 73,_,_,_,_,_⟩) rfl (by kernel_rfl) fun K hK=>?_
     go_simp
     go_at_call 96
     (with_reducible refine (kR.out _).mono ?_);rintro e w5 ⟨rfl,GR⟩;refine hK.out _ _ (fun _ h=>?_) ?_
     ·exact MF h GR
     clear hK K;try simp only [Act.put,sA,sZ,sS]
     have LJ:=AQ (Zu.out.trans GR);clear GR;refine Bj.one (i:=13) (o:=⟨some 74,_,_,_,_,_⟩) rfl (by kernel_rfl) fun K hK=>?_
     go_simp
     go_at_call 44
     (with_reducible refine (Z4.out _).mono ?_);rintro e w6 ⟨rfl,Ol⟩;refine hK.out _ _ (fun h=>(by cases h)) ?_
     clear hK K;try simp only [Act.put,sA,sZ,sS]
     have Jv:=AQ (LJ.out.trans Ol);have hsm:=HSM.out.Bh Jv.out;obtain ⟨z0,z1,zf⟩:=hsm.cells;have zf0:=zf 0;have zf1:=zf 1;have xQ:=AQ hsm;clear Ol zf hsm;refine' Bj.mw 14 (oi:=⟨some 60,_,_,_,_,_⟩) ?_
     simp only [Act.put,sA,sZ,sS];refine' Bj.mw 15 (oi:=⟨some 75,_,_,_,_,_⟩) ?_
     simp only [Act.put,sA,sZ,sS];refine' Bj.mw 16 (oi:=⟨some 76,_,_,_,_,_⟩) ?_
     simp only [Act.put,sA,sZ,sS];refine Bj.one (i:=17) (o:=⟨none,_,_,_,_,_⟩) rfl (by kernel_rfl) fun K hK=>?_
     go_simp
     refine hK.out _ _ (fun h=>(by cases h)) ?_
     clear hK K;try simp only [Act.put,sA,sZ,sS]
     refine Bj.done (by kernel_rfl) ?_
     clear wk kn kp;have aH:=AQ (xQ.out.set Sv.1.symm Sv.2.symm);have hpu:Bf [p] w6 ((w6.setCell ⟨p,0,none⟩ (.int .u64 h2)).setCell ⟨p,1,none⟩ (.int .u64 lo2)):=((Bf.refl _ _).setCell (.inl (by simp)) _).setCell (.inl (by simp)) _;have HUN:=AQ (show Bf [] W1 ((w6.setCell ⟨p,0,none⟩ (.int .u64 h2)).setCell ⟨p,1,none⟩ (.int .u64 lo2)) from (HUd.out.trans Jv.out).trans' hpu (fun y hy=>.inr (by simp at hy;subst hy;exact HP.1)));have HCN:=AQ ((zD.out.Bh Jv.out).upd hpu (fun y hy hm=>by simp at hm;have:=HP.2 y hy;omega));clear z0 z1 zf0 zf1 hpu;go_wp2_with fail
     go_roundg (n - (k+1))
     case measure=>have:=HK.out;omega
     case rel=>exact ⟨k+1,N',Ac HK,hNk,Ac HK,by rw [HEN.out,Int.natCast_add],by go_num,aH.out,HCN.out,HUN.out⟩
   ·have hb3:=HST.out;simp only [cond_true] at hb3;have HB:=AQ hb3;clear hb3;go_wp2_with fail
    (with_reducible refine HB.out.mono ?_);rintro e w3 ⟨X,rfl,⟨N',hNk,hc3⟩,hu3⟩;clear c3 c4 c6;have hq:=(hu3.block q (lt_of_block EH.out) (fun h=>Nat.lt_irrefl _ (OW.1 q h))).trans EH.out;have hs3:=HSa.out.upd hu3 (fun h=>Nat.lt_irrefl _ (HP.2 p h));have hw3:Bf [] W1 w3:=HUa.out.trans' hu3 (fun y hy=>.inr (HF.1 y hy));by_cases hend:k+1=n
    ·have hd:((k:Int)+1==(n:Int))=true:=by rw [beq_iff_eq];omega
     have hd2:decide ((k:Int)+1=(n:Int))=true:=decide_eq_true (by omega);have hTk:T.take (k+1)=T:=List.take_of_length_le (Ac O6.1);have htot:=Si.out T HT.2.1 HT.2.2;rw [O6.1,←hend,Nat.add_sub_cancel] at htot
     have hsz:Dy w3 p AA.toNat:=by
      have e:AA.toNat=DV (Ld Y T) k:=by omega
      rw [e];exact hs3
     have hee:(E:Int)+(K:Int)=(BQ Y U:Int):=by
      have:=HEN.out;rw [hTk,G9 HT.2.1] at this;omega
     have hud:=hw3;obtain ⟨EE,hEE⟩:∃EE:Nat,BQ Y U=EE:=⟨_,rfl⟩;rw [hEE] at hee;have hw:IntKind.i64.wrap ((E:Int)+(K:Int))=(EE:Int):=by rw [IntWalk.i64_in _ ⟨by omega,by omega⟩,hee]
     clear hs3 hw3 hc3 hu3 hq htot hTk hend hee hNk qw e0 k0;obtain ⟨s0,s1,-⟩:=hsz.cells;have h2:=(hud.block w.heap.size (lt_of_block HW1.2) (by simp)).trans HW1.2;have r0:w3.cell? ⟨w.heap.size,0,none⟩=some (.int .u64 0):=by simp [World.cell?,h2]
     have r1:w3.cell? ⟨w.heap.size,1,none⟩=some (.int .u64 0):=by simp [World.cell?,h2]
     have f0:w3.frozen? ⟨w.heap.size,0,none⟩=false:=by simp [World.frozen?,h2]
     have f1:w3.frozen? ⟨w.heap.size,1,none⟩=false:=by simp [World.frozen?,h2]
     obtain ⟨h,hh⟩:=AO (AA.toNat / 18446744073709551616);obtain ⟨lo,hlo⟩:=AO (AA.toNat % 18446744073709551616);have hv:ED AA.toNat=.agg #[.int .u64 (h:Int),.int .u64 (lo:Int)]:=by unfold ED;rw [hh,hlo]
     have hz:Dy w3 w.heap.size 0:=h2;have hfin:=hz.set hh.symm hlo.symm;rw [hh] at s0;rw [hlo] at s1;have Gv:=AQ hfin;have HV:=Aj hv hh hlo;have Yy:=AQ (show Bf [] w ((w3.setCell ⟨w.heap.size,0,none⟩ (.int .u64 (h:Int))).setCell ⟨w.heap.size,1,none⟩ (.int .u64 (lo:Int))) from (((HW1.1.trans hud).setCell (.inr (Nat.le_refl _)) _).setCell (.inr (Nat.le_refl _)) _));have HEE:=AQ hEE;clear hh hlo h2 hsz hud hv hz hfin hEE;go_wp2_with fail
     obtain ⟨e0,e1,-⟩:=Gv.out.cells;rw [HV.2.1] at e0;rw [HV.2.2] at e1;try rw [Exit.noGoto_ret]
     exact bodyPost_ret (v:=.tuple #[.agg #[.int .u64 (h:Int),.int .u64 (lo:Int)],.int .i64 (EE:Int)]) (by simp [results,Tryz.results43,go_sem,e0,e1]) rfl ⟨by rw [HV.1,HEE.out],Yy.out⟩
    ·have hd:((k:Int)+1==(n:Int))=false:=by rw [beq_eq_false_iff_ne];omega
     have hd2:decide ((k:Int)+1=(n:Int))=false:=decide_eq_false (by omega);have hkl:=HK.2.2;obtain ⟨u,hu⟩:∃u,T[k+1]? = some u:=⟨_,AX (Ac O6.1)⟩;obtain ⟨gt',ot',a5l,l0',-⟩:=KT.at (HT.1.Bh hw3) hu
     cases a5l
     obtain ⟨kP,hxm,hadd⟩:=HXU.out u hu;have hbd:=a2n.out T HT.2.1 HT.2.2 (k+1) (Ac O6.1);obtain ⟨ux,SE⟩:=AO u.x;rw [SE] at l0' kP hxm hadd;have hss:DV (Ld Y T) (k+1)=DV (Ld Y T) k+Ld Y T k:=rfl;rw [hss,hadd] at hbd;rw [hadd] at hss;have x64:=HXT.out;have kQ:=fun w=>nG tx ux w x64 kP
     obtain ⟨dx,hdx⟩:∃d:Nat,(ux - tx).toNat=d:=⟨_,rfl⟩;obtain ⟨LG,sH⟩:∃d:Nat,(NJ Y T k).toNat=d:=⟨_,rfl⟩;rw [hdx,sH] at hss hbd;rw [show PV tx ux=(dx:Int) by unfold PV;split<;>omega] at kQ;have hlg:=HLG.out;have hml:=fun w=>nT LG dx (by omega) (by omega) w
     obtain ⟨M,hMM⟩:=AO (LG*dx);obtain ⟨Q,hQQ⟩:=AO (DV (Ld Y T) k);rw [hMM,hQQ] at hss hbd;simp only [hMM] at hml;rw [hQQ] at hs3;have had:=fun w=>fK Q M hbd w
     obtain ⟨h,hh⟩:=AO (Q / 18446744073709551616);obtain ⟨lo,hlo⟩:=AO (Q % 18446744073709551616);obtain ⟨h2,hh2⟩:∃h,(Q+M) / 18446744073709551616=h:=⟨_,rfl⟩;obtain ⟨lo2,hlo2⟩:∃lo,(Q+M) % 18446744073709551616=lo:=⟨_,rfl⟩;obtain ⟨mh,zC⟩:∃h,M / 18446744073709551616=h:=⟨_,rfl⟩;obtain ⟨ml,Ya⟩:∃lo,M % 18446744073709551616=lo:=⟨_,rfl⟩;unfold ED at had hml;simp only [hh,hlo,hh2,hlo2,zC,Ya] at had hml;obtain ⟨s0,s1,-⟩:=hs3.cells;rw [hh] at s0;rw [hlo] at s1;have d0:w3.cell? ⟨q,0,none⟩=some (.int .i64 tx):=by simp [World.cell?,hq]
     have hlong:∀w',w'=w3.drew→Calls Tryz.prog 97 #[.pointer (some ⟨b,0,none⟩)] w' fun e w2=>e=.returned (.int .u64 (LG:Int))∧Bf [] w' w2:=by
      rintro w' rfl;have h1:=a2l b F Y _ N' w3.drew (hc3.Bh (Bf.refl _ _).drew);rw [HSN.out,hlg.2] at h1;rw [show NJ Y T k=(LG:Int) by omega] at h1;exact h1
     have Yb:=AQ hlong;have Sv:=Ai (show (DV (Ld Y T) (k+1)) / 18446744073709551616=h2 by rw [hss,hh2]) (show (DV (Ld Y T) (k+1)) % 18446744073709551616=lo2 by rw [hss,hlo2]);have HDX:=AQ kQ;have kR:=AQ hml;have Z4:=AQ had;have i2:(k:Int)+1<(n:Int):=by omega
     have Gj:=AQ hw3;have wK:=AQ hs3;have Xp:=AQ hc3;have Vz:=Ap s0 s1 d0 l0';have qC:=AQ hend;have hw:IntKind.i64.wrap ((E:Int)+(K:Int))=((E+K:Nat):Int):=by rw [IntWalk.i64_in _ ⟨by omega,by omega⟩];omega
     clear hu hkl kP hxm hadd hbd hss x64 kQ hdx sH hlg hml hMM hQQ had hh hlo hh2 hlo2 zC Ya s0 s1 d0 l0' hlong hend hw3 hs3 hc3 hu3 hq SE qw e0 k0;go_upto_region 16 with fail
     clear hw hd hd2;obtain ⟨Wd,hWd⟩:∃Wd,Wd=w3.drew:=⟨_,rfl⟩;have a5m:=AQ (MF Vz.out (show Bf [] w3 Wd by rw [hWd];exact (Bf.refl _ _).drew));have HUd:=AQ (show Bf [] W1 Wd by rw [hWd];exact Gj.out.drew);have HSM:=AQ (show Dy Wd p Q by rw [hWd];exact wK.out);have zD:=AQ (show Ej Wd b F Y (sw Y (T.take (k+1))) N' by rw [hWd];exact Xp.out.Bh (Bf.refl _ _).drew);have zF:=AQ (Yb.out Wd hWd);clear Vz Gj wK Xp Yb;have kp:(0:Int)≤(k:Int)+1:=by omega
     have kn:((k:Int)+1).toNat=k+1:=by omega
     have wk:IntKind.i64.wrap ((k:Int)+1)=(k:Int)+1:=IntWalk.i64_in _ ⟨by omega,by omega⟩;refine Bj.start [13,14,15,16,17] (fun w'=>w'.cell? ⟨p,0,none⟩=some (.int .u64 h)∧w'.cell? ⟨p,1,none⟩=some (.int .u64 lo)∧w'.cell? ⟨q,0,none⟩=some (.int .i64 tx)∧w'.cell? ⟨gt,ot+(k+1)*7,none⟩=some (.int .i64 ux)) (by kernel_rfl) ?_ fun hS=>?_
     ·exact by rw [←hWd];exact a5m.out
     rw [←hWd] at hS ⊢;clear hWd;refine' Bj.tl 5 0 (oi:=⟨some 61,_,_,_,_,_⟩) ?_
     simp only [Act.put,sA,sZ,sS];refine' Bj.mw 1 (oi:=⟨some 62,_,_,_,_,_⟩) ?_
     simp only [Act.put,sA,sZ,sS];refine' Bj.mw 3 (oi:=⟨some 64,_,_,_,_,_⟩) ?_
     simp only [Act.put,sA,sZ,sS];refine' Bj.tl 5 4 (oi:=⟨some 65,_,_,_,_,_⟩) ?_
     simp only [Act.put,sA,sZ,sS];refine' Bj.mw 5 (oi:=⟨some 66,_,_,_,_,_⟩) ?_
     simp only [Act.put,sA,sZ,sS];refine' Bj.mw 6 (oi:=⟨some 67,_,_,_,_,_⟩) ?_
     simp only [Act.put,sA,sZ,sS];refine' Bj.mw 7 (oi:=⟨some 68,_,_,_,_,_⟩) ?_
     simp only [Act.put,sA,sZ,sS];refine' Bj.mw 8 (oi:=⟨some 69,_,_,_,_,_⟩) ?_
     simp only [Act.put,sA,sZ,sS];refine' Bj.mw 9 (oi:=⟨some 70,_,_,_,_,_⟩) ?_
     simp only [Act.put,sA,sZ,sS];refine' Bj.tl 5 10 (oi:=⟨some 71,_,_,_,_,_⟩) ?_
     simp only [Act.put,sA,sZ,sS];refine Bj.one (i:=2) (o:=⟨some 63,_,_,_,_,_⟩) rfl (by kernel_rfl) fun K hK=>?_
     go_simp
     go_at_call 97
     (with_reducible refine zF.out.mono ?_);rintro e w4 ⟨rfl,Gt⟩;refine hK.out _ _ (fun _ h=>?_) ?_
     ·exact MF h Gt
     clear hK K;try simp only [Act.put,sA,sZ,sS]
     have Zu:=AQ Gt;clear Gt;refine Bj.one (i:=11) (o:=⟨some 72,_,_,_,_,_⟩) rfl (by kernel_rfl) fun K hK=>?_
     go_simp
     go_at_call 98
     (with_reducible refine (HDX.out _).mono ?_);rintro e w' ⟨rfl,rfl⟩;refine hK.out _ _ (fun _ h=>?_) ?_
     ·exact h
     clear hK K;try simp only [Act.put,sA,sZ,sS]
     refine Bj.one (i:=12) (o:=⟨some 73,_,_,_,_,_⟩) rfl (by kernel_rfl) fun K hK=>?_
     go_simp
     go_at_call 96
     (with_reducible refine (kR.out _).mono ?_);rintro e w5 ⟨rfl,GR⟩;refine hK.out _ _ (fun _ h=>?_) ?_
     ·exact MF h GR
     clear hK K;try simp only [Act.put,sA,sZ,sS]
     have LJ:=AQ (Zu.out.trans GR);clear GR;refine Bj.one (i:=13) (o:=⟨some 74,_,_,_,_,_⟩) rfl (by kernel_rfl) fun K hK=>?_
     go_simp
     go_at_call 44
     (with_reducible refine (Z4.out _).mono ?_);rintro e w6 ⟨rfl,Ol⟩;refine hK.out _ _ (fun h=>(by cases h)) ?_
     clear hK K;try simp only [Act.put,sA,sZ,sS]
     have Jv:=AQ (LJ.out.trans Ol);have hsm:=HSM.out.Bh Jv.out;obtain ⟨z0,z1,zf⟩:=hsm.cells;have zf0:=zf 0;have zf1:=zf 1;have xQ:=AQ hsm;clear Ol zf hsm;refine' Bj.mw 14 (oi:=⟨some 60,_,_,_,_,_⟩) ?_
     simp only [Act.put,sA,sZ,sS];refine' Bj.mw 15 (oi:=⟨some 75,_,_,_,_,_⟩) ?_
     simp only [Act.put,sA,sZ,sS];refine' Bj.mw 16 (oi:=⟨some 76,_,_,_,_,_⟩) ?_
     simp only [Act.put,sA,sZ,sS];refine Bj.one (i:=17) (o:=⟨none,_,_,_,_,_⟩) rfl (by kernel_rfl) fun K hK=>?_
     go_simp
     refine hK.out _ _ (fun h=>(by cases h)) ?_
     clear hK K;try simp only [Act.put,sA,sZ,sS]
     refine Bj.done (by kernel_rfl) ?_
     clear wk kn kp;have aH:=AQ (xQ.out.set Sv.1.symm Sv.2.symm);have hpu:Bf [p] w6 ((w6.setCell ⟨p,0,none⟩ (.int .u64 h2)).setCell ⟨p,1,none⟩ (.int .u64 lo2)):=((Bf.refl _ _).setCell (.inl (by simp)) _).setCell (.inl (by simp)) _;have HUN:=AQ (show Bf [] W1 ((w6.setCell ⟨p,0,none⟩ (.int .u64 h2)).setCell ⟨p,1,none⟩ (.int .u64 lo2)) from (HUd.out.trans Jv.out).trans' hpu (fun y hy=>.inr (by simp at hy;subst hy;exact HP.1)));have HCN:=AQ ((zD.out.Bh Jv.out).upd hpu (fun y hy hm=>by simp at hm;have:=HP.2 y hy;omega));clear z0 z1 zf0 zf1 hpu;go_wp2_with fail
     go_roundg (n - (k+1))
     case measure=>have:=HK.out;omega
     case rel=>exact ⟨k+1,N',Ac HK,hNk,Ac HK,by rw [HEN.out,Int.natCast_add],by go_num,aH.out,HCN.out,HUN.out⟩
  ·have hk0:n=0∧k=0:=by omega
   obtain ⟨rfl,rfl⟩:=hk0;have htot:=Si.out T HT.2.1 HT.2.2;rw [O6.1] at htot
   have hsz:Dy wr p AA.toNat:=by
    have e:AA.toNat=DV (Ld Y T) 0:=by
     have:(DV (Ld Y T) (0 - 1):Int)=0:=rfl;rw [this] at htot;rw [←htot];rfl
    rw [e];exact hsum
   have hez:BQ Y (T.take 0)=BQ Y U:=by
    rw [←G9 HT.2.1];have:T = []:=List.eq_nil_of_length_eq_zero O6.1;rw [this];rfl
   rw [hez];have hud:=hu;clear hsum hez htot hc hu hk hN hkn hlt;obtain ⟨s0,s1,-⟩:=hsz.cells;have h2:=(hud.block w.heap.size (lt_of_block HW1.2) (by simp)).trans HW1.2;have r0:wr.cell? ⟨w.heap.size,0,none⟩=some (.int .u64 0):=by simp [World.cell?,h2]
   have r1:wr.cell? ⟨w.heap.size,1,none⟩=some (.int .u64 0):=by simp [World.cell?,h2]
   have f0:wr.frozen? ⟨w.heap.size,0,none⟩=false:=by simp [World.frozen?,h2]
   have f1:wr.frozen? ⟨w.heap.size,1,none⟩=false:=by simp [World.frozen?,h2]
   obtain ⟨h,hh⟩:=AO (AA.toNat / 18446744073709551616);obtain ⟨lo,hlo⟩:=AO (AA.toNat % 18446744073709551616);have hv:ED AA.toNat=.agg #[.int .u64 (h:Int),.int .u64 (lo:Int)]:=by unfold ED;rw [hh,hlo]
   have hz:Dy wr w.heap.size 0:=h2;have hfin:=hz.set hh.symm hlo.symm;rw [hh] at s0;rw [hlo] at s1;have Gv:=AQ hfin;have HV:=Aj hv hh hlo;have Yy:=AQ (show Bf [] w ((wr.setCell ⟨w.heap.size,0,none⟩ (.int .u64 (h:Int))).setCell ⟨w.heap.size,1,none⟩ (.int .u64 (lo:Int))) from (((HW1.1.trans hud).setCell (.inr (Nat.le_refl _)) _).setCell (.inr (Nat.le_refl _)) _));obtain ⟨EE,hEE⟩:∃EE:Nat,BQ Y U=EE:=⟨_,rfl⟩;rw [hEE];have HEE:=AQ hEE;clear hh hlo h2 hsz hud hv hz hfin hEE;go_wp2_with fail
   obtain ⟨e0,e1,-⟩:=Gv.out.cells;rw [HV.2.1] at e0;rw [HV.2.2] at e1;try rw [Exit.noGoto_ret]
   exact bodyPost_ret (v:=.tuple #[.agg #[.int .u64 (h:Int),.int .u64 (lo:Int)],.int .i64 (EE:Int)]) (by simp [results,Tryz.results43,go_sem,e0,e1]) rfl ⟨by rw [HV.1,HEE.out],Yy.out⟩
end Go.Proofs.YtkbaaonchdeneaaGreat
namespace Go.Proofs.YtkbaaonchdeneaaGreat
theorem DX (n:Nat):∃h lo:Nat,ED n=.agg #[.int .u64 (h:Int),.int .u64 (lo:Int)]∧h=n / 18446744073709551616∧lo=n % 18446744073709551616:=⟨_,_,rfl,rfl,rfl⟩
