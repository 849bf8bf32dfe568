/- area.Area: the walk. A number of 128 bits, opened. -/
import Derived.Test.YtkbaaonchdeneaaGreatPc47
set_option maxHeartbeats 8000000
set_option maxRecDepth 100000
namespace Go.Proofs.YtkbaaonchdeneaaGreat
section
open Go.RowKit
theorem Jg {w w':World} {a1 a2 a3 a4:Addr} {v1 v2 v3 v4:Value} (h:w.cell? a1=some v1/\w.cell? a2=some v2/\w.cell? a3=some v3/\w.cell? a4=some v4) (hu:Bj [] w w') :
 w'.cell? a1=some v1/\w'.cell? a2=some v2/\w'.cell? a3=some v3/\w'.cell? a4=some v4:=by
 have e:∀{a:Addr} {v:Value},w.cell? a=some v->w'.cell? a=some v:=λ{a v} ha=>(hu.cell (World.block_lt_of_cell? w _ ha) (by simp)).trans ha
 exact ⟨e h.1,e h.2.1,e h.2.2.1,e h.2.2.2⟩
def wK (l:List Bx):Nat:=CG (Fq (BX l)) (BL l)
def PI (l:List Bx) (w:World) (e:Ending) (w':World):Prop:=
 e=.returned (.tuple #[Fp (GN l).toNat,.int .i64 (wK l:Int)])/\Bj [] w w'
theorem a0x (v:Value) (l:List Bx) (w:World) (hs:See LP w v l) (hl:l.length<100000) (hb:∀b∈l,b.CS) :
 Calls Tryz.prog 43 #[v] w (PI l w):=by
 obtain ⟨A,C,rfl⟩:=hs.form;unfold PI;have hu0:Bj [] w (w.alloc (.cells #[.int .u64 0,.int .u64 0] 52)):=(Bj.refl _ _).alloc _;have htc:=a1G (.slice A l.length C) l _ (hs.BF hu0) (by omega);have hM:=Hz hb hl;have hpart:=λT hp hs k hk=>dh (T:=T) hb hl hp hs (k:=k) hk
 have htot:=λT hp hs=>UM (T:=T) hb hl hp hs
 have hok:=λT hp=>okT (l:=l) (T:=T) hp
 have hse:=λT hp hs k t ht=>Zf (l:=l) (T:=T) hp hs (k:=k) (t:=t) ht
 have htl:=EG l
 have a3a:∀t∈BL l,-9223372036854775808<=t.x/\t.x<=9223372036854775807:=by
  intro t ht;have hx:=(IJ t.x).1 (List.mem_map.2 ⟨t,ht,rfl⟩);unfold Gg at hx;obtain ⟨b,h1,h2⟩:=List.mem_flatMap.1 hx;have h3:=hb b (List.mem_filter.1 h1).1;unfold Bx.CS at h3;simp at h2;rcases h2 with h2 | h2<;>rw [h2]
  ·exact h3.1
  ·exact h3.2.1
 have hE:wK l=CG (Fq (BX l)) (BL l):=rfl;have hEl:=JK (Fq (BX l)) hM.len (BL l);unfold Qe at htc;rw [hE];obtain ⟨Y,hY⟩:=AU (Fq (BX l));obtain ⟨U,hU⟩:=AU (BL l);obtain ⟨AA,hAA⟩:=AU (GN l);rw [hY] at htc hM hpart htot hok hse hEl |-;rw [hU] at htc hpart htot hok hse htl a3a hEl |-;rw [hAA] at htot |-;have h20:(w.alloc (.cells #[.int .u64 0,.int .u64 0] 52)).heap[w.heap.size]? = some (.cells #[.int .u64 0,.int .u64 0] 52 (0,0)):=heap_alloc_new _ _;have HTC:=AX htc;have HM:=AX hM;have Gu:=AX hu0;have H20:=AX h20;have PU:=Ap (show U.length<200000 by omega) hEl;have a1r:=AX hpart;have Oj:=AX htot;have HOK:=AX hok;have nU:=AX hse;have a6c:=AX a3a;clear hs hl hb hu0 htc hM hpart htot hok hse htl a3a hEl hY hU hAA h20 hE;go_enter Tryz.func43,Tryz.ntmps43
 go_wp2_with fail
 go_step3
 go_wp2_with fail
 go_fit HTC.out
 rintro e W1 ⟨A1,C1,A2,C2,T,rfl,sT,pT,oT,sM,hu1⟩;have hTl:T.length=U.length:=pT.length_eq;obtain ⟨n,hn⟩:=AU U.length;have hsT:See KT W1 (.slice A1 n C1) T:=by rw [<-hn];exact sT
 rw [hn] at hTl |-;have hnb:(n:Int)<200000:=Ac PU.1;have hnw:=newC (.slice A2 Y.length C2) Y W1 sM HM.out;unfold UF at hnw;have HNW:=AX hnw;have HT:=Aq hsT pT oT;have Je:=Ap hTl hn;have h2:=(hu1.block w.heap.size (lt_of_block H20.out) (by simp)).trans H20.out;have HW1:=Ap (Gu.out.trans hu1) h2;clear sT pT oT sM hu1 hTl hn hsT hnw h2;go_wp2_with fail
 go_fit HNW.out
 rintro e W2 ⟨b,F,rfl,hc0,hu2,hF⟩;have hs0:Ef (W2.alloc (.cells #[.int .u64 0,.int .u64 0] 52)) W2.heap.size 0:=heap_alloc_new _ _;have FI:Bj [] W2 (W2.alloc (.cells #[.int .u64 0,.int .u64 0] 52)):=(Bj.refl _ _).alloc _;have HF:=Ap hF hc0.lt;obtain ⟨p,hp⟩:=AU W2.heap.size;rw [hp] at hs0;have HS0:=Aq hs0 (hc0.BF FI) (hu2.trans FI);have HP:=AX (show W1.heap.size<=p/\(∀y∈F,y<p) from ⟨by rw [<-hp];exact hu2.size,λy hy=>by rw [<-hp];exact HF.2 y hy⟩);clear hs0 FI hc0 hu2 hF;go_upto_region 6 with fail
 clear hp;generalize W2.alloc (.cells #[.int .u64 0,.int .u64 0] 52)=W0 at HS0 |-;go_wp2_with fail
 go_step3
 go_wp2_with fail
 go_loopg [9,30] n (λm s9 s30 wr=>∃k N,m+k=n/\N<=k/\(k<n\/n=0)/\s9=.int .i64 (CG Y (T.take k):Int)/\s30=.int .i64 (k:Int)/\Ef wr p (EH (IK Y T) k)/\DR wr b F Y (sw Y (T.take k)) N/\Bj [] W1 wr)
 case atStart=>exact ⟨0,0,by omega,Nat.le_refl _,by omega,rfl,rfl,HS0.1,HS0.2.1,HS0.2.2⟩
 case round=>
  obtain ⟨k,N,hk,hN,hkn,rfl,rfl,hsum,hc,hu⟩:=hrel;have b0:(0:Int)<=(k:Int):=AY _;by_cases hlt:k<n
  ·have b1:(k:Int)<(n:Int):=by omega
   obtain ⟨t,ht⟩:∃t,T[k]? = some t:=⟨_,Ba (Ac Je.1)⟩;obtain ⟨gt,ot,hA1,l0,l1,l2,l3,l4,l5,l6⟩:=KT.at (HT.1.BF hu) ht;have hsn:sw Y (T.take (k+1))=stepT Y (sw Y (T.take k)) t:=by rw [show T.take (k+1)=T.take k++[t] by rw [List.take_add_one,ht];rfl,XM]
   have hen:=Zg Y ht;have hse:=nU.out T HT.2.1 HT.2.2 k t ht
   have hEk:CG Y (T.take (k+1))<=CG Y U:=by
    rw [<-Ia HT.2.1]
    have:CG Y T=CG Y (T.take (k+1))+CG Y (T.drop (k+1)):=by
     unfold CG;rw [<-List.sum_append_nat,<-List.map_append,List.take_append_drop]
    omega
   have hHl:=wE Y (T.take k);have hxt:=a6c.out t (HT.2.1.mem_iff.1 (List.mem_of_getElem? ht))
   have hxu:∀u,T[k+1]? = some u->(-9223372036854775808<=u.x/\u.x<=9223372036854775807)/\t.x<=u.x/\IK Y T k=(JJ Y T k).toNat*(u.x - t.x).toNat:=by
    intro u hu;have htu:=(Kz HT.2.2 ht).2 u (List.mem_of_getElem? (i:=1) (by rw [List.getElem?_drop];exact hu));refine ⟨a6c.out u (HT.2.1.mem_iff.1 (List.mem_of_getElem? hu)),htu,?_⟩
    unfold IK;have et:mf (T.map Tn.x) k=t.x:=by unfold mf;rw [List.getElem?_map,ht];rfl
    have eu:mf (T.map Tn.x) (k+1)=u.x:=by unfold mf;rw [List.getElem?_map,hu];rfl
    rw [et,eu]
   have hlg:0<=JJ Y T k/\JJ Y T k<18446744073709551616:=Ro HM.out T k;have hlo:(GZ Y (sw Y (T.take (k+1)))).long=JJ Y T k:=rfl
   have a3b:(sw Y (T.take k)).length<=1000000:=by
    rw [Bf] at hHl;have:=PU.1;have:=Je.1;have:=Je.2;omega
   obtain ⟨E,hE⟩:=AU (CG Y (T.take k));obtain ⟨K,hK⟩:=AU (Ky (SC Y t) (Y.length - 1));rw [hE,hK] at hen;rw [hK] at hse;rw [hE];have jZ:(E:Int)+(K:Int)<100000000:=Ad PU.2 PU.1;have e0:(0:Int)<=(E:Int):=AY _;have k0:(0:Int)<=(K:Int):=AY _;obtain ⟨H,hH⟩:=AU (sw Y (T.take k));rw [hH] at hc hsn hse a3b;rw [hsn] at hlo;obtain ⟨tx,⟨x1,x2,y1,y2,bi⟩,g⟩:=t;dsimp only at l0 l1 l2 l3 l4 l5 l6 hxt hxu;subst hA1;have FI:Bj [] wr (wr.alloc (.cells #[tx,x1,x2,y1,y2,.int .u32 (bi:Int),.bool g] 139)):=(Bj.refl _ _).alloc _;have hbx:(wr.alloc (.cells #[tx,x1,x2,y1,y2,.int .u32 (bi:Int),.bool g] 139)).heap[wr.heap.size]? = some (.cells #[tx,x1,x2,y1,y2,.int .u32 (bi:Int),.bool g] 139 (0,0)):=heap_alloc_new _ _;have Hr:=AX FI;have G7:=AX hbx;have a6d:=AX hsum;have HC:=AX hc;have HU:=AX hu;have HK:=Aq hk hN hlt;have HSN:=AX hsn;have HEN:=AX hen;have a7X:=AX hse;have HXT:=AX hxt;have HXU:=AX hxu;have HLG:=Ap hlg hlo;have HHL:=AX a3b;clear FI hbx hsum hc hu hk hN hkn hsn hen hse hEk hHl hxt hxu hlg hlo a3b hE hK hH ht;clear hlt;go_upto_region 10 with fail
   have Jr:=AX (show (∀y∈F,y<wr.heap.size)/\p<wr.heap.size from ⟨HC.out.lt,a6d.out.lt⟩);have HCa:=AX (HC.out.BF Hr.out);have HSa:=AX (a6d.out.BF Hr.out);have HUa:=AX (HU.out.trans Hr.out);generalize (wr.alloc (.cells #[tx,x1,x2,y1,y2,.int .u32 (bi:Int),.bool g] 139))=Wb at G7 HCa HSa HUa Hr |-;generalize wr.heap.size=q at G7 Jr |-;have c3:Wb.cell? ⟨q,3,none⟩=some (.int .i64 y1):=by have:=G7.out;simp [World.cell?,this]
   have c4:Wb.cell? ⟨q,4,none⟩=some (.int .i64 y2):=by have:=G7.out;simp [World.cell?,this]
   have c6:Wb.cell? ⟨q,6,none⟩=some (.bool g):=by have:=G7.out;simp [World.cell?,this]
   have hstep:Calls Tryz.prog (bif g then 95 else 94) #[.pointer (some b),y1,y2] Wb (λe w'=>∃X,e=.returned (.tuple #[(K:Int),X])/\(∃N',N'<=k+1/\DR w' b F Y (sw Y (T.take (k+1))) N')/\Bj F Wb w'):=by
    have hkk:=HK.out;have hnn:=PU.1;have h1:=HSN.out;have h2:=a7X.out
    cases g
    ·refine (a5R b F Y H N Wb y1 y2 HCa.out HM.out (Ac Je.2) HHL.out).mono ?_
     rintro e w' ⟨rfl,⟨N',hN',hc'⟩,hu'⟩;refine ⟨mD Y y1 y2,?_,⟨N',by omega,?_⟩,hu'⟩
     ·rw [<-h2];rfl
     ·rw [h1];exact hc'
    ·refine (a1n b F Y H N Wb y1 y2 HCa.out HM.out (Ac Je.2) HHL.out).mono ?_
     rintro e w' ⟨rfl,⟨N',hN',hc'⟩,hu'⟩;refine ⟨Ri Y H y1 y2,?_,⟨N',by omega,?_⟩,hu'⟩
     ·rw [<-h2];rfl
     ·rw [h1];exact hc'
   have HST:=AX hstep;clear hstep
   cases g
   ·have hb3:=HST.out;simp only [cond_false] at hb3;have HB:=AX hb3;clear hb3;go_wp2_with fail
    go_fit HB.out
    rintro e w3 ⟨X,rfl,⟨N',hNk,hc3⟩,hu3⟩;clear c3 c4 c6;have hq:=(hu3.block q (lt_of_block G7.out) (λh=>Nat.lt_irrefl _ (Jr.1 q h))).trans G7.out;have hs3:=HSa.out.upd hu3 (λh=>Nat.lt_irrefl _ (HP.2 p h));have hw3:Bj [] W1 w3:=HUa.out.trans' hu3 (λy hy=>.inr (HF.1 y hy));by_cases hend:k+1=n
    ·have hd:((k:Int)+1==(n:Int))=true:=by rw [beq_iff_eq];omega
     have hd2:decide ((k:Int)+1=(n:Int))=true:=decide_eq_true (by omega);have hTk:T.take (k+1)=T:=List.take_of_length_le (Ac Je.1);have htot:=Oj.out T HT.2.1 HT.2.2;rw [Je.1,<-hend,Nat.add_sub_cancel] at htot
     have hsz:Ef w3 p AA.toNat:=by
      have e:AA.toNat=EH (IK Y T) k:=by omega
      rw [e];exact hs3
     have hee:(E:Int)+(K:Int)=(CG Y U:Int):=by
      have:=HEN.out;rw [hTk,Ia HT.2.1] at this;omega
     have hud:=hw3;obtain ⟨EE,hEE⟩:∃EE:Nat,CG Y U=EE:=⟨_,rfl⟩;rw [hEE] at hee;have hw:IntKind.i64.wrap ((E:Int)+(K:Int))=(EE:Int):=by rw [IntWalk.i64_in _ ⟨by omega,by omega⟩,hee]
     clear hs3 hw3 hc3 hu3 hq htot hTk hend hee hNk jZ e0 k0;obtain ⟨s0,s1,-⟩:=hsz.cells;have h2:=(hud.block w.heap.size (lt_of_block HW1.2) (by simp)).trans HW1.2;have r0:w3.cell? w.heap.size=some (.int .u64 0):=by simp [World.cell?,h2]
     have r1:w3.cell? ⟨w.heap.size,1,none⟩=some (.int .u64 0):=by simp [World.cell?,h2]
     have f0:w3.frozen? w.heap.size=false:=by simp [World.frozen?,h2]
     have f1:w3.frozen? ⟨w.heap.size,1,none⟩=false:=by simp [World.frozen?,h2]
     obtain ⟨h,hh⟩:=AU (AA.toNat / 18446744073709551616);obtain ⟨lo,hlo⟩:=AU (AA.toNat % 18446744073709551616);have hv:Fp AA.toNat=.agg #[.int .u64 (h:Int),.int .u64 (lo:Int)]:=by unfold Fp;rw [hh,hlo]
     have hz:Ef w3 w.heap.size 0:=h2;have hfin:=hz.set hh.symm hlo.symm;rw [hh] at s0;rw [hlo] at s1;have Ih:=AX hfin;have HV:=Aq hv hh hlo;have oC:=AX (show Bj [] w ((w3.setCell w.heap.size (.int .u64 (h:Int))).setCell ⟨w.heap.size,1,none⟩ (.int .u64 (lo:Int))) from (((HW1.1.trans hud).setCell (.inr (Nat.le_refl _)) _).setCell (.inr (Nat.le_refl _)) _));have HEE:=AX hEE;clear hh hlo h2 hsz hud hv hz hfin hEE;go_wp2_with fail
     obtain ⟨e0,e1,-⟩:=Ih.out.cells;rw [HV.2.1] at e0;rw [HV.2.2] at e1;try rw [Exit.noGoto_ret]
     exact bodyPost_ret (v:=.tuple #[.agg #[.int .u64 (h:Int),.int .u64 (lo:Int)],(EE:Int)]) (by simp [results,Tryz.results43,go_sem,e0,e1]) rfl ⟨by rw [HV.1,HEE.out],oC.out⟩
    ·have hd:((k:Int)+1==(n:Int))=false:=by rw [beq_eq_false_iff_ne];omega
     have hd2:decide ((k:Int)+1=(n:Int))=false:=decide_eq_false (by omega);have hkl:=HK.2.2;obtain ⟨u,hu⟩:∃u,T[k+1]? = some u:=⟨_,Ba (Ac Je.1)⟩;obtain ⟨gt',ot',a3c,l0',-⟩:=KT.at (HT.1.BF hw3) hu
     cases a3c
     obtain ⟨dM,hxm,hadd⟩:=HXU.out u hu;have hbd:=a1r.out T HT.2.1 HT.2.2 (k+1) (Ac Je.1);obtain ⟨ux,RS⟩:=AU u.x;rw [RS] at l0' dM hxm hadd;have hss:EH (IK Y T) (k+1)=EH (IK Y T) k+IK Y T k:=rfl;rw [hss,hadd] at hbd;rw [hadd] at hss;have x64:=HXT.out;have dN:=λw=>iL tx ux w x64 dM
     obtain ⟨dx,hdx⟩:∃d:Nat,(ux - tx).toNat=d:=⟨_,rfl⟩;obtain ⟨LG,mX⟩:∃d:Nat,(JJ Y T k).toNat=d:=⟨_,rfl⟩;rw [hdx,mX] at hss hbd;rw [show MI tx ux=(dx:Int) by unfold MI;split<;>omega] at dN;have hlg:=HLG.out;have hml:=λw=>iR LG dx (by omega) (by omega) w
     obtain ⟨M,hMM⟩:=AU (LG*dx);obtain ⟨Q,hQQ⟩:=AU (EH (IK Y T) k);rw [hMM,hQQ] at hss hbd;simp only [hMM] at hml;rw [hQQ] at hs3;have had:=λw=>iU Q M hbd w
     obtain ⟨h,hh⟩:=AU (Q / 18446744073709551616);obtain ⟨lo,hlo⟩:=AU (Q % 18446744073709551616);obtain ⟨h2,hh2⟩:∃h,(Q+M) / 18446744073709551616=h:=⟨_,rfl⟩;obtain ⟨lo2,hlo2⟩:∃lo,(Q+M) % 18446744073709551616=lo:=⟨_,rfl⟩;obtain ⟨mh,wL⟩:∃h,M / 18446744073709551616=h:=⟨_,rfl⟩;obtain ⟨ml,UW⟩:∃lo,M % 18446744073709551616=lo:=⟨_,rfl⟩;unfold Fp at had hml;simp only [hh,hlo,hh2,hlo2,wL,UW] at had hml;obtain ⟨s0,s1,-⟩:=hs3.cells;rw [hh] at s0;rw [hlo] at s1;have d0:w3.cell? q=some (.int .i64 tx):=by simp [World.cell?,hq]
     have hlong:∀w',w'=w3.drew->Calls Tryz.prog 97 #[.pointer (some b)] w' λe w2=>e=.returned (.int .u64 (LG:Int))/\Bj [] w' w2:=by
      rintro w' rfl;have h1:=a1o b F Y _ N' w3.drew (hc3.BF (Bj.refl _ _).drew);rw [HSN.out,hlg.2] at h1;rw [show JJ Y T k=(LG:Int) by omega] at h1;exact h1
     have UY:=AX hlong;have Ot:=Ap (show (EH (IK Y T) (k+1)) / 18446744073709551616=h2 by rw [hss,hh2]) (show (EH (IK Y T) (k+1)) % 18446744073709551616=lo2 by rw [hss,hlo2]);have HDX:=AX dN;have dO:=AX hml;have Xy:=AX had;have i2:(k:Int)+1<(n:Int):=by omega
     have EJ:=AX hw3;have rJ:=AX hs3;have YD:=AX hc3;have RY:=Au s0 s1 d0 l0';have kD:=AX hend;have hw:IntKind.i64.wrap ((E:Int)+(K:Int))=((E+K:Nat):Int):=by rw [IntWalk.i64_in _ ⟨by omega,by omega⟩];omega
     clear hu hkl dM hxm hadd hbd hss x64 dN hdx mX hlg hml hMM hQQ had hh hlo hh2 hlo2 wL UW s0 s1 d0 l0' hlong hend hw3 hs3 hc3 hu3 hq RS jZ e0 k0;go_upto_region 16 with fail
     clear hw hd hd2;obtain ⟨Wd,hWd⟩:∃Wd,Wd=w3.drew:=⟨_,rfl⟩;have a3d:=AX (Jg RY.out (show Bj [] w3 Wd by rw [hWd];exact (Bj.refl _ _).drew));have yE:=AX (show Bj [] W1 Wd by rw [hWd];exact EJ.out.drew);have HSM:=AX (show Ef Wd p Q by rw [hWd];exact rJ.out);have wM:=AX (show DR Wd b F Y (sw Y (T.take (k+1))) N' by rw [hWd];exact YD.out.BF (Bj.refl _ _).drew);have wO:=AX (UY.out Wd hWd);clear RY EJ rJ YD UY;have kp:(0:Int)<=(k:Int)+1:=by omega
     have kn:((k:Int)+1).toNat=k+1:=by omega
     have wk:IntKind.i64.wrap ((k:Int)+1)=(k:Int)+1:=IntWalk.i64_in _ ⟨by omega,by omega⟩;refine Bo.start [13,14,15,16,17] (λw'=>w'.cell? p=some (.int .u64 h)/\w'.cell? ⟨p,1,none⟩=some (.int .u64 lo)/\w'.cell? q=some (.int .i64 tx)/\w'.cell? ⟨gt,ot+(k+1)*7,none⟩=some (.int .i64 ux)) (by kernel_rfl) ?_ λhS=>?_
     ·exact by rw [<-hWd];exact a3d.out
     rw [<-hWd] at hS |-;clear hWd;refine' Bo.ty 5 0 61 ?_
     refine' Bo.mx 1 62 ?_
     refine' Bo.mx 3 64 ?_
     refine' Bo.ty 5 4 65 ?_
     refine' Bo.mx 5 66 ?_
     refine' Bo.mx 6 67 ?_
     refine' Bo.mx 7 68 ?_
     refine' Bo.mx 8 69 ?_
     refine' Bo.mx 9 70 ?_
     refine' Bo.ty 5 10 71 ?_
     refine Bo.one (i:=2) (o:=⟨some 63,_,_,_,_,_⟩) rfl (by kernel_rfl) λK hK=>?_
     go_simp
     go_at_call 97
     go_fit wO.out
     rintro e w4 ⟨rfl,EI⟩;refine hK.out _ _ (λ_ h=>?_) ?_
     ·exact Jg h EI
     clear hK K;try simp only [Act.put,sA,sZ,sS]
     have U4:=AX EI;clear EI;refine Bo.one (i:=11) (o:=⟨some 72,_,_,_,_,_⟩) rfl (by kernel_rfl) λK hK=>?_
     go_simp
     go_at_call 98
     go_fit (HDX.out _)
     rintro e w' ⟨rfl,rfl⟩;refine hK.out _ _ (λ_ h=>?_) ?_
     ·exact h
     clear hK K;try simp only [Act.put,sA,sZ,sS]
     refine Bo.one (i:=12) (o:=⟨some 73,_,_,_,_,_⟩) rfl (by kernel_rfl) λK hK=>?_
     go_simp
     go_at_call 96
     go_fit (dO.out _)
     rintro e w5 ⟨rfl,EZ⟩;refine hK.out _ _ (λ_ h=>?_) ?_
     ·exact Jg h EZ
     clear hK K;try simp only [Act.put,sA,sZ,sS]
     have Nv:=AX (U4.out.trans EZ);clear EZ;refine Bo.one (i:=13) (o:=⟨some 74,_,_,_,_,_⟩) rfl (by kernel_rfl) λK hK=>?_
     go_simp
     go_at_call 44
     go_fit (Xy.out _)
     rintro e w6 ⟨rfl,Jb⟩;refine hK.out _ _ (λh=>(by cases h)) ?_
     clear hK K;try simp only [Act.put,sA,sZ,sS]
     have Ik:=AX (Nv.out.trans Jb);have hsm:=HSM.out.BF Ik.out;obtain ⟨z0,z1,zf⟩:=hsm.cells;have zf0:=zf 0;have zf1:=zf 1;have tX:=AX hsm;clear Jb zf hsm;refine' Bo.mx 14 60 ?_
     refine' Bo.mx 15 75 ?_
     refine' Bo.mx 16 76 ?_
     refine Bo.one (i:=17) (o:=⟨none,_,_,_,_,_⟩) rfl (by kernel_rfl) λK hK=>?_
     go_simp
     refine hK.out _ _ (λh=>(by cases h)) ?_
     clear hK K;try simp only [Act.put,sA,sZ,sS]
     refine Bo.done (by kernel_rfl) ?_
     clear wk kn kp;have XU:=AX (tX.out.set Ot.1.symm Ot.2.symm);have hpu:Bj [p] w6 ((w6.setCell p (.int .u64 h2)).setCell ⟨p,1,none⟩ (.int .u64 lo2)):=((Bj.refl _ _).setCell (.inl (by simp)) _).setCell (.inl (by simp)) _;have HUN:=AX (show Bj [] W1 ((w6.setCell p (.int .u64 h2)).setCell ⟨p,1,none⟩ (.int .u64 lo2)) from (yE.out.trans Ik.out).trans' hpu (λy hy=>.inr (by simp at hy;subst hy;exact HP.1)));have HCN:=AX ((wM.out.BF Ik.out).upd hpu (λy hy hm=>by simp at hm;have:=HP.2 y hy;omega));clear z0 z1 zf0 zf1 hpu;go_wp2_with fail
     go_roundg (n - (k+1))
     case measure=>have:=HK.out;omega
     case rel=>exact ⟨k+1,N',Ac HK,hNk,Ac HK,by rw [HEN.out,Int.natCast_add],by go_num,XU.out,HCN.out,HUN.out⟩
   ·have hb3:=HST.out;simp only [cond_true] at hb3;have HB:=AX hb3;clear hb3;go_wp2_with fail
    go_fit HB.out
    rintro e w3 ⟨X,rfl,⟨N',hNk,hc3⟩,hu3⟩;clear c3 c4 c6;have hq:=(hu3.block q (lt_of_block G7.out) (λh=>Nat.lt_irrefl _ (Jr.1 q h))).trans G7.out;have hs3:=HSa.out.upd hu3 (λh=>Nat.lt_irrefl _ (HP.2 p h));have hw3:Bj [] W1 w3:=HUa.out.trans' hu3 (λy hy=>.inr (HF.1 y hy));by_cases hend:k+1=n
    ·have hd:((k:Int)+1==(n:Int))=true:=by rw [beq_iff_eq];omega
     have hd2:decide ((k:Int)+1=(n:Int))=true:=decide_eq_true (by omega);have hTk:T.take (k+1)=T:=List.take_of_length_le (Ac Je.1);have htot:=Oj.out T HT.2.1 HT.2.2;rw [Je.1,<-hend,Nat.add_sub_cancel] at htot
     have hsz:Ef w3 p AA.toNat:=by
      have e:AA.toNat=EH (IK Y T) k:=by omega
      rw [e];exact hs3
     have hee:(E:Int)+(K:Int)=(CG Y U:Int):=by
      have:=HEN.out;rw [hTk,Ia HT.2.1] at this;omega
     have hud:=hw3;obtain ⟨EE,hEE⟩:∃EE:Nat,CG Y U=EE:=⟨_,rfl⟩;rw [hEE] at hee;have hw:IntKind.i64.wrap ((E:Int)+(K:Int))=(EE:Int):=by rw [IntWalk.i64_in _ ⟨by omega,by omega⟩,hee]
     clear hs3 hw3 hc3 hu3 hq htot hTk hend hee hNk jZ e0 k0;obtain ⟨s0,s1,-⟩:=hsz.cells;have h2:=(hud.block w.heap.size (lt_of_block HW1.2) (by simp)).trans HW1.2;have r0:w3.cell? w.heap.size=some (.int .u64 0):=by simp [World.cell?,h2]
     have r1:w3.cell? ⟨w.heap.size,1,none⟩=some (.int .u64 0):=by simp [World.cell?,h2]
     have f0:w3.frozen? w.heap.size=false:=by simp [World.frozen?,h2]
     have f1:w3.frozen? ⟨w.heap.size,1,none⟩=false:=by simp [World.frozen?,h2]
     obtain ⟨h,hh⟩:=AU (AA.toNat / 18446744073709551616);obtain ⟨lo,hlo⟩:=AU (AA.toNat % 18446744073709551616);have hv:Fp AA.toNat=.agg #[.int .u64 (h:Int),.int .u64 (lo:Int)]:=by unfold Fp;rw [hh,hlo]
     have hz:Ef w3 w.heap.size 0:=h2;have hfin:=hz.set hh.symm hlo.symm;rw [hh] at s0;rw [hlo] at s1;have Ih:=AX hfin;have HV:=Aq hv hh hlo;have oC:=AX (show Bj [] w ((w3.setCell w.heap.size (.int .u64 (h:Int))).setCell ⟨w.heap.size,1,none⟩ (.int .u64 (lo:Int))) from (((HW1.1.trans hud).setCell (.inr (Nat.le_refl _)) _).setCell (.inr (Nat.le_refl _)) _));have HEE:=AX hEE;clear hh hlo h2 hsz hud hv hz hfin hEE;go_wp2_with fail
     obtain ⟨e0,e1,-⟩:=Ih.out.cells;rw [HV.2.1] at e0;rw [HV.2.2] at e1;try rw [Exit.noGoto_ret]
     exact bodyPost_ret (v:=.tuple #[.agg #[.int .u64 (h:Int),.int .u64 (lo:Int)],(EE:Int)]) (by simp [results,Tryz.results43,go_sem,e0,e1]) rfl ⟨by rw [HV.1,HEE.out],oC.out⟩
    ·have hd:((k:Int)+1==(n:Int))=false:=by rw [beq_eq_false_iff_ne];omega
     have hd2:decide ((k:Int)+1=(n:Int))=false:=decide_eq_false (by omega);have hkl:=HK.2.2;obtain ⟨u,hu⟩:∃u,T[k+1]? = some u:=⟨_,Ba (Ac Je.1)⟩;obtain ⟨gt',ot',a3c,l0',-⟩:=KT.at (HT.1.BF hw3) hu
     cases a3c
     obtain ⟨dM,hxm,hadd⟩:=HXU.out u hu;have hbd:=a1r.out T HT.2.1 HT.2.2 (k+1) (Ac Je.1);obtain ⟨ux,RS⟩:=AU u.x;rw [RS] at l0' dM hxm hadd;have hss:EH (IK Y T) (k+1)=EH (IK Y T) k+IK Y T k:=rfl;rw [hss,hadd] at hbd;rw [hadd] at hss;have x64:=HXT.out;have dN:=λw=>iL tx ux w x64 dM
     obtain ⟨dx,hdx⟩:∃d:Nat,(ux - tx).toNat=d:=⟨_,rfl⟩;obtain ⟨LG,mX⟩:∃d:Nat,(JJ Y T k).toNat=d:=⟨_,rfl⟩;rw [hdx,mX] at hss hbd;rw [show MI tx ux=(dx:Int) by unfold MI;split<;>omega] at dN;have hlg:=HLG.out;have hml:=λw=>iR LG dx (by omega) (by omega) w
     obtain ⟨M,hMM⟩:=AU (LG*dx);obtain ⟨Q,hQQ⟩:=AU (EH (IK Y T) k);rw [hMM,hQQ] at hss hbd;simp only [hMM] at hml;rw [hQQ] at hs3;have had:=λw=>iU Q M hbd w
     obtain ⟨h,hh⟩:=AU (Q / 18446744073709551616);obtain ⟨lo,hlo⟩:=AU (Q % 18446744073709551616);obtain ⟨h2,hh2⟩:∃h,(Q+M) / 18446744073709551616=h:=⟨_,rfl⟩;obtain ⟨lo2,hlo2⟩:∃lo,(Q+M) % 18446744073709551616=lo:=⟨_,rfl⟩;obtain ⟨mh,wL⟩:∃h,M / 18446744073709551616=h:=⟨_,rfl⟩;obtain ⟨ml,UW⟩:∃lo,M % 18446744073709551616=lo:=⟨_,rfl⟩;unfold Fp at had hml;simp only [hh,hlo,hh2,hlo2,wL,UW] at had hml;obtain ⟨s0,s1,-⟩:=hs3.cells;rw [hh] at s0;rw [hlo] at s1;have d0:w3.cell? q=some (.int .i64 tx):=by simp [World.cell?,hq]
     have hlong:∀w',w'=w3.drew->Calls Tryz.prog 97 #[.pointer (some b)] w' λe w2=>e=.returned (.int .u64 (LG:Int))/\Bj [] w' w2:=by
      rintro w' rfl;have h1:=a1o b F Y _ N' w3.drew (hc3.BF (Bj.refl _ _).drew);rw [HSN.out,hlg.2] at h1;rw [show JJ Y T k=(LG:Int) by omega] at h1;exact h1
     have UY:=AX hlong;have Ot:=Ap (show (EH (IK Y T) (k+1)) / 18446744073709551616=h2 by rw [hss,hh2]) (show (EH (IK Y T) (k+1)) % 18446744073709551616=lo2 by rw [hss,hlo2]);have HDX:=AX dN;have dO:=AX hml;have Xy:=AX had;have i2:(k:Int)+1<(n:Int):=by omega
     have EJ:=AX hw3;have rJ:=AX hs3;have YD:=AX hc3;have RY:=Au s0 s1 d0 l0';have kD:=AX hend;have hw:IntKind.i64.wrap ((E:Int)+(K:Int))=((E+K:Nat):Int):=by rw [IntWalk.i64_in _ ⟨by omega,by omega⟩];omega
     clear hu hkl dM hxm hadd hbd hss x64 dN hdx mX hlg hml hMM hQQ had hh hlo hh2 hlo2 wL UW s0 s1 d0 l0' hlong hend hw3 hs3 hc3 hu3 hq RS jZ e0 k0;go_upto_region 16 with fail
     clear hw hd hd2;obtain ⟨Wd,hWd⟩:∃Wd,Wd=w3.drew:=⟨_,rfl⟩;have a3d:=AX (Jg RY.out (show Bj [] w3 Wd by rw [hWd];exact (Bj.refl _ _).drew));have yE:=AX (show Bj [] W1 Wd by rw [hWd];exact EJ.out.drew);have HSM:=AX (show Ef Wd p Q by rw [hWd];exact rJ.out);have wM:=AX (show DR Wd b F Y (sw Y (T.take (k+1))) N' by rw [hWd];exact YD.out.BF (Bj.refl _ _).drew);have wO:=AX (UY.out Wd hWd);clear RY EJ rJ YD UY;have kp:(0:Int)<=(k:Int)+1:=by omega
     have kn:((k:Int)+1).toNat=k+1:=by omega
     have wk:IntKind.i64.wrap ((k:Int)+1)=(k:Int)+1:=IntWalk.i64_in _ ⟨by omega,by omega⟩;refine Bo.start [13,14,15,16,17] (λw'=>w'.cell? p=some (.int .u64 h)/\w'.cell? ⟨p,1,none⟩=some (.int .u64 lo)/\w'.cell? q=some (.int .i64 tx)/\w'.cell? ⟨gt,ot+(k+1)*7,none⟩=some (.int .i64 ux)) (by kernel_rfl) ?_ λhS=>?_
     ·exact by rw [<-hWd];exact a3d.out
     rw [<-hWd] at hS |-;clear hWd;refine' Bo.ty 5 0 61 ?_
     refine' Bo.mx 1 62 ?_
     refine' Bo.mx 3 64 ?_
     refine' Bo.ty 5 4 65 ?_
     refine' Bo.mx 5 66 ?_
     refine' Bo.mx 6 67 ?_
     refine' Bo.mx 7 68 ?_
     refine' Bo.mx 8 69 ?_
     refine' Bo.mx 9 70 ?_
     refine' Bo.ty 5 10 71 ?_
     refine Bo.one (i:=2) (o:=⟨some 63,_,_,_,_,_⟩) rfl (by kernel_rfl) λK hK=>?_
     go_simp
     go_at_call 97
     go_fit wO.out
     rintro e w4 ⟨rfl,EI⟩;refine hK.out _ _ (λ_ h=>?_) ?_
     ·exact Jg h EI
     clear hK K;try simp only [Act.put,sA,sZ,sS]
     have U4:=AX EI;clear EI;refine Bo.one (i:=11) (o:=⟨some 72,_,_,_,_,_⟩) rfl (by kernel_rfl) λK hK=>?_
     go_simp
     go_at_call 98
     go_fit (HDX.out _)
     rintro e w' ⟨rfl,rfl⟩;refine hK.out _ _ (λ_ h=>?_) ?_
     ·exact h
     clear hK K;try simp only [Act.put,sA,sZ,sS]
     refine Bo.one (i:=12) (o:=⟨some 73,_,_,_,_,_⟩) rfl (by kernel_rfl) λK hK=>?_
     go_simp
     go_at_call 96
     go_fit (dO.out _)
     rintro e w5 ⟨rfl,EZ⟩;refine hK.out _ _ (λ_ h=>?_) ?_
     ·exact Jg h EZ
     clear hK K;try simp only [Act.put,sA,sZ,sS]
     have Nv:=AX (U4.out.trans EZ);clear EZ;refine Bo.one (i:=13) (o:=⟨some 74,_,_,_,_,_⟩) rfl (by kernel_rfl) λK hK=>?_
     go_simp
     go_at_call 44
     go_fit (Xy.out _)
     rintro e w6 ⟨rfl,Jb⟩;refine hK.out _ _ (λh=>(by cases h)) ?_
     clear hK K;try simp only [Act.put,sA,sZ,sS]
     have Ik:=AX (Nv.out.trans Jb);have hsm:=HSM.out.BF Ik.out;obtain ⟨z0,z1,zf⟩:=hsm.cells;have zf0:=zf 0;have zf1:=zf 1;have tX:=AX hsm;clear Jb zf hsm;refine' Bo.mx 14 60 ?_
     refine' Bo.mx 15 75 ?_
     refine' Bo.mx 16 76 ?_
     refine Bo.one (i:=17) (o:=⟨none,_,_,_,_,_⟩) rfl (by kernel_rfl) λK hK=>?_
     go_simp
     refine hK.out _ _ (λh=>(by cases h)) ?_
     clear hK K;try simp only [Act.put,sA,sZ,sS]
     refine Bo.done (by kernel_rfl) ?_
     clear wk kn kp;have XU:=AX (tX.out.set Ot.1.symm Ot.2.symm);have hpu:Bj [p] w6 ((w6.setCell p (.int .u64 h2)).setCell ⟨p,1,none⟩ (.int .u64 lo2)):=((Bj.refl _ _).setCell (.inl (by simp)) _).setCell (.inl (by simp)) _;have HUN:=AX (show Bj [] W1 ((w6.setCell p (.int .u64 h2)).setCell ⟨p,1,none⟩ (.int .u64 lo2)) from (yE.out.trans Ik.out).trans' hpu (λy hy=>.inr (by simp at hy;subst hy;exact HP.1)));have HCN:=AX ((wM.out.BF Ik.out).upd hpu (λy hy hm=>by simp at hm;have:=HP.2 y hy;omega));clear z0 z1 zf0 zf1 hpu;go_wp2_with fail
     go_roundg (n - (k+1))
     case measure=>have:=HK.out;omega
     case rel=>exact ⟨k+1,N',Ac HK,hNk,Ac HK,by rw [HEN.out,Int.natCast_add],by go_num,XU.out,HCN.out,HUN.out⟩
  ·have hk0:n=0/\k=0:=by omega
   obtain ⟨rfl,rfl⟩:=hk0;have htot:=Oj.out T HT.2.1 HT.2.2;rw [Je.1] at htot
   have hsz:Ef wr p AA.toNat:=by
    have e:AA.toNat=EH (IK Y T) 0:=by
     have:(EH (IK Y T) (0 - 1):Int)=0:=rfl;rw [this] at htot;rw [<-htot];rfl
    rw [e];exact hsum
   have hez:CG Y (T.take 0)=CG Y U:=by
    rw [<-Ia HT.2.1];have:T = []:=List.eq_nil_of_length_eq_zero Je.1;rw [this];rfl
   rw [hez];have hud:=hu;clear hsum hez htot hc hu hk hN hkn hlt;obtain ⟨s0,s1,-⟩:=hsz.cells;have h2:=(hud.block w.heap.size (lt_of_block HW1.2) (by simp)).trans HW1.2;have r0:wr.cell? w.heap.size=some (.int .u64 0):=by simp [World.cell?,h2]
   have r1:wr.cell? ⟨w.heap.size,1,none⟩=some (.int .u64 0):=by simp [World.cell?,h2]
   have f0:wr.frozen? w.heap.size=false:=by simp [World.frozen?,h2]
   have f1:wr.frozen? ⟨w.heap.size,1,none⟩=false:=by simp [World.frozen?,h2]
   obtain ⟨h,hh⟩:=AU (AA.toNat / 18446744073709551616);obtain ⟨lo,hlo⟩:=AU (AA.toNat % 18446744073709551616);have hv:Fp AA.toNat=.agg #[.int .u64 (h:Int),.int .u64 (lo:Int)]:=by unfold Fp;rw [hh,hlo]
   have hz:Ef wr w.heap.size 0:=h2;have hfin:=hz.set hh.symm hlo.symm;rw [hh] at s0;rw [hlo] at s1;have Ih:=AX hfin;have HV:=Aq hv hh hlo;have oC:=AX (show Bj [] w ((wr.setCell w.heap.size (.int .u64 (h:Int))).setCell ⟨w.heap.size,1,none⟩ (.int .u64 (lo:Int))) from (((HW1.1.trans hud).setCell (.inr (Nat.le_refl _)) _).setCell (.inr (Nat.le_refl _)) _));obtain ⟨EE,hEE⟩:∃EE:Nat,CG Y U=EE:=⟨_,rfl⟩;rw [hEE];have HEE:=AX hEE;clear hh hlo h2 hsz hud hv hz hfin hEE;go_wp2_with fail
   obtain ⟨e0,e1,-⟩:=Ih.out.cells;rw [HV.2.1] at e0;rw [HV.2.2] at e1;try rw [Exit.noGoto_ret]
   exact bodyPost_ret (v:=.tuple #[.agg #[.int .u64 (h:Int),.int .u64 (lo:Int)],(EE:Int)]) (by simp [results,Tryz.results43,go_sem,e0,e1]) rfl ⟨by rw [HV.1,HEE.out],oC.out⟩
end
section
theorem UZ (n:Nat):∃h lo:Nat,Fp n=.agg #[.int .u64 (h:Int),.int .u64 (lo:Int)]/\h=n / 18446744073709551616/\lo=n % 18446744073709551616:=⟨_,_,rfl,rfl,rfl⟩
