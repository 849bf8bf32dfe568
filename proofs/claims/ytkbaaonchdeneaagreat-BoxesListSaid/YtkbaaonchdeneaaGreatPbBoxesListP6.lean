/- The law BoxesList: the walk. Printed by genBL.py. -/
import Derived.Test.YtkbaaonchdeneaaGreatPbBoxesListP5
import Derived.Test.YtkbaaonchdeneaaGreatPb53
set_option maxHeartbeats 8000000
set_option maxRecDepth 100000
namespace Go.Proofs.YtkbaaonchdeneaaGreat.GN
open Go.RowKit
open Go.Proofs.YtkbaaonchdeneaaGreat.Ps
theorem Yh (v:Value) (l:List Qp) (w:World) (h:LD w v l) (hl:l.length≤9223372036854775807) (hin:∀o∈l,o.BO) :
 Calls Tryz.prog 12 #[v] w fun e w'=>e=.returned (.bool true)∧Bf [] w w':=by
 obtain ⟨n,hn⟩:=AO (min l.length 60);have hmn:Value.int .i64 (min (l.length:Int) 60)=Value.int .i64 (n:Int):=by rw [←hn];congr 1;omega
 obtain ⟨A1,C1,hrun1,hs1⟩:=aS h n (by omega);obtain ⟨Ao,Co,rfl⟩:=h.form;have hin1:∀o∈l.take n,o.BO:=fun o ho=>hin o (List.mem_of_mem_take ho)
 have hln:(l.take n).length=n:=by rw [Ba];omega
 have b2A:n≤60:=by omega
 generalize l.take n=os at hs1 hin1 hln;have HS:=AQ hs1;have ZE:=AQ hin1;have Om:=AQ hln;have HA:=AQ (fun w=>aN (by decide) Zt (by decide) w);clear h hin hs1 hin1 hln hn;go_enter Tryz.func12,Tryz.ntmps12
 go_wp2_with fail
 (with_reducible refine (newP w).mono ?_);rintro e w1 ⟨tv,F0,rfl,h0,hn0,hu0⟩;obtain ⟨q,hq⟩:∃q,tv=.pointer (some ⟨q,0,none⟩):=by obtain ⟨q,_,_,_,_,_,e,-⟩:=h0;exact ⟨q,e⟩
 subst hq;have H0:=AQ (⟨h0,gI,gJ,hn0,hu0⟩:Held w w1 (.pointer (some ⟨q,0,none⟩)) P0 F0);clear h0 hn0 hu0;go_wp2_with fail
 go_loopg [23] n (fun g i wr=>∃(k:Nat) (S:Ec) (F:List Nat),g+k=n∧i=.int .i64 (k:Int)∧Held w wr (.pointer (some ⟨q,0,none⟩)) S F∧S.t≤k∧∀b∈Cj S,b.id∈(os.take k).map fun o=>o.s.id)
 case atStart=>exact ⟨0,P0,F0,rfl,rfl,H0.out,Nat.le_refl _,by intro b hb;simp [Cj,P0,live,CZ] at hb⟩
 case round=>
  obtain ⟨k,S,F,hk,rfl,hH,ht,eU⟩:=hrel;have k0:(0:Int)≤(k:Int):=AU _;have hkn:k≤n:=by omega
  have HK:=AQ hk;clear hk;by_cases hlt:k<n
  ·obtain ⟨o,ho⟩:∃o,os[k]? = some o:=⟨_,AX (by rw [Om.out];exact hlt)⟩;have hoi:o.BO:=ZE.out o (List.mem_of_getElem? ho);obtain ⟨g,og,hA,-,-,ey⟩:=(HS.out.Bh hH.upd).at ho
   cases hA
   have y0:wr.cell? ⟨g,og+k*8,none⟩=some (.int .u8 (o.u:Int)):=ey 0 _ rfl;have y1:wr.cell? ⟨g,og+k*8+1,none⟩=some (.int .i64 o.s.x1):=ey 1 _ rfl;have y2:wr.cell? ⟨g,og+k*8+2,none⟩=some (.int .i64 o.s.x2):=ey 2 _ rfl;have y3:wr.cell? ⟨g,og+k*8+3,none⟩=some (.int .i64 o.s.y1):=ey 3 _ rfl;have y4:wr.cell? ⟨g,og+k*8+4,none⟩=some (.int .i64 o.s.y2):=ey 4 _ rfl;have y5:wr.cell? ⟨g,og+k*8+5,none⟩=some (.int .u32 (o.s.id:Int)):=ey 5 _ rfl;have y6:wr.cell? ⟨g,og+k*8+6,none⟩=some (.int .i64 o.x):=ey 6 _ rfl;have y7:wr.cell? ⟨g,og+k*8+7,none⟩=some (.int .i64 o.y):=ey 7 _ rfl;have b1:(k:Int)<(n:Int):=by omega
   have HD:=AQ (fun (w9:World) (hu:Bf [] wr w9)=>a0a (hH.quiet hu) o hoi (by omega));unfold lC at HD
   have hnx:∀b∈gV (Cj S) o,b.id∈(os.take (k+1)).map fun o=>o.s.id:=by
    obtain ⟨g1,g2⟩:=AV ho;rw [AZ g1,g2,List.map_append];exact a1K o eU
   have HH:=Ai ht hnx;clear ho hoi ey hH ht eU hnx;go_upto_region 6 with fail
   obtain ⟨Wx,wo,SE,JJ⟩:=BJ wr #[.int .u8 (o.u:Int),.int .i64 o.s.x1,.int .i64 o.s.x2,.int .i64 o.s.y1,.int .i64 o.s.y2,.int .u32 (o.s.id:Int),.int .i64 o.x,.int .i64 o.y] 30;rw [←wo];have z0:Wx.cell? ⟨wr.heap.size,0,none⟩=some (.int .u8 (o.u:Int)):=JJ.cell 0;have z1:Wx.cell? ⟨wr.heap.size,1,none⟩=some (.int .i64 o.s.x1):=JJ.cell 1;have z2:Wx.cell? ⟨wr.heap.size,2,none⟩=some (.int .i64 o.s.x2):=JJ.cell 2;have z3:Wx.cell? ⟨wr.heap.size,3,none⟩=some (.int .i64 o.s.y1):=JJ.cell 3;have z4:Wx.cell? ⟨wr.heap.size,4,none⟩=some (.int .i64 o.s.y2):=JJ.cell 4;have z5:Wx.cell? ⟨wr.heap.size,5,none⟩=some (.int .u32 (o.s.id:Int)):=JJ.cell 5;have z6:Wx.cell? ⟨wr.heap.size,6,none⟩=some (.int .i64 o.x):=JJ.cell 6;have z7:Wx.cell? ⟨wr.heap.size,7,none⟩=some (.int .i64 o.y):=JJ.cell 7;have HUX:=AQ SE;clear wo JJ SE y0 y1 y2 y3 y4 y5 y6 y7;generalize wr.heap.size=qx at z0 z1 z2 z3 z4 z5 z6 z7 ⊢;go_wp2_with fail
   (with_reducible refine (HD.out _ HUX.out).mono ?_);rintro e w3 ⟨n0,rfl,S',F',hh,-,-,haf⟩;have HE:=Aj hh haf.t haf.lv;clear hh haf z0 z1 z2 z3 z4 z5 z6 z7;go_wp2_with fail
   go_roundg (n - (k+1))
   case measure=>have:=HK.out;omega
   case rel=>
    obtain ⟨e1,e2,e3⟩:=HE.out;obtain ⟨f1,f2⟩:=HH.out;exact ⟨k+1,S',F',Ac HK,by go_num,e1,by omega,by rw [e3];exact f2⟩
  ·have hkn2:k=n:=by omega
   have hall:os.take k=os:=by rw [List.take_of_length_le];rw [Om.out];omega
   rw [hall] at eU;have Yn:=a0c hH.inv.names eU;have hlv:=Ji hH.inv;have YX:=a8F hH (.slice A1 n C1) os (HS.out.Bh hH.upd) ZE.out (by rw [Om.out];omega) (by omega);obtain ⟨G,hG⟩:∃G,Ku (Cj S) (os.map fun o=>o.s.id)=G:=⟨_,rfl⟩;rw [hG] at Yn YX;have hgl:=Yn.length_eq;obtain ⟨nl,hnl⟩:∃x,(Cj S).length=x:=⟨_,rfl⟩;rw [hnl] at hgl hlv;rw [hgl] at YX;have a0h:∀b∈G,b.BO:=fun b hb=>(hH.good.BO b (Yn.mem_iff.1 hb)).1
   have hst:S.t<999:=by omega
   have hca:=fun (w9:World) (hu:Bf [] wr w9)=>Wu (hH.quiet hu) hst
   have hcr:=fun (w9:World) (hu:Bf [] wr w9)=>aJ (hH.quiet hu) hst
   have hcb:=fun (w9:World) (v9:Value) (hs:See G5 w9 v9 G)=>QU v9 G w9 hs (by rw [hgl];omega) a0h
   have hcd:=fun (w9:World) (v9:Value) (hs:See G5 w9 v9 G)=>Yd v9 G w9 hs (by rw [hgl];omega) a0h
   have hcl:=fun (w9:World) (hu:Bf [] wr w9)=>b1A _ F S w9 (hH.is.upd hu (by simp)) hH.inv
   unfold I8 at hcb;unfold Kr at hcd;rw [OI Yn] at hcb;rw [QX Yn] at hcd;rw [hnl] at hcl;obtain ⟨ah,al,hav,-,-⟩:=DX (BZ (Cj S)).toNat;obtain ⟨rh,rl,hrv,-,-⟩:=DX (DU (Cj S)).toNat;generalize X9 G=ea at hcb;generalize Yx G=er at hcd;rw [hav] at hca hcb;rw [hrv] at hcr hcd;have eq1:∀w,(binOp .eql 52 (.agg #[.int .u64 (ah:Int),.int .u64 (al:Int)]) (.agg #[.int .u64 (ah:Int),.int .u64 (al:Int)])).run Tryz.prog w=.ok (.bool true) w:=fun w=>sN _ _ w
   have eq2:∀w,(binOp .eql 52 (.agg #[.int .u64 (rh:Int),.int .u64 (rl:Int)]) (.agg #[.int .u64 (rh:Int),.int .u64 (rl:Int)])).run Tryz.prog w=.ok (.bool true) w:=fun w=>sN _ _ w
   have e0:((nl:Int)==(nl:Int))=true:=by simp
   have xJ:=AQ YX;have HCA:=AQ hca;have HCB:=AQ hcb;have HCR:=AQ hcr;have HCD:=AQ hcd;have uY:=AQ hcl;have Rk:=AQ hH.upd;obtain ⟨wl,rfl⟩:∃wl:World,wl=wr:=⟨_,rfl⟩;clear hH ht eU Yn YX hgl a0h hst hca hcr hcb hcd hcl hav hrv hall hG hnl hkn2;go_wp2_with fail
   (with_reducible refine xJ.out.mono ?_);rintro e w3 ⟨A3,C3,rfl,r3,u3⟩;have R3:=AQ (show See G5 w3 (.slice A3 nl C3) G from See.BX r3);have U3:=AQ u3;clear r3 u3 xJ;go_wp2_with fail
   (with_reducible refine (HCA.out _ U3.out).mono ?_);rintro e v4 ⟨ea4,rfl,u4⟩;obtain ⟨x4,hx4,y4,q4⟩:=BJ v4 #[.int .u64 (ah:Int),.int .u64 (al:Int)] 52;go_upto_region 10 with fail
   rw [←hx4];clear hx4;generalize v4.heap.size=pa at q4 ⊢;have U4x:=AQ (U3.out.trans (u4.trans y4));have R4x:=AQ ((R3.out.Bh u4).Bh y4);have gQ:=AQ q4;clear u4 y4 q4 U3 R3;go_wp2_with fail
   (with_reducible refine (HCB.out _ _ R4x.out).mono ?_);rintro e v5 ⟨rfl,u5⟩;obtain ⟨x5,hx5,y5,q5⟩:=BJ v5 #[.int .u64 (ah:Int),.int .u64 (al:Int)] 52;go_upto_region 11 with fail
   rw [←hx5];clear hx5;generalize v5.heap.size=pb at q5 ⊢;have U5x:=AQ (U4x.out.trans (u5.trans y5));have R5x:=AQ ((R4x.out.Bh u5).Bh y5);have a0i:=AQ ((gQ.out.Bh u5).Bh y5);have a8I:=AQ q5;clear u5 y5 q5 U4x R4x gQ;go_wp2_with fail
   (with_reducible refine (HCR.out _ U5x.out).mono ?_);rintro e v6 ⟨er6,rfl,u6⟩;obtain ⟨x6,hx6,y6,q6⟩:=BJ v6 #[.int .u64 (rh:Int),.int .u64 (rl:Int)] 52;go_upto_region 12 with fail
   rw [←hx6];clear hx6;generalize v6.heap.size=pc at q6 ⊢;have U6x:=AQ (U5x.out.trans (u6.trans y6));have R6x:=AQ ((R5x.out.Bh u6).Bh y6);have gU:=AQ ((a0i.out.Bh u6).Bh y6);have a8J:=AQ ((a8I.out.Bh u6).Bh y6);have a8K:=AQ q6;clear u6 y6 q6 U5x R5x a0i a8I;go_wp2_with fail
   (with_reducible refine (HCD.out _ _ R6x.out).mono ?_);rintro e v7 ⟨rfl,u7⟩;obtain ⟨x7,hx7,y7,q7⟩:=BJ v7 #[.int .u64 (rh:Int),.int .u64 (rl:Int)] 52;go_upto_region 13 with fail
   rw [←hx7];clear hx7;generalize v7.heap.size=pd at q7 ⊢;have U7x:=AQ (U6x.out.trans (u7.trans y7));have R7x:=AQ ((R6x.out.Bh u7).Bh y7);have a0j:=AQ ((gU.out.Bh u7).Bh y7);have a8L:=AQ ((a8J.out.Bh u7).Bh y7);have a8M:=AQ ((a8K.out.Bh u7).Bh y7);have a8N:=AQ q7;clear u7 y7 q7 U6x R6x gU a8J a8K;have za0:x7.cell? ⟨pa,0,none⟩=some (.int .u64 (ah:Int)):=a0j.out.cell 0;have za1:x7.cell? ⟨pa,1,none⟩=some (.int .u64 (al:Int)):=a0j.out.cell 1;have zb0:x7.cell? ⟨pb,0,none⟩=some (.int .u64 (ah:Int)):=a8L.out.cell 0;have zb1:x7.cell? ⟨pb,1,none⟩=some (.int .u64 (al:Int)):=a8L.out.cell 1;have zc0:x7.cell? ⟨pc,0,none⟩=some (.int .u64 (rh:Int)):=a8M.out.cell 0;have zc1:x7.cell? ⟨pc,1,none⟩=some (.int .u64 (rl:Int)):=a8M.out.cell 1;have zd0:x7.cell? ⟨pd,0,none⟩=some (.int .u64 (rh:Int)):=a8N.out.cell 0;have zd1:x7.cell? ⟨pd,1,none⟩=some (.int .u64 (rl:Int)):=a8N.out.cell 1;go_wp2_with fail
   (with_reducible refine (uY.out _ U7x.out).mono ?_);rintro e w9 ⟨rfl,rfl⟩;go_wp2_with fail
   (with_reducible refine (HA.out _).mono ?_);rintro e w9 ⟨rfl,u9⟩;have ZL:=AQ (Rk.out.trans (U7x.out.trans u9));clear u9;go_wp2_with fail
   go_ret
   exact ⟨rfl,ZL.out⟩
