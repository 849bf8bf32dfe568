/- boxes.Drop, Get. Printed by genBx.py. boxes: plainly: what the trees of all buckets have together. boxes.At. -/
import Derived.Test.YtkbaaonchdeneaaGreatPb34
set_option maxHeartbeats 8000000
set_option maxRecDepth 100000
namespace Go.Proofs.YtkbaaonchdeneaaGreat.GN
open Go.RowKit
open Go.Proofs.YtkbaaonchdeneaaGreat.EI (Cc CJ)
open Go.Proofs.YtkbaaonchdeneaaGreat.Nm (Hz EK Dh TG IY Bq EJ place ZT)
open Go.Proofs.YtkbaaonchdeneaaGreat.Ps
theorem get_none {S:Ec} (I:Dl Bx.id S) (x:Nat):place S.N x=none↔get S x=none:=by
 constructor
 ·intro h;unfold Ps.get;rw [h];rfl
 ·intro h;rw [I.none];intro s hs e;have:=(I.get x s).2 ⟨hs,e⟩;rw [h] at this
  cases this
theorem XG (tv:Value) (F:List Nat) (S:Ec) (x:Nat) (w:World) (H:JO w tv F S) (I:Dl Bx.id S) (ht:S.t<90000) (hx:get S x=none) :
 Calls Tryz.prog 22 #[tv,.int .u32 (x:Int)] w fun e w'=>e=.returned (.tuple #[.int .i64 0,.bool false])∧Bf [] w w':=by
 have hlow:=I.low;obtain ⟨q,hv,dv,av,Fh,Fd,rfl,H,hF⟩:=H;obtain ⟨h,rfl⟩:=Cc.ptr H.half;obtain ⟨d,rfl⟩:=Hz.ptr H.dir;obtain ⟨h0,h1,h2⟩:=H.head.cells3;have HN:=AQ (Rt q h w h0);have HD:=AQ (Nm.xY _ Fd S.N x w H.dir I.dir (Ac hlow.1) ((get_none I x).2 hx));clear H hF I hx hlow;go_enter Tryz.func22,Tryz.ntmps22
 go_wp2_with fail
 (with_reducible refine HN.out.mono ?_);rintro e w' ⟨rfl,rfl⟩;go_wp2_with fail
 (with_reducible refine HD.out.mono ?_);rintro e w2 ⟨rfl,hu⟩;have HU:=AQ hu;clear hu;go_wp2_with fail
 go_ret2
 exact ⟨rfl,HU.out⟩
def Z5 (w:World) (tv:Value) (F:List Nat) (S:Ec) (x:Nat) (s:Bx) (k:Nat) (e:Ending) (w':World):Prop:=
 e=.returned (.tuple #[.int .i64 ((EI.OT S.H s:Nat):Int),.bool true])∧OU w w' tv F (KX S x s k)
theorem QK (tv:Value) (F:List Nat) (S:Ec) (x k:Nat) (s:Bx) (w:World) (H:JO w tv F S) (I:Dl Bx.id S) (hg:EI.Good (Cj S)) (ht:S.t<999) (hs:get S x=some s) (hk:S.H.mp.lookup s=some (k:Int)) :
 Calls Tryz.prog 22 #[tv,.int .u32 (x:Int)] w (Z5 w tv F S x s k):=by
 have hlow:=I.low;have hal2:=I.jS;obtain ⟨q,hv,dv,av,Fh,Fd,rfl,H,hF⟩:=H;obtain ⟨h,rfl⟩:=Cc.ptr H.half;obtain ⟨d,rfl⟩:=Hz.ptr H.dir;obtain ⟨A,C,hav⟩:∃A C,av=.slice A S.all.length C:=Bv H.all;subst hav;obtain ⟨h0,h1,h2⟩:=H.head.cells3;obtain ⟨hm,hid⟩:=(I.get x s).1 hs;obtain ⟨i,hpi,hai⟩:=I.ofs s hm;rw [hid] at hpi;have hlv:=Ji I;have hcs:=Ps.FK.len I.half;have hal:=I.al;have hwk:=I.wk;have hin:=hg.BO s hm;have HN:=AQ (Rt q h w h0);have HD:=AQ (Nm.rP _ Fd S.N x i w H.dir I.dir (Ac hlow.1) (Ac hlow.2) hpi);have HDR:=AQ (fun (w2:World) (hh:Cc w2 (.pointer (some ⟨h,0,none⟩)) Fh S.H)=>EI.jU _ Fh S.H s k w2 hh I.half hin hk (by omega) (by omega) hg (by show (Cj S).length≤1000;omega));have HH:=AQ H;have V5:=AQ hF;obtain ⟨nn,hnn⟩:∃n,S.all.length=n:=⟨_,rfl⟩;have ZR:=AQ hnn;have hi:i<nn:=by rw [←hnn];exact (AV hai).1
 have HAI:=AQ hai;have i0:(0:Int)≤(i:Int):=AU _;have i1:(i:Int)<(nn:Int):=by omega
 unfold Z5;clear H hF I hs hk hlow hal2 hm hid hpi hai hlv hcs hal hwk hin hg hi hnn;go_enter Tryz.func22,Tryz.ntmps22
 go_wp2_with fail
 (with_reducible refine HN.out.mono ?_);rintro e w' ⟨rfl,rfl⟩;go_wp2_with fail
 (with_reducible refine HD.out.mono ?_);rintro e w3 ⟨rfl,hst3⟩;obtain ⟨Fd3,H3,hu3,hF3⟩:=HH.out.dirs hst3;obtain ⟨c0,c1,c2⟩:=H3.head.cells3;rw [ZR.out] at c2;have FD:See G5 w3 (.slice A S.all.length C) S.all:=See.BX H3.all;obtain ⟨g,og,hA,-,-,ey⟩:=FD.at HAI.out;subst hA;have y0:w3.cell? ⟨g,og+i*5,none⟩=some (.int .i64 s.x1):=ey 0 _ rfl;have y1:w3.cell? ⟨g,og+i*5+1,none⟩=some (.int .i64 s.x2):=ey 1 _ rfl;have y2:w3.cell? ⟨g,og+i*5+2,none⟩=some (.int .i64 s.y1):=ey 2 _ rfl;have y3:w3.cell? ⟨g,og+i*5+3,none⟩=some (.int .i64 s.y2):=ey 3 _ rfl;have y4:w3.cell? ⟨g,og+i*5+4,none⟩=some (.int .u32 (s.id:Int)):=ey 4 _ rfl;have hq3:=H3.head.lt;have hgs:=World.block_lt_of_cell? _ _ y0;have hqh:q∉Fh:=fun hc=>H3.Gu (i:=0) (j:=1) rfl rfl (by omega) q (by simp) hc
 have hgh:g∉Fh:=fun hc=>H3.Gu (i:=1) (j:=3) rfl rfl (by omega) g hc (by simp [blk])
 have HA:=AQ (HDR.out w3.drew (H3.half.upd ((Bf.refl [] w3).drew) (by simp)));have SG:=Aj H3 hu3 hF3;clear H3 hu3 hF3 hst3 FD ey c1 h0 h1 h2;go_upto_region 6 with fail
 refine Bj.start [11,12,13,14,15] (fun w'=>Bf [] w3 w') (by kernel_rfl) ?_ fun hS=>?_
 ·exact (Bf.refl _ _).drew
 refine' Bj.mw 0 (oi:=⟨some 21,_,_,_,_,_⟩) ?_
 simp only [Act.put,sA,sZ,sS];refine' Bj.mw 1 (oi:=⟨some 22,_,_,_,_,_⟩) ?_
 simp only [Act.put,sA,sZ,sS];refine' Bj.mw 2 (oi:=⟨some 23,_,_,_,_,_⟩) ?_
 simp only [Act.put,sA,sZ,sS];refine' Bj.tk 4 (i:=3) (oi:=⟨some 24,_,_,_,_,_⟩) rfl (by rfl) ?b1G ?_
 case b1G=>intro w hSw;have d9:=(hSw.cell (p:=⟨q,0,none⟩) hq3 (by simp)).trans c0;go_simp<;>with_reducible rfl
 simp only [Act.put,sA,sZ,sS];refine' Bj.mw 4 (oi:=⟨some 25,_,_,_,_,_⟩) ?_
 simp only [Act.put,sA,sZ,sS];refine' Bj.mw 5 (oi:=⟨some 26,_,_,_,_,_⟩) ?_
 simp only [Act.put,sA,sZ,sS];refine' Bj.mw 6 (oi:=⟨some 27,_,_,_,_,_⟩) ?_
 simp only [Act.put,sA,sZ,sS];refine' Bj.tk 4 (i:=7) (oi:=⟨some 28,_,_,_,_,_⟩) rfl (by rfl) ?b1H ?_
 case b1H=>intro w hSw;have d9:=(hSw.cell (p:=⟨q,2,none⟩) hq3 (by simp)).trans c2;go_simp<;>with_reducible rfl
 simp only [Act.put,sA,sZ,sS];refine' Bj.mw 8 (oi:=⟨some 29,_,_,_,_,_⟩) ?_
 simp only [Act.put,sA,sZ,sS];refine' Bj.mw 9 (oi:=⟨some 30,_,_,_,_,_⟩) ?_
 simp only [Act.put,sA,sZ,sS];refine' Bj.tk 4 (i:=10) (oi:=⟨some 31,_,_,_,_,_⟩) rfl (by rfl) ?a7M ?_
 case a7M=>intro w hSw;have k50:=(hSw.cell (p:=⟨g,og+i*5,none⟩) hgs (by simp)).trans y0;have k51:=(hSw.cell (p:=⟨g,og+i*5+1,none⟩) hgs (by simp)).trans y1;have k52:=(hSw.cell (p:=⟨g,og+i*5+2,none⟩) hgs (by simp)).trans y2;have k53:=(hSw.cell (p:=⟨g,og+i*5+3,none⟩) hgs (by simp)).trans y3;have k54:=(hSw.cell (p:=⟨g,og+i*5+4,none⟩) hgs (by simp)).trans y4;go_simp<;>with_reducible rfl
 simp only [Act.put,sA,sZ,sS];refine Bj.one (i:=11) (o:=⟨some 32,_,_,_,_,_⟩) rfl (by kernel_rfl) fun K hK=>?_
 go_simp
 go_at_call 75
 (with_reducible refine HA.out.mono ?_);rintro e w7 ⟨rfl,hs7⟩;refine hK.out _ _ (fun h=>(by cases h)) ?_
 clear hK K;try simp only [Act.put,sA,sZ,sS]
 refine' Bj.mw 12 (oi:=⟨some 33,_,_,_,_,_⟩) ?_
 simp only [Act.put,sA,sZ,sS];refine' Bj.mw 13 (oi:=⟨some 34,_,_,_,_,_⟩) ?_
 simp only [Act.put,sA,sZ,sS];refine' Bj.mw 14 (oi:=⟨some 4,_,_,_,_,_⟩) ?_
 simp only [Act.put,sA,sZ,sS];refine' Bj.mw 15 (oi:=⟨some 5,_,_,_,_,_⟩) ?_
 simp only [Act.put,sA,sZ,sS];refine Bj.done (by kernel_rfl) ?_
 have H6d:=SG.1.upd ((Bf.refl [] w3).drew) (by intro P hP y hy;simp);obtain ⟨Fh7,H7,Oo,rO⟩:=H6d.halves hs7;have HH7:=Aj H7 Oo rO;clear H6d H7 Oo rO hs7 c0 c2 y0 y1 y2 y3 y4 hS;go_wp2_with fail
 go_ret2
 refine ⟨rfl,?_⟩
 obtain ⟨H7,Oo,rO⟩:=HH7.out;obtain ⟨H3,hu3,hF3⟩:=SG.out;have sz3:=hu3.size;have sz7:w3.drew.heap.size=w3.heap.size:=rfl;refine ⟨_,⟨q,_,_,_,_,_,rfl,⟨H7.head,H7.half,H7.dir,H7.all,H7.apart⟩,rfl⟩,?_,?_⟩
 ·exact (hu3.mono (fun y hy=>.inl (by rw [V5.out];exact Bq (i:=2) rfl hy))).trans (((Bf.refl [] w3).drew.mono (by simp)).trans (Oo.mono (fun y hy=>.inl (by rw [V5.out];exact Bq (i:=1) rfl hy))))
 ·intro y hy;rw [V5.out];simp only [Gw,List.flatten_cons,List.flatten_nil,List.append_nil,List.mem_append] at hy ⊢;rcases hy with hy | hy | hy | hy
  ·exact .inl (.inl hy)
  ·rcases rO y hy with g | g
   ·exact .inl (.inr (.inl g))
   ·right;omega
  ·rcases hF3 y hy with g | g
   ·exact .inl (.inr (.inr (.inl g)))
   ·right;omega
  ·exact .inl (.inr (.inr (.inr hy)))
def bxO (o:Option Bx):Value:=match o with | some s=>L8 s | none=>.agg #[.int .i64 0,.int .i64 0,.int .i64 0,.int .i64 0,.int .u32 0]
theorem a4N (tv:Value) (F:List Nat) (S:Ec) (x:Nat) (w:World) (H:JO w tv F S) (I:Dl Bx.id S) (ht:S.t<90000) :
 Calls Tryz.prog 23 #[tv,.int .u32 (x:Int)] w fun e w'=>e=.returned (.tuple #[bxO (get S x),.bool (get S x).isSome])∧Bf [] w w':=by
 have uf:=H.lt;obtain ⟨W,hW,hu0,hq0⟩:=BJ w #[.int .i64 0,.int .i64 0,.int .i64 0,.int .i64 0,.int .u32 0] 28;have H:=H.upd hu0 (by simp);have hlow:=I.low;have hln:=I.dir.len;have hal2:=I.jS;obtain ⟨q,hv,dv,av,Fh,Fd,rfl,H,hF⟩:=H;obtain ⟨h,rfl⟩:=Cc.ptr H.half;obtain ⟨d,rfl⟩:=Hz.ptr H.dir;obtain ⟨A,C,hav⟩:∃A C,av=.slice A S.all.length C:=Bv H.all;subst hav;obtain ⟨h0,h1,h2⟩:=H.head.cells3;have HN:=AQ (Rt q h W h0);have HD:=AQ (Nm.a4C _ Fd S.N x W H.dir I.dir (Ac hlow.1));have HH:=AQ H;have HQ:=AQ hq0;have ET:=AQ hu0;have Ro:=AQ hW;have HI:=AQ I;obtain ⟨nn,hnn⟩:∃n,S.all.length=n:=⟨_,rfl⟩;rw [hnn] at h2;have ZR:=AQ hnn;have Sl:=H.head.lt;have hxs:=hq0.lt;obtain ⟨x0,x1,x2,x3,x4⟩:=hq0.cells5;have xf:∀j,W.frozen? ⟨w.heap.size,j,none⟩=false:=fun j=>hq0.frozen j
 have hxq:¬w.heap.size=q:=fun e=>Nat.lt_irrefl _ (uf _ (by rw [hF,e];exact Bq (i:=0) (P:=[q]) rfl (by simp)))
 have hxa:∀g C2,A=some ⟨g,0,C2⟩→¬w.heap.size=g:=fun g C2 hA e=>Nat.lt_irrefl _ (uf _ (by rw [hF,hA,←e];exact Bq (i:=3) rfl (by simp [blk])))
 have HXA:=AQ hxa;clear H hF hq0 hu0 hW I hlow hln hal2 hnn uf hxa;obtain ⟨qx,JJ⟩:∃k,w.heap.size=k:=⟨_,rfl⟩;rw [JJ] at HQ hxs x0 x1 x2 x3 x4 xf hxq HXA;have HQX:=AQ JJ
 cases hp:place S.N x with
 |none=>
  have hg:get S x=none:=(get_none HI.out x).1 hp;have hv:ZT (none:Option Nat)=0:=rfl;have hD:=HD.out;unfold Nm.QI at hD;rw [hp,hv] at hD;have HD2:=AQ hD;rw [hg]
  have hs5:∀w2,Bf [] W w2→Ic (((((w2.setCell ⟨qx,0,none⟩ (.int .i64 0)).setCell ⟨qx,1,none⟩ (.int .i64 0)).setCell ⟨qx,2,none⟩ (.int .i64 0)).setCell ⟨qx,3,none⟩ (.int .i64 0)).setCell ⟨qx,4,none⟩ (.int .u32 0)) qx #[.int .i64 0,.int .i64 0,.int .i64 0,.int .i64 0,.int .u32 0] 28∧Bf [qx] w2 (((((w2.setCell ⟨qx,0,none⟩ (.int .i64 0)).setCell ⟨qx,1,none⟩ (.int .i64 0)).setCell ⟨qx,2,none⟩ (.int .i64 0)).setCell ⟨qx,3,none⟩ (.int .i64 0)).setCell ⟨qx,4,none⟩ (.int .u32 0)):=fun w2 hu=>
   ⟨(((((HQ.out.Bh hu).set 0 (.int .i64 0)).set 1 (.int .i64 0)).set 2 (.int .i64 0)).set 3 (.int .i64 0)).set 4 (.int .u32 0),((((((Bf.refl _ _).setCell (p:=⟨qx,0,none⟩) (.inl (by simp)) _).setCell (p:=⟨qx,1,none⟩) (.inl (by simp)) _).setCell (p:=⟨qx,2,none⟩) (.inl (by simp)) _).setCell (p:=⟨qx,3,none⟩) (.inl (by simp)) _).setCell (p:=⟨qx,4,none⟩) (.inl (by simp)) _)⟩
  have HS5:=AQ hs5;clear hp hg hv hD hs5 HD;go_enter Tryz.func23,Tryz.ntmps23
  go_upto_region 1 with fail
  rw [←Ro.out];clear Ro JJ;go_wp2_with fail
  (with_reducible refine HN.out.mono ?_);rintro e w' ⟨rfl,rfl⟩;go_wp2_with fail
  (with_reducible refine HD2.out.mono ?_);rintro e w2 ⟨t,rfl,hu⟩;have HU:=AQ hu;obtain ⟨y0,y1,y2,y3,y4⟩:=(HQ.out.Bh hu).cells5;have f0:=(HQ.out.Bh hu).frozen 0;have f1:=(HQ.out.Bh hu).frozen 1;have f2:=(HQ.out.Bh hu).frozen 2;have f3:=(HQ.out.Bh hu).frozen 3;have f4:=(HQ.out.Bh hu).frozen 4;clear hu x0 x1 x2 x3 x4 xf;dsimp only;go_wp2_with fail
  obtain ⟨g5,u5⟩:=HS5.out w2 HU.out;obtain ⟨z0,z1,z2,z3,z4⟩:=g5.cells5;exact bodyPost_ret (v:=.tuple #[.agg #[.int .i64 0,.int .i64 0,.int .i64 0,.int .i64 0,.int .u32 0],.bool false]) (by simp [results,Tryz.results23,go_sem,z0,z1,z2,z3,z4]) rfl ⟨rfl,(ET.out.trans HU.out).trans' u5 (fun k hk=>by simp at hk;subst hk;right;have:=HQX.out;omega)⟩
 |some i=>
  obtain ⟨s,hm,hai,hid⟩:=HI.out.tos x i hp;have hg:get S x=some s:=(HI.out.get x s).2 ⟨hm,hid⟩;have hv:ZT (some i)=(i:Int):=rfl;have hD:=HD.out;unfold Nm.QI at hD;rw [hp,hv] at hD;have HD2:=AQ hD;rw [hg];have hi:i<nn:=by rw [←ZR.out];exact (AV hai).1
  have i0:(0:Int)≤(i:Int):=AU _;have i1:(i:Int)<(nn:Int):=by omega
  have HAI:=AQ hai
  have hs5:∀w2,Bf [] W w2→Ic (((((w2.setCell ⟨qx,0,none⟩ (.int .i64 s.x1)).setCell ⟨qx,1,none⟩ (.int .i64 s.x2)).setCell ⟨qx,2,none⟩ (.int .i64 s.y1)).setCell ⟨qx,3,none⟩ (.int .i64 s.y2)).setCell ⟨qx,4,none⟩ (.int .u32 (s.id:Int))) qx #[.int .i64 s.x1,.int .i64 s.x2,.int .i64 s.y1,.int .i64 s.y2,.int .u32 (s.id:Int)] 28∧Bf [qx] w2 (((((w2.setCell ⟨qx,0,none⟩ (.int .i64 s.x1)).setCell ⟨qx,1,none⟩ (.int .i64 s.x2)).setCell ⟨qx,2,none⟩ (.int .i64 s.y1)).setCell ⟨qx,3,none⟩ (.int .i64 s.y2)).setCell ⟨qx,4,none⟩ (.int .u32 (s.id:Int))):=fun w2 hu=>
   ⟨(((((HQ.out.Bh hu).set 0 (.int .i64 s.x1)).set 1 (.int .i64 s.x2)).set 2 (.int .i64 s.y1)).set 3 (.int .i64 s.y2)).set 4 (.int .u32 (s.id:Int)),((((((Bf.refl _ _).setCell (p:=⟨qx,0,none⟩) (.inl (by simp)) _).setCell (p:=⟨qx,1,none⟩) (.inl (by simp)) _).setCell (p:=⟨qx,2,none⟩) (.inl (by simp)) _).setCell (p:=⟨qx,3,none⟩) (.inl (by simp)) _).setCell (p:=⟨qx,4,none⟩) (.inl (by simp)) _)⟩
  have HS5:=AQ hs5;clear hp hg hv hD hs5 HD hm hai hid hi;go_enter Tryz.func23,Tryz.ntmps23
  go_upto_region 1 with fail
  rw [←Ro.out];clear Ro JJ;go_wp2_with fail
  (with_reducible refine HN.out.mono ?_);rintro e w' ⟨rfl,rfl⟩;go_wp2_with fail
  (with_reducible refine HD2.out.mono ?_);rintro e w2 ⟨t,rfl,hu⟩;have HU:=AQ hu;obtain ⟨y0,y1,y2,y3,y4⟩:=(HQ.out.Bh hu).cells5;have f0:=(HQ.out.Bh hu).frozen 0;have f1:=(HQ.out.Bh hu).frozen 1;have f2:=(HQ.out.Bh hu).frozen 2;have f3:=(HQ.out.Bh hu).frozen 3;have f4:=(HQ.out.Bh hu).frozen 4;have H3:=HH.out.upd hu (by intro P hP y hy;simp);obtain ⟨c0,c1,c2⟩:=H3.head.cells3;rw [ZR.out] at c2;have FD:See G5 w2 (.slice A S.all.length C) S.all:=See.BX H3.all;obtain ⟨g,og,hA,-,-,ey⟩:=FD.at HAI.out;subst hA;have e0:w2.cell? ⟨g,og+i*5,none⟩=some (.int .i64 s.x1):=ey 0 _ rfl;have e1:w2.cell? ⟨g,og+i*5+1,none⟩=some (.int .i64 s.x2):=ey 1 _ rfl;have e2:w2.cell? ⟨g,og+i*5+2,none⟩=some (.int .i64 s.y1):=ey 2 _ rfl;have e3:w2.cell? ⟨g,og+i*5+3,none⟩=some (.int .i64 s.y2):=ey 3 _ rfl;have e4:w2.cell? ⟨g,og+i*5+4,none⟩=some (.int .u32 (s.id:Int)):=ey 4 _ rfl;clear hu x0 x1 x2 x3 x4 xf H3 FD ey c0 c1 h0 h1 h2;dsimp only;go_wp2_with fail
  obtain ⟨g5,u5⟩:=HS5.out w2 HU.out;obtain ⟨z0,z1,z2,z3,z4⟩:=g5.cells5;exact bodyPost_ret (v:=.tuple #[.agg #[.int .i64 s.x1,.int .i64 s.x2,.int .i64 s.y1,.int .i64 s.y2,.int .u32 (s.id:Int)],.bool true]) (by simp [results,Tryz.results23,go_sem,z0,z1,z2,z3,z4]) rfl ⟨rfl,(ET.out.trans HU.out).trans' u5 (fun k hk=>by simp at hk;subst hk;right;have:=HQX.out;omega)⟩
end Go.Proofs.YtkbaaonchdeneaaGreat.GN
namespace Go.Proofs.YtkbaaonchdeneaaGreat.GN
open Go.RowKit
open Go.Proofs.YtkbaaonchdeneaaGreat.EI (Cc CJ Xv O5 U1 Xw MS KT TV tp tq)
open Go.Proofs.YtkbaaonchdeneaaGreat.Nm (Hz EK Dh Bq)
open Go.Proofs.YtkbaaonchdeneaaGreat.Ps
def TL (S:Ec):List (List Bx):=(Xv S.H.cs).map fun i=>live S.H.al (Bo S.H.cs i)
theorem yj (al:List Bool) (a b:List (Bx×Nat)):live al (a++b)=live al a++live al b:=by
 unfold live;rw [LZ,List.map_append]
theorem yt (al:List Bool) (cs:List (Bx×Nat)) (k:Nat):∀m,m+k=BA cs.length→((O5 cs m).map fun i=>live al (Bo cs i)).flatten=live al (cs.take (cs.length / 2 ^ m*2 ^ m)):=by
 induction k with
 |zero=>
  intro m hm;have e:m=BA cs.length:=by omega
  subst e;rw [Xw,Nat.div_eq_of_lt (D7 cs.length),Nat.zero_mul,List.take_zero];rfl
 |succ k ih=>
  intro m hm;have h1:=ih (m+1) (by omega);rw [U1 cs m (by omega),←UC,yj,←h1];by_cases he:(Bo cs m).isEmpty=true
  ·rw [if_pos he];have:Bo cs m = []:=by simpa using he
   rw [this];simp [live,CZ]
  ·rw [if_neg he,List.map_append,List.flatten_append];simp
theorem Z7 (S:Ec):(TL S).flatten=Cj S:=by
 unfold TL Cj Xv;rw [yt S.H.al S.H.cs (BA S.H.cs.length) 0 (by omega)];simp
theorem a4O (S:Ec):(TL S).length≤BA S.H.cs.length:=by
 unfold TL;rw [List.length_map];exact EI.dS _ _
theorem eH (n:Nat):BA (2*n)≤BA n+1:=by
 have h:=D7 n;exact CQ (2*n) (BA n+1) (by rw [Nat.pow_succ];omega)
theorem Yw (cs:List (Bx×Nat)) (i:Nat):(Bo cs i).length≤cs.length:=by
 rw [Ew];split
 ·rename_i hb
  exact Nat.ge_two_pow_of_testBit hb
 ·omega
def iy (l:List Bx) (x y:Int):List Nat:=GZ ((l.filter fun b=>inB b x y).map Bx.id)
def Nw (l:List Bx) (x y:Int):List Nat:=(EU (l.map EI.LU) x).filter fun n=>!(!inB ((EI.Vw l n).getD ⟨0,0,0,0,0⟩) x y)
theorem a1v {l:List Bx} (h:(l.map Bx.id).Nodup) {b:Bx} (hb:b∈l):EI.Vw l b.id=some b:=by
 unfold EI.Vw;induction l with
 |nil=>cases hb
 |cons a l ih=>
  rw [List.map_cons,List.nodup_cons] at h;rw [List.find?_cons];rcases List.mem_cons.1 hb with rfl | hb
  ·simp
  ·have:(a.id==b.id)=false:=by
    rw [beq_eq_false_iff_ne];exact fun e=>h.1 (List.mem_map.2 ⟨b,hb,e.symm⟩)
   rw [this];exact ih h.2 hb
theorem yu {l:List Bx} (h:(l.map Bx.id).Nodup) (x y:Int):(Nw l x y).Perm ((l.filter fun b=>inB b x y).map Bx.id):=by
 unfold Nw EU;refine ((KO _).filter _).trans (List.Perm.of_eq ?_)
 rw [List.filter_map,List.filter_filter,List.filter_map,List.map_map];have e:(Sp.id ∘ EI.LU)=Bx.id:=rfl;rw [e];congr 1
 refine List.filter_congr fun b hb=>?_
 simp only [Function.comp];have e2:EI.Vw l (EI.LU b).id=some b:=a1v h hb;rw [e2];show ((!(!inB b x y))&&JY b.x1 b.x2 x)=inB b x y
 unfold inB WZ JY
 cases decide (b.x1≤x)<;>cases decide (x≤b.x2)<;>cases decide (b.y1≤y)<;>cases decide (y≤b.y2)<;>rfl
theorem Z8 (l:List Bx) (x y:Int):(Nw l x y).length≤(EU (l.map EI.LU) x).length:=List.length_filter_le _ _
theorem a4P {L:List (List Bx)} (h:∀l∈L,(l.map Bx.id).Nodup) (x y:Int):GZ ((L.map fun l=>Nw l x y).flatten)=iy L.flatten x y:=by
 unfold iy;apply Py
 induction L with
 |nil=>exact List.Perm.refl _
 |cons a L ih=>
  rw [List.map_cons,List.flatten_cons,List.flatten_cons,List.filter_append,List.map_append];exact (yu (h a (by simp)) x y).append (ih fun l hl=>h l (by simp [hl]))
theorem atC (l:List Bx) (x y:Int) (id qx qy qb c:Nat) (w:World) (hid:id<4294967296) (hx:w.cell? ⟨qx,0,none⟩=some (.int .i64 x)) (hy:w.cell? ⟨qy,0,none⟩=some (.int .i64 y))
 (hb:w.cell? ⟨qb,1,none⟩=some (.map (some c))) (hm:MapU EI.MKB w c (EI.Vw l) l.length) :
 Calls Tryz.prog 65 #[.int .u32 (id:Int),.pointer (some ⟨qx,0,none⟩),.pointer (some ⟨qy,0,none⟩),.pointer (some ⟨qb,0,none⟩)] w fun e w'=>e=.returned (.bool (!inB ((EI.Vw l id).getD ⟨0,0,0,0,0⟩) x y))∧Bf [] w w':=by
 have hlk:=hm.look1 hid;obtain ⟨bx,hbx⟩:=AO ((EI.Vw l id).getD ⟨0,0,0,0,0⟩)
 have hlk2:(Instr.lookup 25 (.map (some c)) (.int .u32 (id:Int)) false).run Tryz.prog w=.ok (L8 bx) w:=by
  refine hlk.trans ?_
  rw [←hbx]
  cases EI.Vw l id<;>rfl
 rw [hbx];have hin:=fun w9=>inC bx x y 0 w9
 obtain ⟨r,hr⟩:=AO (inB bx x y);rw [hr] at hin ⊢;unfold L8 at hin hlk2;have ZE:=AQ hin;clear hlk hm hbx hin hr;go_enter Tryz.func65,Tryz.ntmps65
 go_wp2_with fail
 (with_reducible refine (ZE.out _).mono ?_);rintro e w1 ⟨rfl,u1⟩;have HU:=AQ u1;clear u1 hx hy hb hlk2;go_wp2_with fail
 go_ret
 exact ⟨rfl,HU.out⟩
end Go.Proofs.YtkbaaonchdeneaaGreat.GN
namespace Go.Proofs.YtkbaaonchdeneaaGreat.GN
open Go.RowKit
open Go.Proofs.YtkbaaonchdeneaaGreat.EI (Cc CJ Xv MS KT TV tp tq LU Vw MKB)
open Go.Proofs.YtkbaaonchdeneaaGreat.Nm (Hz EK Dh Bq)
open Go.Proofs.YtkbaaonchdeneaaGreat.Ps
theorem rV (L:List (List Bx)) (x:Int):((L.map fun l=>EU (l.map LU) x).flatten).length=(EU (L.flatten.map LU) x).length:=by
 induction L with
 |nil=>simp [EU,GZ]
 |cons a L ih=>
  have e:(EU ((a::L).flatten.map LU) x).length=(EU (a.map LU) x).length+(EU (L.flatten.map LU) x).length:=by
   unfold EU;rw [List.flatten_cons,List.map_append,List.filter_append,List.map_append];simp only [Hl,AY]
  rw [e,List.map_cons,List.flatten_cons,AY,ih]
theorem Y5 {f:List Bx→List Nat} {T:List (List Bx)} {k:Nat} {l:List Bx} (h:T[k]? = some l):((T.take (k+1)).map f).flatten=((T.take k).map f).flatten++f l:=by
 obtain ⟨h1,h2⟩:=AV h;rw [AZ h1,h2,List.map_append,List.flatten_append];simp
theorem XH {f:List Bx→List Nat} (hf:∀l,(f l).length≤l.length) (T:List (List Bx)) (k:Nat):((T.take k).map f).flatten.length≤T.flatten.length:=by
 induction T generalizing k with
 |nil=>simp
 |cons a T ih=>
  rcases k with _ | k
  ·simp
  ·rw [List.take_succ_cons,List.map_cons,List.flatten_cons,List.flatten_cons,AY,AY];have:=ih k;have:=hf a;omega
def XI (S:Ec):Nat:=4*(BA S.H.cs.length+1)+4
def yw (w:World) (S:Ec) (L:List Nat) (c:Nat) (e:Ending) (w':World):Prop:=∃t:Nat,Xg w L t e w'∧L.length≤t∧t≤c+XI S*(TL S).length
theorem Z9 (l:List Bx) (x:Int):(EU (l.map LU) x).length≤l.length:=by
 have:=pU (l.map LU) x;rwa [List.length_map] at this
theorem Y6 {S:Ec} (I:Dl Bx.id S) {l:List Bx} {k:Nat} (h:(TL S)[k]? = some l):(l.map Bx.id).Nodup:=by
 have h1:l.Sublist (TL S).flatten:=List.sublist_flatten_of_mem (List.mem_of_getElem? h);rw [Z7] at h1;exact I.names.sublist (h1.map _)
theorem atP {M0:Nat} (hM0:M0≤1000000) (hso:WW M0) (tv:Value) (F:List Nat) (S:Ec) (x y:Int) (w:World) (H:JO w tv F S) (I:Dl Bx.id S) (hg:EI.Good (Cj S)) (ht:S.t<999) (hlm:(Cj S).length<M0) :
 Calls Tryz.prog 17 #[tv,.int .i64 x,.int .i64 y] w (yw w S (iy (Cj S) x y) (EU ((Cj S).map LU) x).length):=by
 obtain ⟨W,hW,hu0,a4Q,a4R⟩:=Pj w #[.int .i64 x] #[.int .i64 y] 2 2;have H:=H.upd hu0 (by simp);obtain ⟨q,hv,dv,av,Fh,Fd,rfl,H,hF⟩:=H;obtain ⟨h,rfl⟩:=Cc.ptr H.half;obtain ⟨h0,-⟩:=H.head.cells3;have tV:=AQ (Rt q h W h0);have hlv:=Ji I;have hcs:=Ps.FK.len I.half;have hal:=I.al;have HT:=AQ (EI.a4w _ _ _ W H.half I.half (by omega));obtain ⟨i0,hi0,hz0,hz1,hz2⟩:=info_parts Xf;have hfl:=Z7 S;have htl:=a4O S;have hTL:(TL S).length=(Xv S.H.cs).length:=by unfold TL;rw [List.length_map]
 obtain ⟨B,hB⟩:=AO (BA S.H.cs.length);have b2t:B≤10:=by rw [←hB];exact CQ S.H.cs.length 10 (by omega)
 obtain ⟨n,hn⟩:=AO ((TL S).length);have b2u:n≤10:=by omega
 have hall:(Cj S).length<1000:=by omega
 have n0:(0:Int)≤(n:Int):=AU _;have n1:(n:Int)≤10:=by omega
 have hcl:∀k,(((TL S).take k).map fun l=>Nw l x y).flatten.length<1000:=fun k=>by
  have:=XH (f:=fun l=>Nw l x y) (fun l=>Bd (Z8 l x y) (Z9 l x)) (TL S) k;rw [hfl] at this;omega
 have a7N:∀k,(((TL S).take k).map fun l=>Nw l x y).flatten.length<M0:=fun k=>by
  have:=XH (f:=fun l=>Nw l x y) (fun l=>Bd (Z8 l x y) (Z9 l x)) (TL S) k;rw [hfl] at this;omega
 have a7O:∀l∈TL S,l.length<M0:=fun l hl=>by
  have h1:=(List.sublist_flatten_of_mem hl).length_le;rw [hfl] at h1;omega
 have rW:=Ap hM0 hso a7N a7O;clear a7N a7O hlm hM0 hso
 have pX:∀k,(((TL S).take k).map fun l=>EU (l.map LU) x).flatten.length<1000:=fun k=>by
  have:=XH (f:=fun l=>EU (l.map LU) x) (fun l=>Z9 l x) (TL S) k;rw [hfl] at this;omega
 obtain ⟨qy,hqy⟩:∃q,w.heap.size+1=q:=⟨_,rfl⟩;obtain ⟨qx,JJ⟩:∃q,w.heap.size=q:=⟨_,rfl⟩;rw [hqy] at a4R;rw [JJ] at a4Q;have HC:=Ai hcl pX;have HB:=AQ hB;have HN:=Aj hn hfl hTL;have HW:=Aj hW JJ hqy;have HQ:=Aj a4Q a4R hu0;have HI:=Aj I hg hlv;have HHH:=AQ H;rw [←hTL,hn] at HT;unfold yw;clear I hg ht hlv hcs hal hfl htl hB hn hcl pX hW JJ hqy a4Q a4R hu0 H hF hTL;go_enter Tryz.func17,Tryz.ntmps17
 go_upto_region 1 with fail
 rw [←HW.1,HW.2.2,HW.2.1];go_wp2_with fail
 (with_reducible refine tV.out.mono ?_);rintro e w0 ⟨rfl,rfl⟩;go_wp2_with fail
 (with_reducible refine HT.out.mono ?_);rintro e w1 ⟨A,C,ts,rfl,a7P,a7Q,hu1,a7R⟩;have HTR:=Aj a7P a7Q a7R;have FY:=AQ hu1;clear a7P a7Q hu1 a7R;go_wp2_with fail
 go_loopg [8,9,22] n (fun m so st si wr=>∃(k t:Nat) (Ao:Option Addr) (Co:Nat),m+k=n∧si=.int .i64 (k:Int)∧st=.int .i64 (t:Int)∧so=.slice Ao (((TL S).take k).map fun l=>Nw l x y).flatten.length Co∧
  KU.row wr w1.heap.size (.slice Ao (((TL S).take k).map fun l=>Nw l x y).flatten.length Co) (((TL S).take k).map fun l=>Nw l x y).flatten∧(((TL S).take k).map fun l=>Nw l x y).flatten.length≤t∧t≤(((TL S).take k).map fun l=>EU (l.map LU) x).flatten.length+XI S*k∧Bf [] w1 wr)
 case atStart=>exact ⟨0,0,none,0,by omega,rfl,rfl,rfl,World.ownsRow_nil _ _ _ _,by simp,by simp,Bf.refl _ _⟩
 case round=>
  obtain ⟨k,t,Ao,Co,hk,rfl,rfl,rfl,hro,ht1,ht2,hup⟩:=hrel;have k0:(0:Int)≤(k:Int):=AU _;obtain ⟨L,hL⟩:∃L,(((TL S).take k).map fun l=>Nw l x y).flatten=L:=⟨_,rfl⟩;have hLl:L.length<1000:=by rw [←hL];exact HC.1 k
  have a4S:=HC.2 k;have hmo:XI S≤60:=by unfold XI;rw [HB.out];omega
  rw [hL] at hro ht1 ⊢;have hmk:XI S*k≤60*k:=Nat.mul_le_mul_right _ hmo;have htb:t≤3000:=by omega
  by_cases hlt:k<n
  ·have hlt2:(k:Int)<(n:Int):=by omega
   obtain ⟨l,hl⟩:∃l,(TL S)[k]? = some l:=⟨_,AX (by rw [HN.1];exact hlt)⟩
   obtain ⟨i,hi,YX⟩:∃i,(Xv S.H.cs)[k]? = some i∧live S.H.al (Bo S.H.cs i)=l:=by
    have h9:=hl;unfold TL at h9;rw [List.getElem?_map,Option.map_eq_some_iff] at h9;exact h9
   obtain ⟨p,NN,G,g1,g2,g3,g4⟩:=HTR.2.2 k i hi;rw [YX] at g2;obtain ⟨b,c,hpe⟩:=g2.some;subst hpe;have a7S:=g2.upd hup (by simp);have hrow:=(See.BX HTR.2.1).Bh hup;obtain ⟨g',og',hA',-,-,ey'⟩:=hrow.at g1;subst hA';have y0:wr.cell? ⟨g',og'+k*2,none⟩=some (.pointer (some ⟨b,0,none⟩)):=ey' 0 _ rfl;have y1:wr.cell? ⟨g',og'+k*2+1,none⟩=some (.map (some c)):=ey' 1 _ rfl;have hstep:=Y5 (f:=fun l=>Nw l x y) hl;have hstep2:=Y5 (f:=fun l=>EU (l.map LU) x) hl;rw [hL] at hstep;have hlen2:=HC.1 (k+1);have hlen3:=HC.2 (k+1);rw [hstep] at hlen2;rw [hstep2] at hlen3;have hnd:=Y6 HI.1 hl;have HML:=AQ (rW.2.2.2 l (List.mem_of_getElem? hl))
   have hsub:∀b∈l,b∈Cj S:=by
    intro b hb;have h1:l.Sublist (TL S).flatten:=List.sublist_flatten_of_mem (List.mem_of_getElem? hl);rw [Z7] at h1;exact h1.subset hb
   have eU:∀z∈EU (l.map LU) x,z<4294967296:=by
    intro z hz;unfold EU at hz;rw [(KO _).mem_iff,List.mem_map] at hz;obtain ⟨s,hs,rfl⟩:=hz;obtain ⟨b,hb,rfl⟩:=List.mem_map.1 (List.mem_filter.1 hs).1;exact (HI.2.1.BO b (hsub b hb)).2
   have hxw:=HQ.1.Bh (FY.out.trans hup);have hyw:=HQ.2.1.Bh (FY.out.trans hup);have hbk:=Yw S.H.cs i;have HK:=AL hk ht1 ht2 hup hstep hstep2 (Bd g3 hbk) eU hxw hyw;have HRO:=AQ hro;have HL2:=Ai hlen2 hlen3;clear hk ht1 ht2 hup hstep hstep2 g1 g2 g3 g4 hrow ey' hl hro hlen2 hlen3 hnd hsub eU hi YX hbk a4S hmk;have hxc:wr.cell? ⟨qx,0,none⟩=some (.int .i64 x):=hxw.cell 0;clear hxw hyw;go_upto_region 8 with fail
   obtain ⟨Wx,wo,SE,RZ⟩:=BJ wr #[.pointer (some ⟨b,0,none⟩),.map (some c)] 102;rw [←wo];obtain ⟨z0,z1⟩:=(show Wx.cell? ⟨wr.heap.size,0,none⟩=some (.pointer (some ⟨b,0,none⟩))∧Wx.cell? ⟨wr.heap.size,1,none⟩=some (.map (some c)) from ⟨RZ.cell 0,RZ.cell 1⟩);obtain ⟨qb,hqe⟩:∃q,wr.heap.size=q:=⟨_,rfl⟩;rw [hqe] at z0 z1 RZ ⊢;have b1I:Wx.cell? ⟨qx,0,none⟩=some (.int .i64 x):=(HK.2.2.2.2.2.2.2.2.1.Bh SE).cell 0;have a7T:=a7S.upd SE (by simp)
   have hst:∃M:Nat,M≤XI S∧Calls Tryz.prog 63 #[.pointer (some ⟨b,0,none⟩),.int .i64 x] Wx (dK Wx (EU (l.map LU) x) M)∧MapU MKB Wx c (Vw l) l.length:=by
    obtain ⟨b',c',F1,e1,e2,e3,e5,e6⟩:=a7T
    cases e1
    refine ⟨_,?_,a4f rW.1 rW.2.1 e2 x (by rw [List.length_map];exact HML.out),e3⟩
    have h1:=eH NN;have h2:=CQ NN (BA S.H.cs.length) (Nat.lt_of_le_of_lt HK.2.2.2.2.2.2.1 (D7 _));unfold XI;dsimp only;omega
   have HUX:=AQ SE;have HWX:=AQ (Bg HRO.out SE (by simp));obtain ⟨M,hM,a7U,hmap⟩:=hst;have a7V:=AQ a7U;have HM:=Aj hM hmap RZ;clear a7U hM hmap RZ wo a7S a7T y0 y1 SE hxc;obtain ⟨L2,hL2⟩:=AO (EU (l.map LU) x);rw [hL2] at a7V;have hone:Nw l x y=L2.filter fun z=>!(!inB ((Vw l z).getD ⟨0,0,0,0,0⟩) x y):=by unfold Nw;rw [hL2]
   have UR:=Ai hone hL2;have a4S:L2.length<1000:=by have:=HL2.2;rw [AY,hL2] at this;omega
   clear hone hL2;go_wp2_with fail
   (with_reducible refine a7V.out.mono ?_);rintro e w3 ⟨t3,⟨A3,C3,rfl,r3,u3⟩,hl3,hl4⟩;have HR3:=Ap r3 u3 hl3 hl4;have hM2:=HM.1;have b2v:t3≤2000:=by omega
   have hdel:=a6K Wx.heap.size (.slice A3 L2.length C3) L2 (fun z=>!inB ((Vw l z).getD ⟨0,0,0,0,0⟩) x y) (.pointer (some ⟨qx,0,none⟩)) (.pointer (some ⟨qy,0,none⟩)) (.pointer (some ⟨qb,0,none⟩)) w3 r3 (by omega) (fun w' hu' z hz=>by
    have hge:=fun v hv=>BD r3 v hv
    have a1:=((HK.2.2.2.2.2.2.2.2.1.Bh HUX.out).Bh u3).upd hu' (fun hc=>by have:=hge _ hc;have:=(HK.2.2.2.2.2.2.2.2.1.Bh HUX.out).lt;omega);have a2:=((HK.2.2.2.2.2.2.2.2.2.Bh HUX.out).Bh u3).upd hu' (fun hc=>by have:=hge _ hc;have:=(HK.2.2.2.2.2.2.2.2.2.Bh HUX.out).lt;omega);have a3:=(HM.2.2.Bh u3).upd hu' (fun hc=>by have:=hge _ hc;have:=HM.2.2.lt;omega);have a4:=(HM.2.1.upd u3 (by simp)).upd hu' (fun hc=>by have:=hge _ hc;have:=HM.2.1.lt;omega);exact atC l x y z qx qy qb c w' (HK.2.2.2.2.2.2.2.1 z (by rw [UR.2];exact hz)) (a1.cell 0) (a2.cell 0) (a3.cell 1) a4)
   have HDL:=AQ hdel;have c0:(0:Int)≤(t:Int):=AU _;have c1:(t:Int)≤3000:=by omega
   have c2:(0:Int)≤(t3:Int):=AU _;have c3:(t3:Int)≤2000:=by omega
   clear r3 u3 hl3 hl4 z0 z1 hdel b1I hM2;go_wp2_with fail
   (with_reducible refine HDL.out.mono ?_);rintro e w5 ⟨vn,rfl,r5,u5⟩;rw [←UR.1] at r5;obtain ⟨A5,C5,hvn⟩:=Bv r5;subst hvn;obtain ⟨m5,tN⟩:∃m,(Nw l x y).length=m:=⟨_,rfl⟩;have hse:=CW r5;have b1J:=HL2.1;rw [AY,tN] at b1J;have a7W:m5≤L2.length:=by rw [←tN,←UR.2];exact Z8 l x y
   obtain ⟨r3,u3,hl3,hl4⟩:=HR3.out;have jV:KU.row w5 w1.heap.size (.slice Ao L.length Co) L:=Bg (Bg HWX.out u3 (by simp)) u5 (fun v hv hc=>by have:=BD r3 v hc;have:=BK HWX.out v hv;omega);have GR:Bf [] w1 w5:=((HK.2.2.2.1.trans HUX.out).trans u3).trans' u5 (fun v hv=>.inr (by have:=BD r3 v hv;have:=(HK.2.2.2.1.trans HUX.out).size;omega));have tK:=AQ hse;have a7X:=AQ jV;have LJ:=AQ GR;have mZ:=AQ GR.size;have HT3:=Ap hl3 hl4 a7W tN;rw [tN] at tK ⊢;clear r5 u5 hse jV GR r3 u3 hl3 hl4 a7W tN;go_wp2_with (at_builtin;refine BL _ rfl _ _ 35 rfl w1.heap.size 26 i0 (.int .u32 0) 1 4 Tryz.underlying35 hi0 hz0 hz1 hz2 rfl (by decide) _ _ _ rfl a7X.out _ m5 (KU.all (Nw l x y)) rfl tK.out (KU.DZ _) (by unfold maxLen;omega) (by omega) (Ac mZ) ?_)
   intro A6 C6 w6 wE
   have hr6:KU.row w6 w1.heap.size (.slice A6 (L.length+m5) C6) (L++Nw l x y):=by
    unfold Kind.row;rw [AY,HT3.2.2.2,KU.Ci];exact wE.own
   have Ol:=(LJ.out).trans' wE.upd (fun v hv=>.inr (BD a7X.out v hv));have HE:=Ai hr6 Ol;clear hr6 Ol wE;go_wp2_with fail
   go_roundg (n - (k+1))
   case measure=>have:=HK.1;omega
   case rel=>
    obtain ⟨k1,k2,k3,k4,k5,k6,-⟩:=HK.out;obtain ⟨m1,m2,m3,m4⟩:=HT3.out;have m5':=HM.1;refine ⟨k+1,t+t3,A6,C6,by omega,by go_num,by go_num,by rw [k5,AY,m4],by rw [k5,AY,m4];exact HE.1,by rw [k5,AY,m4];omega,?_,HE.2⟩
    rw [k6,AY,UR.2,Nat.mul_succ];omega
  ·have hkn:k=n:=by omega
   have Vs:L=((TL S).map fun l=>Nw l x y).flatten:=by
    rw [←hL,hkn,←HN.1,List.take_length]
   have htt:(((TL S).take k).map fun l=>EU (l.map LU) x).flatten.length=(EU ((Cj S).map LU) x).length:=by
    rw [hkn,←HN.1,List.take_length,rV,HN.2.1]
   rw [htt] at ht2;have HS:=AQ (rW.2.1 w1.heap.size _ L wr hro (by rw [←hL];exact rW.2.2.1 k));have HK:=Au hro ht1 ht2 hup Vs hkn;clear hro ht1 ht2 hup Vs hkn hk htt a4S hmk;go_wp2_with fail
   (with_reducible refine HS.out.mono ?_);rintro e w6 ⟨rfl,t6,u6⟩;have HT6:=Ai t6 u6;clear t6 u6;go_wp2_with fail
   go_ret2
   obtain ⟨k1,k2,k3,k4,k5,k6⟩:=HK.out
   have hnm:∀l∈TL S,(l.map Bx.id).Nodup:=fun l hl=>by
    obtain ⟨j,hj⟩:=List.mem_iff_getElem?.1 hl;exact Y6 HI.1 hj
   have e:(iy (Cj S) x y)=GZ L:=by rw [k5,a4P hnm,HN.2.1]
   have hw1:Bf [] w w1:=HQ.2.2.trans FY.out;rw [e,Hl];refine ⟨t,⟨Ao,Co,by rw [Hl];rfl,by rw [Hl];exact own_base HT6.1 hw1.size,(hw1.trans k4).trans' HT6.2 (fun v hv=>.inr (Bd hw1.size (BD k1 v hv)))⟩,k2,?_⟩
   rw [HN.1,←k6];exact k3
