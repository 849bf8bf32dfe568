/- spans.Drop, Get. spans.trees; plainly: what the trees of all buckets have together. spans.Stab, Meet, Count. Printed by genQsF.py. -/
import Derived.Test.YtkbaaonchdeneaaGreatPk51
import Derived.Test.YtkbaaonchdeneaaGreatPk19
import Derived.Test.YtkbaaonchdeneaaGreatPk27
set_option maxHeartbeats 4000000
set_option maxRecDepth 100000
namespace Go.Proofs.YtkbaaonchdeneaaGreat.PSp
open Go.RowKit
open Go.Proofs.YtkbaaonchdeneaaGreat.HSp (IsHalf HStep)
open Go.Proofs.YtkbaaonchdeneaaGreat.Nm (IsNm NmStep Disj pw_at pw_set mem_part flat_set place placeV)
open Go.Proofs.YtkbaaonchdeneaaGreat.Ps
theorem get_none {S:PSS} (I:PInv Sp.id S) (x:Nat):place S.N x=none↔get S x=none:=by
 constructor
 ·intro h;unfold Ps.get;rw [h];rfl
 ·intro h
  rw [I.none]
  intro s hs e
  have:=(I.get x s).2 ⟨hs,e⟩
  rw [h] at this
  cases this
theorem dropNone (tv:Value) (F:List Nat) (S:PSS) (x:Nat) (w:World) (H:IsPs w tv F S) (I:PInv Sp.id S) (ht:S.t<90000) (hx:get S x=none) :
 Calls Tryz.prog 28 #[tv,.int .u32 (x:Int)] w fun e w'=>e=.returned (.tuple #[.int .i64 0,.bool false])∧Upd [] w w':=by
 have hlow:=I.low
 obtain ⟨q,hv,dv,av,Fh,Fd,rfl,H,hF⟩:=H
 obtain ⟨h,rfl⟩:=IsHalf.ptr H.half
 obtain ⟨d,rfl⟩:=IsNm.ptr H.dir
 obtain ⟨h0,h1,h2⟩:=H.head.cells3
 have HN:=Lib.hid (noneP q h w h0)
 have HD:=Lib.hid (Nm.dropFree _ Fd S.N x w H.dir I.dir (by have:=hlow.1;omega) ((get_none I x).2 hx))
 clear H hF I hx hlow
 go_enter Tryz.func28,Tryz.ntmps28
 go_wp2_with fail
 (with_reducible refine HN.out.mono ?_)
 rintro e w' ⟨rfl,rfl⟩
 go_wp2_with fail
 (with_reducible refine HD.out.mono ?_)
 rintro e w2 ⟨rfl,hu⟩
 have HU:=Lib.hid hu
 clear hu
 go_wp2_with fail
 go_ret2
 exact ⟨rfl,HU.out⟩
def DropOk (w:World) (tv:Value) (F:List Nat) (S:PSS) (x:Nat) (s:Sp) (k:Nat) (e:Ending) (w':World):Prop:=
 e=.returned (.tuple #[.int .i64 ((HSp.dropN S.H s:Nat):Int),.bool true])∧PStep w w' tv F (dropP S x s k)
theorem dropOne (tv:Value) (F:List Nat) (S:PSS) (x k:Nat) (s:Sp) (w:World) (H:IsPs w tv F S) (I:PInv Sp.id S) (hg:HSp.Good (lvs S)) (ht:S.t<999) (hs:get S x=some s) (hk:S.H.mp.lookup s=some (k:Int)) :
 Calls Tryz.prog 28 #[tv,.int .u32 (x:Int)] w (DropOk w tv F S x s k):=by
 have hlow:=I.low
 have hal2:=I.alls
 obtain ⟨q,hv,dv,av,Fh,Fd,rfl,H,hF⟩:=H
 obtain ⟨h,rfl⟩:=IsHalf.ptr H.half
 obtain ⟨d,rfl⟩:=IsNm.ptr H.dir
 obtain ⟨A,C,hav⟩:∃A C,av=.slice A S.all.length C:=own_form H.all
 subst hav
 obtain ⟨h0,h1,h2⟩:=H.head.cells3
 obtain ⟨hm,hid⟩:=(I.get x s).1 hs
 obtain ⟨i,hpi,hai⟩:=I.ofs s hm
 rw [hid] at hpi
 have hlv:=lvs_le I
 have hcs:=Ps.HInv.len I.half
 have hal:=I.al
 have hwk:=I.wk
 have hin:=hg.in64 s hm
 have HN:=Lib.hid (noneP q h w h0)
 have HD:=Lib.hid (Nm.dropThere _ Fd S.N x i w H.dir I.dir (by have:=hlow.1;omega) (by have:=hlow.2;omega) hpi)
 have HDR:=Lib.hid (fun (w2:World) (hh:IsHalf w2 (.pointer (some ⟨h,0,none⟩)) Fh S.H)=>HSp.drop_there _ Fh S.H s k w2 hh I.half hin hk (by omega) (by omega) hg (by show (lvs S).length≤1000;omega))
 have HH:=Lib.hid H
 have HFE:=Lib.hid hF
 obtain ⟨nn,hnn⟩:∃n,S.all.length=n:=⟨_,rfl⟩
 have HNN:=Lib.hid hnn
 have hi:i<nn:=by rw [←hnn];exact (List.getElem?_eq_some_iff.1 hai).1
 have HAI:=Lib.hid hai
 have i0:(0:Int)≤(i:Int):=Int.natCast_nonneg _
 have i1:(i:Int)<(nn:Int):=by omega
 unfold DropOk
 clear H hF I hs hk hlow hal2 hm hid hpi hai hlv hcs hal hwk hin hg hi hnn
 go_enter Tryz.func28,Tryz.ntmps28
 go_wp2_with fail
 (with_reducible refine HN.out.mono ?_)
 rintro e w' ⟨rfl,rfl⟩
 go_wp2_with fail
 (with_reducible refine HD.out.mono ?_)
 rintro e w3 ⟨rfl,hst3⟩
 obtain ⟨Fd3,H3,hu3,hF3⟩:=HH.out.dirs hst3
 obtain ⟨c0,c1,c2⟩:=H3.head.cells3
 rw [HNN.out] at c2
 have hsee:See KSp w3 (.slice A S.all.length C) S.all:=See.of_row H3.all
 obtain ⟨g,og,hA,-,-,ey⟩:=hsee.at HAI.out
 subst hA
 have y0:w3.cell? ⟨g,og+i*3,none⟩=some (.int .i64 s.lo):=ey 0 _ rfl
 have y1:w3.cell? ⟨g,og+i*3+1,none⟩=some (.int .i64 s.hi):=ey 1 _ rfl
 have y2:w3.cell? ⟨g,og+i*3+2,none⟩=some (.int .u32 (s.id:Int)):=ey 2 _ rfl
 have hq3:=H3.head.lt
 have hgs:=World.block_lt_of_cell? _ _ y0
 have hqh:q∉Fh:=fun hc=>H3.dis (i:=0) (j:=1) rfl rfl (by omega) q (by simp) hc
 have hgh:g∉Fh:=fun hc=>H3.dis (i:=1) (j:=3) rfl rfl (by omega) g hc (by simp [blk])
 have HA:=Lib.hid (HDR.out w3.drew (H3.half.upd ((Upd.refl [] w3).drew) (by simp)))
 have HH3:=Lib.hid (And.intro H3 (And.intro hu3 hF3))
 clear H3 hu3 hF3 hst3 hsee ey c1 h0 h1 h2
 go_upto_region 6 with fail
 refine GoT.start [11,12,13,14,15] (fun w'=>Upd [] w3 w') (by kernel_rfl) ?_ fun hS=>?_
 ·exact (Upd.refl _ _).drew
 refine' GoT.mv (i:=0) (oi:=⟨some 21,_,_,_,_,_⟩) rfl (by rfl) ?y6_0 ?_
 case y6_0=>intro w;go_simp<;>with_reducible rfl
 simp only [Act.put,sA,sZ,sS]
 refine' GoT.mv (i:=1) (oi:=⟨some 22,_,_,_,_,_⟩) rfl (by rfl) ?y6_1 ?_
 case y6_1=>intro w;go_simp<;>with_reducible rfl
 simp only [Act.put,sA,sZ,sS]
 refine' GoT.mv (i:=2) (oi:=⟨some 23,_,_,_,_,_⟩) rfl (by rfl) ?y6_2 ?_
 case y6_2=>intro w;go_simp<;>with_reducible rfl
 simp only [Act.put,sA,sZ,sS]
 refine' GoT.tk 4 (i:=3) (oi:=⟨some 24,_,_,_,_,_⟩) rfl (by rfl) ?y6_3 ?_
 case y6_3=>intro w hSw;have d9:=(hSw.cell (p:=⟨q,0,none⟩) hq3 (by simp)).trans c0;go_simp<;>with_reducible rfl
 simp only [Act.put,sA,sZ,sS]
 refine' GoT.mv (i:=4) (oi:=⟨some 25,_,_,_,_,_⟩) rfl (by rfl) ?y6_4 ?_
 case y6_4=>intro w;go_simp<;>with_reducible rfl
 simp only [Act.put,sA,sZ,sS]
 refine' GoT.mv (i:=5) (oi:=⟨some 26,_,_,_,_,_⟩) rfl (by rfl) ?y6_5 ?_
 case y6_5=>intro w;go_simp<;>with_reducible rfl
 simp only [Act.put,sA,sZ,sS]
 refine' GoT.mv (i:=6) (oi:=⟨some 27,_,_,_,_,_⟩) rfl (by rfl) ?y6_6 ?_
 case y6_6=>intro w;go_simp<;>with_reducible rfl
 simp only [Act.put,sA,sZ,sS]
 refine' GoT.tk 4 (i:=7) (oi:=⟨some 28,_,_,_,_,_⟩) rfl (by rfl) ?y6_7 ?_
 case y6_7=>intro w hSw;have d9:=(hSw.cell (p:=⟨q,2,none⟩) hq3 (by simp)).trans c2;go_simp<;>with_reducible rfl
 simp only [Act.put,sA,sZ,sS]
 refine' GoT.mv (i:=8) (oi:=⟨some 29,_,_,_,_,_⟩) rfl (by rfl) ?y6_8 ?_
 case y6_8=>intro w;go_simp<;>with_reducible rfl
 simp only [Act.put,sA,sZ,sS]
 refine' GoT.mv (i:=9) (oi:=⟨some 30,_,_,_,_,_⟩) rfl (by rfl) ?y6_9 ?_
 case y6_9=>intro w;go_simp<;>with_reducible rfl
 simp only [Act.put,sA,sZ,sS]
 refine' GoT.tk 4 (i:=10) (oi:=⟨some 31,_,_,_,_,_⟩) rfl (by rfl) ?y6_10 ?_
 case y6_10=>intro w hSw;have d9:=(hSw.cell (p:=⟨g,og+i*3,none⟩) hgs (by simp)).trans y0;have d8:=(hSw.cell (p:=⟨g,og+i*3+1,none⟩) hgs (by simp)).trans y1;have d7:=(hSw.cell (p:=⟨g,og+i*3+2,none⟩) hgs (by simp)).trans y2;go_simp<;>with_reducible rfl
 simp only [Act.put,sA,sZ,sS]
 refine GoT.one (i:=11) (o:=⟨some 32,_,_,_,_,_⟩) rfl (by kernel_rfl) fun K hK=>?_
 go_simp
 go_at_call 84
 (with_reducible refine HA.out.mono ?_)
 rintro e w7 ⟨rfl,hs7⟩
 refine hK.out _ _ (fun h=>(by cases h)) ?_
 clear hK K
 try simp only [Act.put,sA,sZ,sS]
 refine' GoT.mv (i:=12) (oi:=⟨some 33,_,_,_,_,_⟩) rfl (by rfl) ?y6_12 ?_
 case y6_12=>intro w;go_simp<;>with_reducible rfl
 simp only [Act.put,sA,sZ,sS]
 refine' GoT.mv (i:=13) (oi:=⟨some 34,_,_,_,_,_⟩) rfl (by rfl) ?y6_13 ?_
 case y6_13=>intro w;go_simp<;>with_reducible rfl
 simp only [Act.put,sA,sZ,sS]
 refine' GoT.mv (i:=14) (oi:=⟨some 4,_,_,_,_,_⟩) rfl (by rfl) ?y6_14 ?_
 case y6_14=>intro w;go_simp<;>with_reducible rfl
 simp only [Act.put,sA,sZ,sS]
 refine' GoT.mv (i:=15) (oi:=⟨some 5,_,_,_,_,_⟩) rfl (by rfl) ?y6_15 ?_
 case y6_15=>intro w;go_simp<;>with_reducible rfl
 simp only [Act.put,sA,sZ,sS]
 refine GoT.done (by kernel_rfl) ?_
 have H6d:=HH3.out.1.upd ((Upd.refl [] w3).drew) (by intro P hP y hy;simp)
 obtain ⟨Fh7,H7,hu7,hF7⟩:=H6d.halves hs7
 have HH7:=Lib.hid (And.intro H7 (And.intro hu7 hF7))
 clear H6d H7 hu7 hF7 hs7 c0 c2 y0 y1 y2 hS
 go_wp2_with fail
 go_ret2
 refine ⟨rfl,?_⟩
 obtain ⟨H7,hu7,hF7⟩:=HH7.out
 obtain ⟨H3,hu3,hF3⟩:=HH3.out
 have sz3:=hu3.size
 have sz7:w3.drew.heap.size=w3.heap.size:=rfl
 refine ⟨_,⟨q,_,_,_,_,_,rfl,⟨H7.head,H7.half,H7.dir,H7.all,H7.apart⟩,rfl⟩,?_,?_⟩
 ·exact (hu3.mono (fun y hy=>.inl (by rw [HFE.out];exact mem_part (i:=2) rfl hy))).trans (((Upd.refl [] w3).drew.mono (by simp)).trans (hu7.mono (fun y hy=>.inl (by rw [HFE.out];exact mem_part (i:=1) rfl hy))))
 ·intro y hy
  rw [HFE.out]
  simp only [partsP,List.flatten_cons,List.flatten_nil,List.append_nil,List.mem_append] at hy ⊢
  rcases hy with hy | hy | hy | hy
  ·exact .inl (.inl hy)
  ·rcases hF7 y hy with g | g
   ·exact .inl (.inr (.inl g))
   ·right;omega
  ·rcases hF3 y hy with g | g
   ·exact .inl (.inr (.inr (.inl g)))
   ·right;omega
  ·exact .inl (.inr (.inr (.inr hy)))
def spO (o:Option Sp):Value:=match o with | some s=>spV s | none=>.agg #[.int .i64 0,.int .i64 0,.int .u32 0]
theorem getP (tv:Value) (F:List Nat) (S:PSS) (x:Nat) (w:World) (H:IsPs w tv F S) (I:PInv Sp.id S) (ht:S.t<90000) :
 Calls Tryz.prog 36 #[tv,.int .u32 (x:Int)] w fun e w'=>e=.returned (.tuple #[spO (get S x),.bool (get S x).isSome])∧Upd [] w w':=by
 have hF0:=H.lt
 obtain ⟨W,hW,hu0,hq0⟩:=one_newC w #[.int .i64 0,.int .i64 0,.int .u32 0] 62
 have H:=H.upd hu0 (by simp)
 have hlow:=I.low
 have hln:=I.dir.len
 have hal2:=I.alls
 obtain ⟨q,hv,dv,av,Fh,Fd,rfl,H,hF⟩:=H
 obtain ⟨h,rfl⟩:=IsHalf.ptr H.half
 obtain ⟨d,rfl⟩:=IsNm.ptr H.dir
 obtain ⟨A,C,hav⟩:∃A C,av=.slice A S.all.length C:=own_form H.all
 subst hav
 obtain ⟨h0,h1,h2⟩:=H.head.cells3
 have HN:=Lib.hid (noneP q h W h0)
 have HD:=Lib.hid (Nm.foundC _ Fd S.N x W H.dir I.dir (by have:=hlow.1;omega))
 have HH:=Lib.hid H
 have HQ:=Lib.hid hq0
 have HU0:=Lib.hid hu0
 have HWD:=Lib.hid hW
 have HI:=Lib.hid I
 obtain ⟨nn,hnn⟩:∃n,S.all.length=n:=⟨_,rfl⟩
 rw [hnn] at h2
 have HNN:=Lib.hid hnn
 have hqs:=H.head.lt
 have hxs:=hq0.lt
 obtain ⟨x0,x1,x2⟩:=hq0.cells3
 have xf:∀j,W.frozen? ⟨w.heap.size,j,none⟩=false:=fun j=>hq0.frozen j
 have hxq:¬w.heap.size=q:=fun e=>Nat.lt_irrefl _ (hF0 _ (by rw [hF,e];exact mem_part (i:=0) (P:=[q]) rfl (by simp)))
 have hxa:∀g C2,A=some ⟨g,0,C2⟩→¬w.heap.size=g:=fun g C2 hA e=>Nat.lt_irrefl _ (hF0 _ (by rw [hF,hA,←e];exact mem_part (i:=3) rfl (by simp [blk])))
 have HXA:=Lib.hid hxa
 clear H hF hq0 hu0 hW I hlow hln hal2 hnn hF0 hxa
 obtain ⟨qx,hqx⟩:∃k,w.heap.size=k:=⟨_,rfl⟩
 rw [hqx] at HQ hxs x0 x1 x2 xf hxq HXA
 have HQX:=Lib.hid hqx
 cases hp:place S.N x with
 |none=>
  have hg:get S x=none:=(get_none HI.out x).1 hp
  have hv:placeV (none:Option Nat)=0:=rfl
  have hD:=HD.out
  unfold Nm.FoundPost at hD
  rw [hp,hv] at hD
  have HD2:=Lib.hid hD
  rw [hg]
  have hs5:∀w2,Upd [] W w2→HcC (((w2.setCell ⟨qx,0,none⟩ (.int .i64 0)).setCell ⟨qx,1,none⟩ (.int .i64 0)).setCell ⟨qx,2,none⟩ (.int .u32 0)) qx #[.int .i64 0,.int .i64 0,.int .u32 0] 62∧Upd [qx] w2 (((w2.setCell ⟨qx,0,none⟩ (.int .i64 0)).setCell ⟨qx,1,none⟩ (.int .i64 0)).setCell ⟨qx,2,none⟩ (.int .u32 0)):=fun w2 hu=>
   ⟨(((HQ.out.upd0 hu).set 0 (.int .i64 0)).set 1 (.int .i64 0)).set 2 (.int .u32 0),(((Upd.refl _ _).setCell (p:=⟨qx,0,none⟩) (.inl (by simp)) _).setCell (p:=⟨qx,1,none⟩) (.inl (by simp)) _).setCell (p:=⟨qx,2,none⟩) (.inl (by simp)) _⟩
  have HS5:=Lib.hid hs5
  clear hp hg hv hD hs5 HD
  go_enter Tryz.func36,Tryz.ntmps36
  go_upto_region 1 with fail
  rw [←HWD.out]
  clear HWD hqx
  go_wp2_with fail
  (with_reducible refine HN.out.mono ?_)
  rintro e w' ⟨rfl,rfl⟩
  go_wp2_with fail
  (with_reducible refine HD2.out.mono ?_)
  rintro e w2 ⟨t,rfl,hu⟩
  have HU:=Lib.hid hu
  obtain ⟨y0,y1,y2⟩:=(HQ.out.upd0 hu).cells3
  have f0:=(HQ.out.upd0 hu).frozen 0
  have f1:=(HQ.out.upd0 hu).frozen 1
  have f2:=(HQ.out.upd0 hu).frozen 2
  clear hu x0 x1 x2 xf
  dsimp only
  go_wp2_with fail
  obtain ⟨g5,u5⟩:=HS5.out w2 HU.out
  obtain ⟨z0,z1,z2⟩:=g5.cells3
  exact bodyPost_ret (v:=.tuple #[.agg #[.int .i64 0,.int .i64 0,.int .u32 0],.bool false]) (by simp [results,Tryz.results36,go_sem,z0,z1,z2]) rfl ⟨rfl,(HU0.out.trans HU.out).trans' u5 (fun k hk=>by simp at hk;subst hk;right;have:=HQX.out;omega)⟩
 |some i=>
  obtain ⟨s,hm,hai,hid⟩:=HI.out.tos x i hp
  have hg:get S x=some s:=(HI.out.get x s).2 ⟨hm,hid⟩
  have hv:placeV (some i)=(i:Int):=rfl
  have hD:=HD.out
  unfold Nm.FoundPost at hD
  rw [hp,hv] at hD
  have HD2:=Lib.hid hD
  rw [hg]
  have hi:i<nn:=by rw [←HNN.out];exact (List.getElem?_eq_some_iff.1 hai).1
  have i0:(0:Int)≤(i:Int):=Int.natCast_nonneg _
  have i1:(i:Int)<(nn:Int):=by omega
  have HAI:=Lib.hid hai
  have hs5:∀w2,Upd [] W w2→HcC (((w2.setCell ⟨qx,0,none⟩ (.int .i64 s.lo)).setCell ⟨qx,1,none⟩ (.int .i64 s.hi)).setCell ⟨qx,2,none⟩ (.int .u32 (s.id:Int))) qx #[.int .i64 s.lo,.int .i64 s.hi,.int .u32 (s.id:Int)] 62∧Upd [qx] w2 (((w2.setCell ⟨qx,0,none⟩ (.int .i64 s.lo)).setCell ⟨qx,1,none⟩ (.int .i64 s.hi)).setCell ⟨qx,2,none⟩ (.int .u32 (s.id:Int))):=fun w2 hu=>
   ⟨(((HQ.out.upd0 hu).set 0 (.int .i64 s.lo)).set 1 (.int .i64 s.hi)).set 2 (.int .u32 (s.id:Int)),(((Upd.refl _ _).setCell (p:=⟨qx,0,none⟩) (.inl (by simp)) _).setCell (p:=⟨qx,1,none⟩) (.inl (by simp)) _).setCell (p:=⟨qx,2,none⟩) (.inl (by simp)) _⟩
  have HS5:=Lib.hid hs5
  clear hp hg hv hD hs5 HD hm hai hid hi
  go_enter Tryz.func36,Tryz.ntmps36
  go_upto_region 1 with fail
  rw [←HWD.out]
  clear HWD hqx
  go_wp2_with fail
  (with_reducible refine HN.out.mono ?_)
  rintro e w' ⟨rfl,rfl⟩
  go_wp2_with fail
  (with_reducible refine HD2.out.mono ?_)
  rintro e w2 ⟨t,rfl,hu⟩
  have HU:=Lib.hid hu
  obtain ⟨y0,y1,y2⟩:=(HQ.out.upd0 hu).cells3
  have f0:=(HQ.out.upd0 hu).frozen 0
  have f1:=(HQ.out.upd0 hu).frozen 1
  have f2:=(HQ.out.upd0 hu).frozen 2
  have H3:=HH.out.upd hu (by intro P hP y hy;simp)
  obtain ⟨c0,c1,c2⟩:=H3.head.cells3
  rw [HNN.out] at c2
  have hsee:See KSp w2 (.slice A S.all.length C) S.all:=See.of_row H3.all
  obtain ⟨g,og,hA,-,-,ey⟩:=hsee.at HAI.out
  subst hA
  have e0:w2.cell? ⟨g,og+i*3,none⟩=some (.int .i64 s.lo):=ey 0 _ rfl
  have e1:w2.cell? ⟨g,og+i*3+1,none⟩=some (.int .i64 s.hi):=ey 1 _ rfl
  have e2:w2.cell? ⟨g,og+i*3+2,none⟩=some (.int .u32 (s.id:Int)):=ey 2 _ rfl
  clear hu x0 x1 x2 xf H3 hsee ey c0 c1 h0 h1 h2
  dsimp only
  go_wp2_with fail
  obtain ⟨g5,u5⟩:=HS5.out w2 HU.out
  obtain ⟨z0,z1,z2⟩:=g5.cells3
  exact bodyPost_ret (v:=.tuple #[.agg #[.int .i64 s.lo,.int .i64 s.hi,.int .u32 (s.id:Int)],.bool true]) (by simp [results,Tryz.results36,go_sem,z0,z1,z2]) rfl ⟨rfl,(HU0.out.trans HU.out).trans' u5 (fun k hk=>by simp at hk;subst hk;right;have:=HQX.out;omega)⟩
end Go.Proofs.YtkbaaonchdeneaaGreat.PSp
namespace Go.Proofs.YtkbaaonchdeneaaGreat.PSp
open Go.RowKit
open Go.Proofs.YtkbaaonchdeneaaGreat.HSp (IsHalf HStep idxA idxF idxF_step idxF_top IsTr KT TV tp tq)
open Go.Proofs.YtkbaaonchdeneaaGreat.Nm (IsNm NmStep Disj mem_part)
open Go.Proofs.YtkbaaonchdeneaaGreat.Ps
def TL (S:PSS):List (List Sp):=(idxA S.H.cs).map fun i=>live S.H.al (bucketOf S.H.cs i)
theorem live_app (al:List Bool) (a b:List (Sp×Nat)):live al (a++b)=live al a++live al b:=by
 unfold live
 rw [liv_app,List.map_append]
theorem TL_flatF (al:List Bool) (cs:List (Sp×Nat)) (k:Nat):∀m,m+k=bitsN cs.length→((idxF cs m).map fun i=>live al (bucketOf cs i)).flatten=live al (cs.take (cs.length / 2 ^ m*2 ^ m)):=by
 induction k with
 |zero=>
  intro m hm
  have e:m=bitsN cs.length:=by omega
  subst e
  rw [idxF_top,Nat.div_eq_of_lt (bitsN_lt cs.length),Nat.zero_mul,List.take_zero]
  rfl
 |succ k ih=>
  intro m hm
  have h1:=ih (m+1) (by omega)
  rw [idxF_step cs m (by omega),←take_step,live_app,←h1]
  by_cases he:(bucketOf cs m).isEmpty=true
  ·rw [if_pos he]
   have:bucketOf cs m = []:=by simpa using he
   rw [this]
   simp [live,liv]
  ·rw [if_neg he,List.map_append,List.flatten_append]
   simp
theorem TL_flat (S:PSS):(TL S).flatten=lvs S:=by
 unfold TL lvs idxA
 rw [TL_flatF S.H.al S.H.cs (bitsN S.H.cs.length) 0 (by omega)]
 simp
theorem TL_len (S:PSS):(TL S).length≤bitsN S.H.cs.length:=by
 unfold TL
 rw [List.length_map]
 exact HSp.idxF_len _ _
theorem bits_double (n:Nat):bitsN (2*n)≤bitsN n+1:=by
 have h:=bitsN_lt n
 exact bitsN_le (2*n) (bitsN n+1) (by rw [Nat.pow_succ];omega)
theorem bucket_len_le (cs:List (Sp×Nat)) (i:Nat):(bucketOf cs i).length≤cs.length:=by
 rw [bucketOf_len]
 split
 ·rename_i hb
  exact Nat.ge_two_pow_of_testBit hb
 ·omega
structure TreesAt (w:World) (F:List Nat) (S:PSS) (A:Option Addr) (C:Nat) (ts:List TV):Prop where
 row:See KT w (.slice A (TL S).length C) ts
 len:ts.length=(TL S).length
 at_:∀(j:Nat) (l:List Sp),(TL S)[j]? = some l→∃b c N G,ts[j]? = some (some b,some c)∧IsTr w (some b,some c) (N,l) G∧N≤S.H.cs.length∧∀x∈G,x∈F
theorem TreesAt.upd0 {w w':World} {F:List Nat} {S:PSS} {A:Option Addr} {C:Nat} {ts:List TV} (h:TreesAt w F S A C ts) (hu:Upd [] w w'):TreesAt w' F S A C ts:=
 ⟨h.row.upd0 hu,h.len,fun j l hl=>by
  obtain ⟨b,c,N,G,h1,h2,h3,h4⟩:=h.at_ j l hl
  exact ⟨b,c,N,G,h1,h2.upd hu (by simp),h3,h4⟩⟩
theorem treesP (tv:Value) (F:List Nat) (S:PSS) (w:World) (H:IsPs w tv F S) (I:PInv Sp.id S) (ht:S.t<90000) :
 Calls Tryz.prog 85 #[tv] w fun e w'=>∃A C ts,e=.returned (.slice A (TL S).length C)∧TreesAt w' F S A C ts∧Upd [] w w':=by
 obtain ⟨q,hv,dv,av,Fh,Fd,rfl,H,hF⟩:=H
 obtain ⟨h,rfl⟩:=IsHalf.ptr H.half
 obtain ⟨h0,-⟩:=H.head.cells3
 have hcs:=Ps.HInv.len I.half
 have hal:=I.al
 have HN:=Lib.hid (noneP q h w h0)
 have HL:=Lib.hid (HSp.treesH _ _ _ w H.half I.half (by omega))
 have HF:=Lib.hid hF
 clear H hF I hcs hal
 go_enter Tryz.func85,Tryz.ntmps85
 go_wp2_with fail
 (with_reducible refine HN.out.mono ?_)
 rintro e w' ⟨rfl,rfl⟩
 go_wp2_with fail
 (with_reducible refine HL.out.mono ?_)
 rintro e w' ⟨A,C,ts,rfl,h1,h2,h3,h4⟩
 have HT:=Lib.hid (And.intro h1 (And.intro h2 (And.intro h3 h4)))
 clear h1 h2 h3 h4
 go_wp2_with fail
 go_ret
 obtain ⟨h1,h2,h3,h4⟩:=HT.out
 have e:(TL S).length=(idxA S.H.cs).length:=by unfold TL;rw [List.length_map]
 refine ⟨A,C,ts,by rw [e];rfl,⟨by rw [e];exact See.of_row h2,by rw [h1,e],fun j l hl=>?_⟩,h3⟩
 unfold TL at hl
 rw [List.getElem?_map,Option.map_eq_some_iff] at hl
 obtain ⟨i,hi,rfl⟩:=hl
 obtain ⟨p,N,G,g1,g2,g3,g4⟩:=h4 j i hi
 obtain ⟨b,c,rfl⟩:=g2.some
 exact ⟨b,c,N,G,g1,g2,Nat.le_trans g3 (bucket_len_le _ _),fun x hx=>by rw [HF.out];exact mem_part (i:=1) rfl (g4 x hx)⟩
end Go.Proofs.YtkbaaonchdeneaaGreat.PSp
namespace Go.Proofs.YtkbaaonchdeneaaGreat.PSp
open Go.RowKit
open Go.Proofs.YtkbaaonchdeneaaGreat.HSp (IsTr KT TV tp tq)
open Go.Proofs.YtkbaaonchdeneaaGreat.Ps
theorem sort_cat (f:Sp→Bool) (L:List (List Sp)):sortN ((L.map fun l=>sortN ((l.filter f).map Sp.id)).flatten)=sortN ((L.flatten.filter f).map Sp.id):=by
 apply sortN_congr
 induction L with
 |nil=>exact List.Perm.refl _
 |cons a L ih=>
  rw [List.map_cons,List.flatten_cons,List.flatten_cons,List.filter_append,List.map_append]
  exact (sortN_perm _).append ih
theorem stab_cat (L:List (List Sp)) (x:Int):sortN ((L.map fun l=>stabL l x).flatten)=stabL L.flatten x:=sort_cat _ L
theorem meet_cat (L:List (List Sp)) (lo hi:Int):sortN ((L.map fun l=>meetL l lo hi).flatten)=meetL L.flatten lo hi:=by
 unfold meetL
 split
 ·have:(L.map fun _:List Sp=>([]:List Nat)).flatten = []:=by
   induction L with
   |nil=>rfl
   |cons a L ih=>rw [List.map_cons,List.flatten_cons,ih];rfl
  rw [this]
  exact List.eq_nil_of_length_eq_zero (by rw [sortN_len];rfl)
 ·exact sort_cat _ L
theorem cat_step {f:List Sp→List Nat} {T:List (List Sp)} {k:Nat} {l:List Sp} (h:T[k]? = some l):((T.take (k+1)).map f).flatten=((T.take k).map f).flatten++f l:=by
 obtain ⟨h1,h2⟩:=List.getElem?_eq_some_iff.1 h
 rw [List.take_succ_eq_append_getElem h1,h2,List.map_append,List.flatten_append]
 simp
theorem cat_len {f:List Sp→List Nat} (hf:∀l,(f l).length≤l.length) (T:List (List Sp)) (k:Nat):((T.take k).map f).flatten.length≤T.flatten.length:=by
 induction T generalizing k with
 |nil=>simp
 |cons a T ih=>
  rcases k with _ | k
  ·simp
  ·rw [List.take_succ_cons,List.map_cons,List.flatten_cons,List.flatten_cons,List.length_append,List.length_append]
   have:=ih k
   have:=hf a
   omega
def mostT (S:PSS):Nat:=4*(bitsN S.H.cs.length+1)+4
def AskPost (w:World) (S:PSS) (L:List Nat) (e:Ending) (w':World):Prop:=∃t:Nat,StabPost w L t e w'∧L.length≤t∧t≤L.length+mostT S*(TL S).length
theorem stabP (tv:Value) (F:List Nat) (S:PSS) (x:Int) (w:World) (H:IsPs w tv F S) (I:PInv Sp.id S) (ht:S.t<999) :
 Calls Tryz.prog 29 #[tv,.int .i64 x] w (AskPost w S (stabL (lvs S) x)):=by
 have HT:=Lib.hid (treesP tv F S w H I (by omega))
 obtain ⟨q,hv,dv,av,Fh,Fd,rfl,-⟩:=H
 obtain ⟨i0,hi0,hz0,hz1,hz2⟩:=info_parts infoU32S
 have hlv:=lvs_le I
 have hcs:=Ps.HInv.len I.half
 have hal:=I.al
 have hfl:=TL_flat S
 have htl:=TL_len S
 obtain ⟨B,hB⟩:∃B,bitsN S.H.cs.length=B:=⟨_,rfl⟩
 have hB11:B≤10:=by rw [←hB];exact bitsN_le S.H.cs.length 10 (by omega)
 obtain ⟨n,hn⟩:∃n,(TL S).length=n:=⟨_,rfl⟩
 have hn10:n≤10:=by omega
 have hall:(lvs S).length<1000:=by omega
 have n0:(0:Int)≤(n:Int):=Int.natCast_nonneg _
 have n1:(n:Int)≤10:=by omega
 have hcl:∀k,(((TL S).take k).map fun l=>stabL l x).flatten.length<1000:=fun k=>by
  have:=cat_len (f:=fun l=>stabL l x) (fun l=>stabL_len l x) (TL S) k
  rw [hfl] at this
  omega
 have HC:=Lib.hid hcl
 have HB:=Lib.hid hB
 have HN:=Lib.hid (And.intro hn hfl)
 rw [hn] at HT
 unfold AskPost
 clear I ht hlv hcs hal hfl htl hB hn hcl
 go_enter Tryz.func29,Tryz.ntmps29
 go_wp2_with fail
 (with_reducible refine HT.out.mono ?_)
 rintro e w1 ⟨A,C,ts,rfl,htr,hu1⟩
 have HTR:=Lib.hid htr
 have HU1:=Lib.hid hu1
 clear htr hu1
 go_wp2_with fail
 go_loopg [6,7,15] n (fun m so st si wr=>∃(k t:Nat) (Ao:Option Addr) (Co:Nat),m+k=n∧si=.int .i64 (k:Int)∧st=.int .i64 (t:Int)∧so=.slice Ao (((TL S).take k).map fun l=>stabL l x).flatten.length Co∧
  KU.row wr w1.heap.size (.slice Ao (((TL S).take k).map fun l=>stabL l x).flatten.length Co) (((TL S).take k).map fun l=>stabL l x).flatten∧(((TL S).take k).map fun l=>stabL l x).flatten.length≤t∧t≤(((TL S).take k).map fun l=>stabL l x).flatten.length+mostT S*k∧Upd [] w1 wr)
 case atStart=>exact ⟨0,0,none,0,by omega,rfl,rfl,rfl,World.ownsRow_nil _ _ _ _,by simp,by simp,Upd.refl _ _⟩
 case round=>
  obtain ⟨k,t,Ao,Co,hk,rfl,rfl,rfl,hro,ht1,ht2,hup⟩:=hrel
  have k0:(0:Int)≤(k:Int):=Int.natCast_nonneg _
  obtain ⟨L,hL⟩:∃L,(((TL S).take k).map fun l=>stabL l x).flatten=L:=⟨_,rfl⟩
  have hLl:L.length<1000:=by rw [←hL];exact HC.out k
  have hmo:mostT S≤60:=by unfold mostT;rw [HB.out];omega
  rw [hL] at hro ht1 ht2 ⊢
  have hmk:mostT S*k≤60*k:=Nat.mul_le_mul_right _ hmo
  have htb:t≤3000:=by omega
  by_cases hlt:k<n
  ·have hlt2:(k:Int)<(n:Int):=by omega
   obtain ⟨l,hl⟩:∃l,(TL S)[k]? = some l:=⟨_,List.getElem?_eq_getElem (by rw [HN.out.1];exact hlt)⟩
   have htr:=HTR.out.upd0 hup
   obtain ⟨b,c,N,G,g1,g2,g3,g4⟩:=htr.at_ k l hl
   have hrow:=htr.row
   rw [HN.out.1] at hrow
   obtain ⟨g,og,hA,-,-,ey⟩:=hrow.at g1
   subst hA
   have y0:wr.cell? ⟨g,og+k*2,none⟩=some (.pointer (some ⟨b,0,none⟩)):=ey 0 _ rfl
   have y1:wr.cell? ⟨g,og+k*2+1,none⟩=some (.pointer (some ⟨c,0,none⟩)):=ey 1 _ rfl
   have hstep:=cat_step (f:=fun l=>stabL l x) hl
   rw [hL] at hstep
   have hlen2:=HC.out (k+1)
   rw [hstep] at hlen2
   have HK:=Lib.hid (And.intro hk (And.intro ht1 (And.intro ht2 (And.intro hup (And.intro hstep (And.intro g2 g3))))))
   have HRO:=Lib.hid hro
   have HL2:=Lib.hid hlen2
   clear hk ht1 ht2 hup hstep g1 g2 g3 g4 htr hrow ey hl hro hlen2
   go_upto_region 6 with fail
   obtain ⟨Wx,hWx,hux,hqx⟩:=one_newC wr #[.pointer (some ⟨b,0,none⟩),.pointer (some ⟨c,0,none⟩)] 125
   rw [←hWx]
   obtain ⟨z0,z1⟩:=hqx.cells2
   obtain ⟨qx,hqe⟩:∃q,wr.heap.size=q:=⟨_,rfl⟩
   rw [hqe] at z0 z1 ⊢
   have htr2:=HK.out.2.2.2.2.2.1.upd hux (by simp)
   have hst:∃M:Nat,M≤mostT S∧Calls Tryz.prog 63 #[.pointer (some ⟨b,0,none⟩),.int .i64 x] Wx (MeetPost Wx (stabL l x) M):=by
    obtain ⟨b',c',E,F1,F2,e1,e2,e3,e4,e5,e6⟩:=htr2
    cases e1
    refine ⟨_,?_,vStab e2 x⟩
    have h1:=bits_double N
    have h2:=bitsN_mono HK.out.2.2.2.2.2.2
    unfold mostT
    dsimp only
    omega
   have HST:=Lib.hid hst
   have HUX:=Lib.hid hux
   have HWX:=Lib.hid (own_upd HRO.out hux (by simp))
   clear hst hWx hqx hqe htr2 y0 y1 hux
   obtain ⟨M,hM,HST1⟩:=HST.out
   have HST2:=Lib.hid HST1
   have HM:=Lib.hid hM
   clear HST1 hM
   obtain ⟨L2,hL2⟩:∃L2,stabL l x=L2:=⟨_,rfl⟩
   rw [hL2] at HST2
   have HL3:=HL2.out
   have HK5:=HK.out.2.2.2.2.1
   rw [hL2] at HL3 HK5
   rw [List.length_append] at HL3
   have HS5:=Lib.hid HK5
   have HLL:=Lib.hid HL3
   clear HL3 HK5
   go_wp2_with fail
   (with_reducible refine HST2.out.mono ?_)
   rintro e w3 ⟨t3,⟨A3,C3,rfl,r3,u3⟩,hl3,hl4⟩
   have hse:=sees_of_own r3
   have HSE:=Lib.hid hse
   have HRO3:=Lib.hid (own_upd HWX.out u3 (by simp))
   have HU3:=Lib.hid ((HK.out.2.2.2.1.trans HUX.out).trans u3)
   have HSZ:=Lib.hid ((HK.out.2.2.2.1.trans HUX.out).trans u3).size
   have HT3:=Lib.hid (And.intro hl3 hl4)
   have HLT:=HLL.out
   have ht3b:t3≤2000:=by have:=HM.out;omega
   clear r3 u3 hse hl3 hl4 z0 z1
   go_wp2_with (at_builtin;refine wpList_app _ rfl _ _ 35 rfl w1.heap.size 26 i0 (.int .u32 0) 1 4 Tryz.underlying35 hi0 hz0 hz1 hz2 rfl (by decide) _ _ _ rfl HRO3.out _ L2.length (KU.all L2) rfl HSE.out (KU.all_one L2) (by unfold maxLen;omega) (by omega) (by have:=HSZ.out;omega) ?_)
   intro A4 C4 w4 HPP
   have hr4:KU.row w4 w1.heap.size (.slice A4 (L.length+L2.length) C4) (L++L2):=by
    unfold Kind.row
    rw [List.length_append,KU.all_app]
    exact HPP.own
   have hu4:=(HU3.out).trans' HPP.upd (fun y hy=>.inr (own_ge HRO3.out y hy))
   have HE:=Lib.hid (And.intro hr4 hu4)
   clear hr4 hu4 HPP
   have c0:(0:Int)≤(t:Int):=Int.natCast_nonneg _
   have c1:(t:Int)≤3000:=by omega
   have c2:(0:Int)≤(t3:Int):=Int.natCast_nonneg _
   have c3:(t3:Int)≤2000:=by omega
   go_wp2_with fail
   go_roundg (n - (k+1))
   case measure=>have:=HK.out.1;omega
   case rel=>
    obtain ⟨k1,k2,k3,-⟩:=HK.out
    obtain ⟨m1,m2⟩:=HT3.out
    have m3:=HM.out
    have e:(((TL S).take (k+1)).map fun l=>stabL l x).flatten=L++L2:=HS5.out
    refine ⟨k+1,t+t3,A4,C4,by omega,by go_num,by go_num,by rw [e,List.length_append],by rw [e,List.length_append];exact HE.out.1,by rw [e,List.length_append];omega,?_,HE.out.2⟩
    rw [e,List.length_append,Nat.mul_succ]
    omega
  ·have hkn:k=n:=by omega
   have hLL:L=((TL S).map fun l=>stabL l x).flatten:=by
    rw [←hL,hkn,←HN.out.1,List.take_length]
   have HS:=Lib.hid (sortU w1.heap.size _ L wr hro (by omega))
   have HK:=Lib.hid (And.intro hro (And.intro ht1 (And.intro ht2 (And.intro hup (And.intro hLL hkn)))))
   clear hro ht1 ht2 hup hLL hkn hk
   go_wp2_with fail
   (with_reducible refine HS.out.mono ?_)
   rintro e w6 ⟨rfl,t6,u6⟩
   have HT6:=Lib.hid (And.intro t6 u6)
   clear t6 u6
   go_wp2_with fail
   go_ret2
   obtain ⟨k1,k2,k3,k4,k5,k6⟩:=HK.out
   have e:(stabL (lvs S) x)=sortN L:=by rw [k5,stab_cat,HN.out.2]
   rw [e,sortN_len]
   refine ⟨t,⟨Ao,Co,by rw [sortN_len];rfl,by rw [sortN_len];exact own_base HT6.out.1 HU1.out.size,(HU1.out.trans k4).trans' HT6.out.2 (fun y hy=>.inr (Nat.le_trans HU1.out.size (own_ge k1 y hy)))⟩,k2,?_⟩
   rw [HN.out.1,←k6]
   exact k3
theorem meetP (tv:Value) (F:List Nat) (S:PSS) (lo hi:Int) (w:World) (H:IsPs w tv F S) (I:PInv Sp.id S) (ht:S.t<999) :
 Calls Tryz.prog 30 #[tv,.int .i64 lo,.int .i64 hi] w (AskPost w S (meetL (lvs S) lo hi)):=by
 have HT:=Lib.hid (treesP tv F S w H I (by omega))
 obtain ⟨q,hv,dv,av,Fh,Fd,rfl,-⟩:=H
 obtain ⟨i0,hi0,hz0,hz1,hz2⟩:=info_parts infoU32S
 have hlv:=lvs_le I
 have hcs:=Ps.HInv.len I.half
 have hal:=I.al
 have hfl:=TL_flat S
 have htl:=TL_len S
 obtain ⟨B,hB⟩:∃B,bitsN S.H.cs.length=B:=⟨_,rfl⟩
 have hB11:B≤10:=by rw [←hB];exact bitsN_le S.H.cs.length 10 (by omega)
 obtain ⟨n,hn⟩:∃n,(TL S).length=n:=⟨_,rfl⟩
 have hn10:n≤10:=by omega
 have hall:(lvs S).length<1000:=by omega
 have n0:(0:Int)≤(n:Int):=Int.natCast_nonneg _
 have n1:(n:Int)≤10:=by omega
 have hcl:∀k,(((TL S).take k).map fun l=>meetL l lo hi).flatten.length<1000:=fun k=>by
  have:=cat_len (f:=fun l=>meetL l lo hi) (fun l=>meetL_len l lo hi) (TL S) k
  rw [hfl] at this
  omega
 have HC:=Lib.hid hcl
 have HB:=Lib.hid hB
 have HN:=Lib.hid (And.intro hn hfl)
 rw [hn] at HT
 unfold AskPost
 clear I ht hlv hcs hal hfl htl hB hn hcl
 go_enter Tryz.func30,Tryz.ntmps30
 go_wp2_with fail
 (with_reducible refine HT.out.mono ?_)
 rintro e w1 ⟨A,C,ts,rfl,htr,hu1⟩
 have HTR:=Lib.hid htr
 have HU1:=Lib.hid hu1
 clear htr hu1
 go_wp2_with fail
 go_loopg [8,9,17] n (fun m so st si wr=>∃(k t:Nat) (Ao:Option Addr) (Co:Nat),m+k=n∧si=.int .i64 (k:Int)∧st=.int .i64 (t:Int)∧so=.slice Ao (((TL S).take k).map fun l=>meetL l lo hi).flatten.length Co∧
  KU.row wr w1.heap.size (.slice Ao (((TL S).take k).map fun l=>meetL l lo hi).flatten.length Co) (((TL S).take k).map fun l=>meetL l lo hi).flatten∧(((TL S).take k).map fun l=>meetL l lo hi).flatten.length≤t∧t≤(((TL S).take k).map fun l=>meetL l lo hi).flatten.length+mostT S*k∧Upd [] w1 wr)
 case atStart=>exact ⟨0,0,none,0,by omega,rfl,rfl,rfl,World.ownsRow_nil _ _ _ _,by simp,by simp,Upd.refl _ _⟩
 case round=>
  obtain ⟨k,t,Ao,Co,hk,rfl,rfl,rfl,hro,ht1,ht2,hup⟩:=hrel
  have k0:(0:Int)≤(k:Int):=Int.natCast_nonneg _
  obtain ⟨L,hL⟩:∃L,(((TL S).take k).map fun l=>meetL l lo hi).flatten=L:=⟨_,rfl⟩
  have hLl:L.length<1000:=by rw [←hL];exact HC.out k
  have hmo:mostT S≤60:=by unfold mostT;rw [HB.out];omega
  rw [hL] at hro ht1 ht2 ⊢
  have hmk:mostT S*k≤60*k:=Nat.mul_le_mul_right _ hmo
  have htb:t≤3000:=by omega
  by_cases hlt:k<n
  ·have hlt2:(k:Int)<(n:Int):=by omega
   obtain ⟨l,hl⟩:∃l,(TL S)[k]? = some l:=⟨_,List.getElem?_eq_getElem (by rw [HN.out.1];exact hlt)⟩
   have htr:=HTR.out.upd0 hup
   obtain ⟨b,c,N,G,g1,g2,g3,g4⟩:=htr.at_ k l hl
   have hrow:=htr.row
   rw [HN.out.1] at hrow
   obtain ⟨g,og,hA,-,-,ey⟩:=hrow.at g1
   subst hA
   have y0:wr.cell? ⟨g,og+k*2,none⟩=some (.pointer (some ⟨b,0,none⟩)):=ey 0 _ rfl
   have y1:wr.cell? ⟨g,og+k*2+1,none⟩=some (.pointer (some ⟨c,0,none⟩)):=ey 1 _ rfl
   have hstep:=cat_step (f:=fun l=>meetL l lo hi) hl
   rw [hL] at hstep
   have hlen2:=HC.out (k+1)
   rw [hstep] at hlen2
   have HK:=Lib.hid (And.intro hk (And.intro ht1 (And.intro ht2 (And.intro hup (And.intro hstep (And.intro g2 g3))))))
   have HRO:=Lib.hid hro
   have HL2:=Lib.hid hlen2
   clear hk ht1 ht2 hup hstep g1 g2 g3 g4 htr hrow ey hl hro hlen2
   go_upto_region 6 with fail
   obtain ⟨Wx,hWx,hux,hqx⟩:=one_newC wr #[.pointer (some ⟨b,0,none⟩),.pointer (some ⟨c,0,none⟩)] 125
   rw [←hWx]
   obtain ⟨z0,z1⟩:=hqx.cells2
   obtain ⟨qx,hqe⟩:∃q,wr.heap.size=q:=⟨_,rfl⟩
   rw [hqe] at z0 z1 ⊢
   have htr2:=HK.out.2.2.2.2.2.1.upd hux (by simp)
   have hst:∃M:Nat,M≤mostT S∧Calls Tryz.prog 86 #[.pointer (some ⟨b,0,none⟩),.int .i64 lo,.int .i64 hi] Wx (MeetPost Wx (meetL l lo hi) M):=by
    obtain ⟨b',c',E,F1,F2,e1,e2,e3,e4,e5,e6⟩:=htr2
    cases e1
    refine ⟨_,?_,vMeet e2 lo hi⟩
    have h1:=bits_double N
    have h2:=bitsN_mono HK.out.2.2.2.2.2.2
    unfold mostT
    dsimp only
    omega
   have HST:=Lib.hid hst
   have HUX:=Lib.hid hux
   have HWX:=Lib.hid (own_upd HRO.out hux (by simp))
   clear hst hWx hqx hqe htr2 y0 y1 hux
   obtain ⟨M,hM,HST1⟩:=HST.out
   have HST2:=Lib.hid HST1
   have HM:=Lib.hid hM
   clear HST1 hM
   obtain ⟨L2,hL2⟩:∃L2,meetL l lo hi=L2:=⟨_,rfl⟩
   rw [hL2] at HST2
   have HL3:=HL2.out
   have HK5:=HK.out.2.2.2.2.1
   rw [hL2] at HL3 HK5
   rw [List.length_append] at HL3
   have HS5:=Lib.hid HK5
   have HLL:=Lib.hid HL3
   clear HL3 HK5
   go_wp2_with fail
   (with_reducible refine HST2.out.mono ?_)
   rintro e w3 ⟨t3,⟨A3,C3,rfl,r3,u3⟩,hl3,hl4⟩
   have hse:=sees_of_own r3
   have HSE:=Lib.hid hse
   have HRO3:=Lib.hid (own_upd HWX.out u3 (by simp))
   have HU3:=Lib.hid ((HK.out.2.2.2.1.trans HUX.out).trans u3)
   have HSZ:=Lib.hid ((HK.out.2.2.2.1.trans HUX.out).trans u3).size
   have HT3:=Lib.hid (And.intro hl3 hl4)
   have HLT:=HLL.out
   have ht3b:t3≤2000:=by have:=HM.out;omega
   clear r3 u3 hse hl3 hl4 z0 z1
   go_wp2_with (at_builtin;refine wpList_app _ rfl _ _ 35 rfl w1.heap.size 26 i0 (.int .u32 0) 1 4 Tryz.underlying35 hi0 hz0 hz1 hz2 rfl (by decide) _ _ _ rfl HRO3.out _ L2.length (KU.all L2) rfl HSE.out (KU.all_one L2) (by unfold maxLen;omega) (by omega) (by have:=HSZ.out;omega) ?_)
   intro A4 C4 w4 HPP
   have hr4:KU.row w4 w1.heap.size (.slice A4 (L.length+L2.length) C4) (L++L2):=by
    unfold Kind.row
    rw [List.length_append,KU.all_app]
    exact HPP.own
   have hu4:=(HU3.out).trans' HPP.upd (fun y hy=>.inr (own_ge HRO3.out y hy))
   have HE:=Lib.hid (And.intro hr4 hu4)
   clear hr4 hu4 HPP
   have c0:(0:Int)≤(t:Int):=Int.natCast_nonneg _
   have c1:(t:Int)≤3000:=by omega
   have c2:(0:Int)≤(t3:Int):=Int.natCast_nonneg _
   have c3:(t3:Int)≤2000:=by omega
   go_wp2_with fail
   go_roundg (n - (k+1))
   case measure=>have:=HK.out.1;omega
   case rel=>
    obtain ⟨k1,k2,k3,-⟩:=HK.out
    obtain ⟨m1,m2⟩:=HT3.out
    have m3:=HM.out
    have e:(((TL S).take (k+1)).map fun l=>meetL l lo hi).flatten=L++L2:=HS5.out
    refine ⟨k+1,t+t3,A4,C4,by omega,by go_num,by go_num,by rw [e,List.length_append],by rw [e,List.length_append];exact HE.out.1,by rw [e,List.length_append];omega,?_,HE.out.2⟩
    rw [e,List.length_append,Nat.mul_succ]
    omega
  ·have hkn:k=n:=by omega
   have hLL:L=((TL S).map fun l=>meetL l lo hi).flatten:=by
    rw [←hL,hkn,←HN.out.1,List.take_length]
   have HS:=Lib.hid (sortU w1.heap.size _ L wr hro (by omega))
   have HK:=Lib.hid (And.intro hro (And.intro ht1 (And.intro ht2 (And.intro hup (And.intro hLL hkn)))))
   clear hro ht1 ht2 hup hLL hkn hk
   go_wp2_with fail
   (with_reducible refine HS.out.mono ?_)
   rintro e w6 ⟨rfl,t6,u6⟩
   have HT6:=Lib.hid (And.intro t6 u6)
   clear t6 u6
   go_wp2_with fail
   go_ret2
   obtain ⟨k1,k2,k3,k4,k5,k6⟩:=HK.out
   have e:(meetL (lvs S) lo hi)=sortN L:=by rw [k5,meet_cat,HN.out.2]
   rw [e,sortN_len]
   refine ⟨t,⟨Ao,Co,by rw [sortN_len];rfl,by rw [sortN_len];exact own_base HT6.out.1 HU1.out.size,(HU1.out.trans k4).trans' HT6.out.2 (fun y hy=>.inr (Nat.le_trans HU1.out.size (own_ge k1 y hy)))⟩,k2,?_⟩
   rw [HN.out.1,←k6]
   exact k3
end Go.Proofs.YtkbaaonchdeneaaGreat.PSp
