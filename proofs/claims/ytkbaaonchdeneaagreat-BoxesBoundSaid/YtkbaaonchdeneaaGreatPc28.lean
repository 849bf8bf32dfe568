/- Half.Add. Printed by mkhg.py. -/
import Derived.Deep.DrawnRows
import Derived.Test.YtkbaaonchdeneaaGreatPc27
set_option maxHeartbeats 8000000
set_option maxRecDepth 100000
namespace Go.Proofs.YtkbaaonchdeneaaGreat.Fv
open Go.RowKit
attribute [local go_sem ↓] Go.wp_at_zero Go.wp_at_succ
def Q8 (S:HS Bx) (x:Bx) (t p:Nat):HS Bx:={ cs:=S.cs++[(x,S.al.length)],al:=S.al++[true],lv:=S.lv++[t],tr:=S.tr,mp:=PZ S.mp x S.al.length,wk:=S.wk+p }
theorem O9 {w wb w4:World} {e n m A C:_} {xs news:List Value} {v:Value} (hb:Bj [] w wb) (HP:DK wb w4 0 e 1 v n xs m news A C) :
 Bj (blk v) w w4/\w4.ownsRow 0 e 1 (.slice A (n+m) C) (n+m) (xs++news)/\∀x∈blk (.slice A (n+m) C),x∈blk v\/w.heap.size<=x:=by
 refine ⟨(hb.mono (by simp)).trans HP.upd,HP.own,λx hx=>?_⟩
 rcases HP.at with h | h
 ·rw [h] at hx;exact .inl hx
 ·rw [h] at hx;simp at hx;rw [hx];exact .inr hb.size
theorem BN.pushed {w w4 w5 wf:World} {h cb mb:Nat} {tv av DI:Value} {ps:List TV} {Fc:List Nat} {Fs:List (List Nat)} {S:HS Bx} (H:BN w h cb mb tv av DI ps Fc Fs S) {A4 A5:Option Addr} {C4 C5 t:Nat}
 (EI:Bj (blk av) w w4) (zL:w4.ownsRow 0 4 1 (.slice A4 (S.al.length+1) C4) (S.al.length+1) (S.al.map .bool++[.bool true])) (hb4:∀x∈blk (.slice A4 (S.al.length+1) C4),x∈blk av\/w.heap.size<=x)
 (EZ:Bj (blk DI) w4 w5) (zM:w5.ownsRow 0 3 1 (.slice A5 (S.lv.length+1) C5) (S.lv.length+1) ((S.lv.map λ(n:Nat)=>.int .i64 (n:Int))++[.int .i64 (t:Int)])) (hb5:∀x∈blk (.slice A5 (S.lv.length+1) C5),x∈blk DI\/w4.heap.size<=x)
 (hwf:wf=(w5.setCell ⟨h,4,none⟩ (.slice A4 (S.al.length+1) C4)).setCell ⟨h,5,none⟩ (.slice A5 (S.lv.length+1) C5)\/wf=(w5.setCell ⟨h,5,none⟩ (.slice A5 (S.lv.length+1) C5)).setCell ⟨h,4,none⟩ (.slice A4 (S.al.length+1) C4)) :
 Cc w wf (.pointer (some ⟨h,0,none⟩)) (parts h Fc tv av DI mb Fs).flatten { S with al:=S.al++[true],lv:=S.lv++[t] }:=by
 have hha:h∉blk av:=λhc=>H.E5 (i:=0) (j:=3) rfl rfl (by omega) h (by simp) hc
 have hhl:h∉blk DI:=λhc=>H.E5 (i:=0) (j:=4) rfl rfl (by omega) h (by simp) hc
 have hlt:=lt_of_block H.head;have hlt4:=Bg hlt EI.size;have hh5:=(EZ.block h hlt4 hhl).trans ((EI.block h hlt hha).trans H.head);have a2n:Bj (h::(blk av++blk DI)) w w5:=(EI.mono (by intro x hx;left;simp [hx])).trans (EZ.mono (by intro x hx;left;simp [hx]));have hl4:=BJ H.Mc
 have n4:∀x∈blk (.slice A4 (S.al.length+1) C4),x≠h:=by
  intro x hx e;subst e;rcases hb4 x hx with g | g
  ·exact hha g
  ·omega
 have n5:∀x∈blk (.slice A5 (S.lv.length+1) C5),x≠h:=by
  intro x hx e;subst e;rcases hb5 x hx with g | g
  ·exact hhl g
  ·omega
 have d45:∀x∈blk (.slice A4 (S.al.length+1) C4),x∉blk DI:=by
  intro x hx hc;rcases hb4 x hx with g | g
  ·exact H.E5 (i:=3) (j:=4) rfl rfl (by omega) x g hc
  ·have:=hl4 x hc;omega
 have a2o:=Bl zL EZ d45
 have huf:Bj [h] w5 wf:=by
  rcases hwf with rfl | rfl
  ·exact ((Bj.refl _ _).setCell (p:=⟨h,4,none⟩) (.inl (by simp)) _).setCell (p:=⟨h,5,none⟩) (.inl (by simp)) _
  ·exact ((Bj.refl _ _).setCell (p:=⟨h,5,none⟩) (.inl (by simp)) _).setCell (p:=⟨h,4,none⟩) (.inl (by simp)) _
 have hhf:wf.heap[h]? = some (.cells #[F7,GX,.pointer (some ⟨cb,0,none⟩),tv,.slice A4 (S.al.length+1) C4,.slice A5 (S.lv.length+1) C5,.map (some mb)] 165 (0,0)):=by
  rcases hwf with rfl | rfl
  ·have g1:=heap_setCell_same w5 h 4 _ _ (.slice A4 (S.al.length+1) C4) hh5;have g2:=heap_setCell_same _ h 5 _ _ (.slice A5 (S.lv.length+1) C5) g1;simpa using g2
  ·have g1:=heap_setCell_same w5 h 5 _ _ (.slice A5 (S.lv.length+1) C5) hh5;have g2:=heap_setCell_same _ h 4 _ _ (.slice A4 (S.al.length+1) C4) g1;simpa using g2
 have hu:Bj (h::(blk av++blk DI)) w wf:=a2n.trans (huf.mono (by intro x hx;left;simp at hx;simp [hx]));have sF:∀x∈blk (.slice A5 (S.lv.length+1) C5),x∈blk DI\/w.heap.size<=x:=λx hx=>(hb5 x hx).imp id λg=>Bh EI.size g
 have hr:=H.rows (al:=S.al++[true]) (lv:=S.lv++[t]) hu hhf
  (by have:=Bl a2o huf (λx hx=>by simpa using n4 x hx);unfold boolRow;simpa using this)
  (by have:=Bl zM huf (λx hx=>by simpa using n5 x hx);unfold Jp;simpa using this) hb4 sF
 refine ⟨_,⟨h,cb,mb,_,_,_,ps,Fc,Fs,rfl,hr,rfl⟩,hu.mono λx hx=>.inl ?_,λx hx=>?_⟩
 ·rcases List.mem_cons.1 hx with rfl | hx
  ·exact Bz (i:=0) (P:=[x]) rfl (by simp)
  ·rcases List.mem_append.1 hx with hx | hx
   ·exact Bz (i:=3) rfl hx
   ·exact Bz (i:=4) rfl hx
 ·obtain ⟨P,hP,VR⟩:=List.mem_flatten.1 hx;simp only [parts,List.mem_cons] at hP;rcases hP with rfl | rfl | rfl | rfl | rfl | rfl | hP
  ·exact .inl (Bz (i:=0) (P:=[h]) rfl VR)
  ·exact .inl (Bz (i:=1) rfl VR)
  ·exact .inl (Bz (i:=2) rfl VR)
  ·exact (hb4 x VR).imp (Bz (i:=3) rfl) id
  ·exact (sF x VR).imp (Bz (i:=4) rfl) id
  ·exact .inl (Bz (i:=5) (P:=[mb]) rfl VR)
  ·exact .inl (List.mem_flatten.2 ⟨P,by simp [parts,hP],VR⟩)
theorem Qo:(Tryz.prog.info? 4).map (λi=>(i.zero,i.size,i.bytes))=some (some (.bool false),1,1):=by kernel_rfl
theorem Uh:(Tryz.prog.info? 3).map (λi=>(i.zero,i.size,i.bytes))=some (some (.int .i64 0),1,8):=by kernel_rfl
theorem aY (tr:List (Option (Nat×List Bx))) (k:Nat) (h:k<tr.length):Dj tr (k+1)=(Dj tr k).set k none:=by
 unfold Dj;rw [Nat.min_eq_left (by omega),Nat.min_eq_left (by omega)];apply List.ext_getElem?
 intro i;rw [List.getElem?_set];rcases Nat.lt_trichotomy i k with h1 | h1 | h1
 ·rw [if_neg (by omega),List.getElem?_append_left (by simp;omega),List.getElem?_append_left (by simp;omega),List.getElem?_replicate,List.getElem?_replicate,if_pos (by omega),if_pos (by omega)]
 ·subst h1;rw [if_pos rfl,if_pos (by simp;omega),List.getElem?_append_left (by simp),List.getElem?_replicate,if_pos (by omega)]
 ·rw [if_neg (by omega),List.getElem?_append_right (by simp;omega),List.getElem?_append_right (by simp;omega)];simp only [List.length_replicate,List.getElem?_drop];congr 1
  omega
theorem aZ (tr:List (Option (Nat×List Bx))) (m t:Nat) (h:m=tr.length) (ht:m<=t):Dj tr m=Dj tr t:=by
 subst h;unfold Dj;rw [Nat.min_eq_left (Nat.le_refl _),Nat.min_eq_right ht,List.drop_length,List.drop_eq_nil_of_le ht]
theorem lC (l:List (Bx×Nat)) (x:Bx×Nat):(Ec (setB l) x).length<=l.length+1:=by
 rw [(Fz l x).1,Bc,List.length_drop];simp
theorem zN {S:HS Bx} (I:ET S) (x:Bx):∀y∈Ec (setB S.cs) (x,S.al.length),y.2<(S.al++[true]).length:=by
 intro y hy;rw [(Fz S.cs (x,S.al.length)).1] at hy;rcases List.mem_append.1 hy with hy | hy
 ·have:=I.lt y (List.mem_of_mem_drop hy);rw [Bc];omega
 ·simp at hy;subst hy;simp
theorem Qp (hv:Value) (F:List Nat) (S:HS Bx) (x:Bx) (w:World) (H:BO w hv F S) (I:ET S) (hx:(x.CS/\x.id<4294967296)) (hk:S.mp.lookup x=none) (hl:S.cs.length<90000) (hal:S.al.length<900000) (hw:S.wk<549755813888) (hgood:Good (live S.al S.cs++[x])) (hl1:(live S.al S.cs).length+1<=1000) :
 Calls Tryz.prog 73 #[hv,.agg #[x.x1,x.x2,x.y1,x.y2,.int .u32 (x.id:Int)]] w λe w'=>e=.returned (.tuple #[.int .i64 ((2 ^ Bv (setB S.cs):Nat):Int),.bool true])/\Cc w w' hv F (Vd S x):=by
 have H0:=AX H.lt
 have a4R:Good (live (S.al++[true]) (Ec (setB S.cs) (x,S.al.length)))/\(live (S.al++[true]) (Ec (setB S.cs) (x,S.al.length))).length<=1000:=by
  have hs:=jk I x;refine ⟨hgood.sub hs,Bh hs.length_le ?_⟩
  rw [Bc];exact hl1
 have a4S:=AX a4R;clear hgood hl1 a4R;obtain ⟨W,hW,hu0,hq0⟩:=CQ w #[x.x1,x.x2,x.y1,x.y2,.int .u32 (x.id:Int)] 28;have H:=H.upd hu0 (by simp);have Ud:=AX hW;have Gu:=AX hu0;have HQX:=AX hq0;have hnx:w.heap.size∉F:=λhc=>Nat.lt_irrefl _ (H0.out _ hc)
 have QJ:=AX hnx;obtain ⟨hx0,hx1,hx2,hx3,hx4⟩:=hq0.cells5;clear hW hu0 hq0 hnx;have HO:=AX H;obtain ⟨h,cb,mb,tv,av,DI,ps,Fc,Fs,rfl,H,hF⟩:=H;obtain ⟨_,_,hc2,hc3,hc4,hc5,hc6,hfr⟩:=H.cell;obtain ⟨Aa,Ca,hav⟩:∃A C,av=.slice A S.al.length C:=BD H.FK;obtain ⟨Al,Cl,hlv⟩:∃A C,DI=.slice A S.lv.length C:=BD H.Mc;obtain ⟨At,Ct,kS⟩:∃A C,tv=.slice A ps.length C:=BD H.IV;subst hav hlv kS;have hlook:=H.Md.drew.look hx;rw [hk] at hlook;have QU:h<W.heap.size:=lt_of_block H.head;have HH:=AX H;have HI:=AX I;have HF:=AX hF;have HK:=AX hk
 have hml:S.mp.length<900000:=by
  have h1:=I.core.NU;have h2:=List.length_filter_le (λp:Bx×Bool=>p.2) (view S);unfold Df at h1;rw [List.length_map] at h1;rw [Iz] at h2;omega
 have hwa:(Lit.int .i64 (S.al.length:Int)).wf=true:=by simp [Lit.wf,IntKind.min,IntKind.max,IntKind.signed,IntKind.bits];omega
 clear H hF I hk hfr;go_enter Tryz.func73,Tryz.ntmps73
 go_upto_region 1 with fail
 rw [<-Ud.out];clear Ud;obtain ⟨qx,JQ⟩:∃q,w.heap.size=q:=⟨_,rfl⟩;rw [JQ] at hx0 hx1 hx2 hx3 hx4 HQX QJ |-;have HQE:=AX JQ;clear JQ H0;go_wp2_with fail
 refine (Q7 _ _ _ _ HO.out).mono ?_
 rintro e w' ⟨rfl,rfl⟩;go_upto_region 3 with fail
 go_region
 have HHD:=AX (HH.out.upd ((Bj.refl [] W).drew) (by intro P hP x hx;simp));go_upto_region 6 with fail
 obtain ⟨w1,hrun,hm1,hu1⟩:=HHD.out.Md.drew.put hx hwa (by unfold maxLen;omega);go_region
 have Kq:Bj [mb] W w1:=(((Bj.refl [] W).drew.drew).mono (by simp)).trans' hu1 (λx hx=>.inl hx);have h1:=HH.out.map hm1 Kq;have hqw:qx<W.heap.size:=HQX.out.lt;have hqm:qx∉[mb]:=λhc=>QJ.out (by rw [HF.out];exact Bz (i:=5) (P:=[mb]) rfl hc)
 have L9:qx∉Fc:=λhc=>QJ.out (by rw [HF.out];exact Bz (i:=1) rfl hc)
 have hst1:Cc W w1 (.pointer (some h)) F { S with mp:=PZ S.mp x S.al.length }:=by
  have oq:=HF.out;refine ⟨F,⟨h,cb,mb,_,_,_,ps,Fc,Fs,rfl,h1,oq⟩,Kq.mono λy hy=>.inl ?_,λy hy=>.inl hy⟩
  rw [oq];exact Bz (i:=5) (P:=[mb]) rfl hy
 have hhm:h≠mb:=λe=>HH.out.E5 (i:=0) (j:=5) rfl rfl (by omega) h (by simp) (by simp [e])
 have hc2':=(Kq.cell (p:=⟨h,2,none⟩) QU (by simp;exact hhm)).trans hc2;have Ue:=(Kq.cell (p:=⟨h,4,none⟩) QU (by simp;exact hhm)).trans hc4;have hy0:=(Kq.cell (p:=⟨qx,0,none⟩) hqw hqm).trans hx0;have hy1:=(Kq.cell (p:=⟨qx,1,none⟩) hqw hqm).trans hx1;have hy2:=(Kq.cell (p:=⟨qx,2,none⟩) hqw hqm).trans hx2;have hy3:=(Kq.cell (p:=⟨qx,3,none⟩) hqw hqm).trans hx3;have hy4:=(Kq.cell (p:=⟨qx,4,none⟩) hqw hqm).trans hx4;have lD:qx<w1.heap.size:=Bg hqw Kq.size;have zO:h<w1.heap.size:=Bg QU Kq.size;have hhF:h∉Fc:=λhc=>HH.out.E5 (i:=0) (j:=1) rfl rfl (by omega) h (by simp) hc
 have hd2:w1.drew.cell? ⟨h,2,none⟩=some (.pointer (some cb)):=hc2';have hd4:w1.drew.cell? ⟨h,4,none⟩=some (.slice Aa S.al.length Ca):=Ue;have hbn:(setB S.cs).length<=20:=by rw [D6];exact BP S.cs.length 20 (by omega)
 have hfl:(setB S.cs).flatten.length<90000:=by rw [PY];exact hl
 have D9:=AX hst1;have U9:=AX h1;have hz0:w1.drew.cell? qx=some (.int .i64 x.x1):=hy0;have hz1:w1.drew.cell? ⟨qx,1,none⟩=some (.int .i64 x.x2):=hy1;have hz2:w1.drew.cell? ⟨qx,2,none⟩=some (.int .i64 x.y1):=hy2;have hz3:w1.drew.cell? ⟨qx,3,none⟩=some (.int .i64 x.y2):=hy3;have pV:w1.drew.cell? ⟨qx,4,none⟩=some (.int .u32 (x.id:Int)):=hy4;clear hst1 h1 hc2 hc4 hlook hrun hm1 hu1 hx0 hx1 hx2 hx3 hx4 hqm;go_upto_region 7 with fail
 go_region_held3 (λw'=>w'.cell? ⟨h,2,none⟩=some (.pointer (some cb))/\w'.cell? ⟨h,4,none⟩=some (.slice Aa S.al.length Ca)/\w'.cell? qx=some (.int .i64 x.x1)/\w'.cell? ⟨qx,1,none⟩=some (.int .i64 x.x2)/\w'.cell? ⟨qx,2,none⟩=some (.int .i64 x.y1)/\w'.cell? ⟨qx,3,none⟩=some (.int .i64 x.y2)/\w'.cell? ⟨qx,4,none⟩=some (.int .u32 (x.id:Int)))
  (first
   |(exact ⟨hd2,hd4,hz0,hz1,hz2,hz3,pV⟩)
   |(exact ⟨(g2.cell (p:=⟨h,2,none⟩) zO hhF).trans hd2,(g2.cell (p:=⟨h,4,none⟩) zO hhF).trans hd4,(g2.cell (p:=⟨qx,0,none⟩) lD L9).trans hz0,(g2.cell (p:=⟨qx,1,none⟩) lD L9).trans hz1,(g2.cell (p:=⟨qx,2,none⟩) lD L9).trans hz2,(g2.cell (p:=⟨qx,3,none⟩) lD L9).trans hz3,(g2.cell (p:=⟨qx,4,none⟩) lD L9).trans pV⟩)
   |go_keep)
  ((go_at_call 128;refine (O7.a1Z cb Fc (x,S.al.length) _ _ _ _ (U9.out.Om.upd ((Bj.refl [] w1).drew) (by simp)) (by show (setB S.cs).length<_;omega) (by show (setB S.cs).flatten.length<_;omega) (by show S.cs.length<_;omega) (by show S.wk<_;omega)).mono ?_;rintro e w2 ⟨A2,C2,rfl,Fc2,g1,g2,g3,g4,g5⟩))
 have La:Bj Fc w1 w2:=((Bj.refl [] w1).drew.mono (by simp)).trans' g2 (λy hy=>.inl hy);have hgl:=(Fz S.cs (x,S.al.length)).2;obtain ⟨G,hG⟩:=AU (Ec (setB S.cs) (x,S.al.length));obtain ⟨t,ht⟩:=AU (Bv (setB S.cs));rw [hG] at g1 g4 g5 hgl |-;rw [ht] at hgl |-;obtain ⟨p,hp⟩:=AU (2 ^ t);rw [hp] at hgl;rw [hgl] at g1 g4 g5 |-;have h2:=U9.out.carry (w':=w2) (cs:=S.cs++[(x,S.al.length)]) (wk:=S.wk+p) (gU:=Fc2) (by rw [<-RH,Bc];exact g1) La g3;clear hy0 hy1 hy2 hy3 hy4 hz0 hz1 hz2 hz3 pV;have pG:=AX (((Kq.mono (G:=F) (λy hy=>.inl (by rw [HF.out];exact Bz (i:=5) (P:=[mb]) rfl hy))).trans' La (λy hy=>.inl (by rw [HF.out];exact Bz (i:=1) rfl hy))));obtain ⟨F2,hF2⟩:=AU ((parts h Fc2 (.slice At ps.length Ct) (.slice Aa S.al.length Ca) (.slice Al S.lv.length Cl) mb Fs).flatten);have sG:parts h Fc2 (.slice At ps.length Ct) (.slice Aa S.al.length Ca) (.slice Al S.lv.length Cl) mb Fs=(parts h Fc (.slice At ps.length Ct) (.slice Aa S.al.length Ca) (.slice Al S.lv.length Cl) mb Fs).set 1 Fc2:=rfl
 have hFF:∀y∈F2,y∈F\/W.heap.size<=y:=by
  intro y hy;rw [<-hF2,sG] at hy;rcases Ed hy with hy | hy
  ·exact .inl (by rw [HF.out];exact hy)
  ·rcases g3 y hy with g | g
   ·exact .inl (by rw [HF.out];exact Bz (i:=1) rfl g)
   ·exact .inr (Bh Kq.size g)
 have hSL:∀y∈blk (.slice A2 p C2),y∉F2:=by
  intro y hy hc;rw [<-hF2,sG] at hc;rcases Ed hc with hc | hc
  ·have e1:=BH g4 y hy;obtain ⟨P,hP,hyP⟩:=List.mem_flatten.1 hc;have e2:=U9.out.lt P hP y hyP;have e3:w1.drew.heap.size=w1.heap.size:=rfl;omega
  ·exact g5 y hy hc
 have HFF:=AX hFF;have HSL:=AX hSL;have HF2:=AX hF2;clear hFF hSL sG;obtain ⟨_,_,_,a4P,gW,rV,_,hfr⟩:=h2.cell;have hf4:=hfr 4;have hf5:=hfr 5;have YH:h<w2.heap.size:=lt_of_block h2.head;have QZ:=AX h2;have HG:=AX hG;have HT:=AX ht;have HP:=AX hp;have HGL:=AX hgl;have zQ:=AX g4;have HG5:=AX g5;have HG3:=AX g3;have Ej:=AX La;clear h2 hfr g1 g2 g3 g4 g5 hG ht hp hgl La hF2 hd2 hd4 hc2' Ue hc5 hc3 hqw lD L9;obtain ⟨ib,hib,hb0,hb1,hb2⟩:=info_parts Qo;obtain ⟨ii,hii,hi0,hi1,hi2⟩:=info_parts Uh;have hh4:=QZ.out.FK;have hh5:=QZ.out.Mc;have lF:h∉blk (.slice Aa S.al.length Ca):=λhc=>QZ.out.E5 (i:=0) (j:=3) rfl rfl (by omega) h (by simp) hc
 have sH:h∉blk (.slice Al S.lv.length Cl):=λhc=>QZ.out.E5 (i:=0) (j:=4) rfl rfl (by omega) h (by simp) hc
 have sJ:=AX hh4;have HA5:=AX hh5;have a8F:S.lv.length<900000:=by rw [HI.out.lvl];exact hal
 clear hh4 hh5;have sK:∀y∈blk (.slice Al S.lv.length Cl),y∉blk (.slice Aa S.al.length Ca):=QZ.out.E5 (i:=4) (j:=3) rfl rfl (by omega);have bf:=AX sK;clear sK
 have hsT:D5 ((w2.alloc (.cells #[(t:Int)] 3)).alloc (.cells #[.bool true] 4)).drew 1 (.slice (some ⟨w2.heap.size+1,0,none⟩) 1 1) 1 [.bool true]:=by
  have h0:(w2.alloc (.cells #[(t:Int)] 3)).heap.size=w2.heap.size+1:=by simp
  have:=(BK (w2.alloc (.cells #[(t:Int)] 3)) #[.bool true] 4 1 1 rfl (by decide)).drew;rw [h0] at this;exact this
 have hsI:D5 ((w2.alloc (.cells #[.bool true] 4)).alloc (.cells #[(t:Int)] 3)).drew 1 (.slice (some ⟨w2.heap.size+1,0,none⟩) 1 1) 1 [(t:Int)]:=by
  have h0:(w2.alloc (.cells #[.bool true] 4)).heap.size=w2.heap.size+1:=by simp
  have:=(BK (w2.alloc (.cells #[.bool true] 4)) #[(t:Int)] 3 1 1 rfl (by decide)).drew;rw [h0] at this;exact this
 have hsJ:D5 ((w2.alloc (.cells #[(t:Int)] 3)).alloc (.cells #[.bool true] 4)).drew 1 (.slice (some ⟨w2.heap.size,0,none⟩) 1 1) 1 [(t:Int)]:=
  (Dh (BK w2 #[(t:Int)] 3 1 1 rfl (by decide)) ((Bj.refl [] _).alloc _) (by simp)).drew
 have Xu:=BJ sJ.out;have hnI:∀y∈blk (.slice (some ⟨w2.heap.size+1,0,none⟩) 1 1),y∉blk (.slice Aa S.al.length Ca):=λy hy hc=>by have:=Xu y hc;simp [blk] at hy;omega
 have hnJ:∀y∈blk (.slice (some ⟨w2.heap.size,0,none⟩) 1 1),y∉blk (.slice Aa S.al.length Ca):=λy hy hc=>by have:=Xu y hc;simp [blk] at hy;omega
 have HNI:=AX hnI;have HNJ:=AX hnJ;have HST:=AX hsT;have HSI:=AX hsI;have HSJ:=AX hsJ;have HAV:=AX Xu;clear hsT hsI hsJ Xu hnI hnJ;go_upto_region 8 with fail
 go_cut [] (λwc=>Cc w2 wc (.pointer (some h)) F2 (Q8 S x t p))
 case first=>
  clear hx hl hw HO HI HK hml hwa Kq hhm zO hhF hbn hfl D9 U9 HG HT HP HGL zQ HG5 HG3 Ej pG HFF HSL HHD a4S
  go_region_law (first
   |(
    refine ER _ (by rfl) _ _ 162 (by rfl) 0 4 ib (.bool false) 1 1 Tryz.underlying162 hib hb0 hb1 hb2 rfl (by decide) _ S.al.length (S.al.map .bool) (by rfl) (by first | exact EY (sJ.out.alloc _) | exact EY ((sJ.out.alloc _).alloc _)) _ 1 [.bool true] (by rfl) (by first | exact (BK _ #[.bool true] 4 1 1 rfl (by decide)).drew | exact (Dh (BK _ #[.bool true] 4 1 1 rfl (by decide)) ((Bj.refl [] _).alloc _) (by simp)).drew | exact HST.out) (by simp [Value.oneCell']) (by unfold maxLen;omega) (by omega) (Nat.zero_le _) ?_;intro A4 C4 w4 kE
    have sN:Bj (blk (.slice Aa S.al.length Ca)) _ w4:=kE.upd;obtain ⟨Jq,zL,hb4⟩:=O9 (w:=w2) (v:=.slice Aa S.al.length Ca) (by first | exact ((Bj.refl _ w2).alloc (.cells #[.bool true] 4)).drew | exact (((Bj.refl _ w2).alloc (.cells #[.bool true] 4)).alloc (.cells #[(t:Int)] 3)).drew | exact (((Bj.refl _ w2).alloc (.cells #[(t:Int)] 3)).alloc (.cells #[.bool true] 4)).drew) kE;clear kE;have HO4:=AX zL;have HB4:=AX hb4;clear zL hb4;have hx5:=(Jq.cell (p:=⟨h,5,none⟩) YH lF).trans rV;have a2p:∀o,(w4.alloc o).cell? ⟨h,5,none⟩=some (.slice Al S.lv.length Cl):=λo=>by rw [World.cell?_alloc_past _ _ _ (Bg YH Jq.size)];exact hx5)
   |(
    refine ER _ (by rfl) _ _ 163 (by rfl) 0 3 ii (.int .i64 0) 1 8 Tryz.underlying163 hii hi0 hi1 hi2 rfl (by decide) _ S.lv.length (S.lv.map λ(n:Nat)=>.int .i64 (n:Int)) (by rfl) (by first | exact (Bl HA5.out Jq bf.out).alloc _ | exact Bl HA5.out Jq bf.out) _ 1 [(t:Int)] (by rfl) (by
     first
      |exact BK w4 #[(t:Int)] 3 1 1 rfl (by decide)
      |exact Dh HSI.out sN (λ_ y hy _=>HNI.out y hy)
      |exact Dh HSJ.out sN (λ_ y hy _=>HNJ.out y hy)) (by simp [Value.oneCell']) (by unfold maxLen;omega) (by omega) (Nat.zero_le _) ?_;intro A5 C5 w5 HP5
    obtain ⟨JC,zM,hb5⟩:=O9 (w:=w4) (v:=.slice Al S.lv.length Cl) (by first | exact ((Bj.refl _ w4).alloc (.cells #[(t:Int)] 3)) | exact Bj.refl _ w4) HP5;clear HP5;have HO5:=AX zM;have HB5:=AX hb5;clear zM hb5 hx5 a2p;have Xv:h<w4.heap.size:=Bg YH Jq.size;have Oq:=(JC.cell (p:=⟨h,4,none⟩) Xv sH).trans ((Jq.cell (p:=⟨h,4,none⟩) YH lF).trans gW);have hst5:=(JC.cell (p:=⟨h,5,none⟩) Xv sH).trans ((Jq.cell (p:=⟨h,5,none⟩) YH lF).trans rV);have a7m:=(JC.frozen (p:=⟨h,4,none⟩) Xv sH).trans ((Jq.frozen (p:=⟨h,4,none⟩) YH lF).trans hf4);have a7n:=(JC.frozen (p:=⟨h,5,none⟩) Xv sH).trans ((Jq.frozen (p:=⟨h,5,none⟩) YH lF).trans hf5)))
  all_goals
   go_wp2_with fail
   go_meet
   case rel=>
    rw [<-HF2.out];exact QZ.out.pushed Jq HO4.out HB4.out JC HO5.out HB5.out (by first | exact .inl rfl | exact .inr rfl)
 case rest=>
  clear a4P gW rV hf4 hf5 HNI HNJ HST HSI HSJ HAV sJ HA5 bf hib hb0 hb1 hb2 hii hi0 hi1 hi2 lF sH;obtain ⟨F8,⟨h8,cb8,mb8,tv8,av8,lv8,ps8,Fc8,Fs8,he,H8,a4T⟩,gX,zS⟩:=hcut
  cases he
  obtain ⟨At8,Ct8,kS⟩:∃A C,tv8=.slice A ps8.length C:=BD H8.IV;subst kS;have hcut:=(⟨F8,⟨h,cb8,mb8,_,av8,lv8,ps8,Fc8,Fs8,rfl,H8,a4T⟩,gX,zS⟩:Cc w2 wc (.pointer (some h)) F2 (Q8 S x t p));have rE:=AX hcut;obtain ⟨_,_,_,hd3,_⟩:=H8.cell;obtain ⟨n8,hn8⟩:∃n,ps8.length=n:=⟨_,rfl⟩;have a4U:n8=S.tr.length:=by rw [<-hn8,H8.Lc];rfl
  rw [hn8] at hd3;have HN8:=AX a4U;have htr:=HI.out.trl
  have a7o:t<=20:=by
   have h1:=DT (setB S.cs);have h2:=HT.out;omega
  obtain ⟨m,hm⟩:=AU (min t n8)
  have hms:Value.int .i64 (min (t:Int) (n8:Int))=Value.int .i64 (m:Int):=by
   rw [<-hm];congr 1;omega
  have hmt:m<=t:=by omega
  have hmn:m<=n8:=by omega
  have hmx:m=t\/m=n8:=by omega
  have HM:=AX hmx;clear hcut hm hn8 a4U hmx H8 a4T gX zS;obtain ⟨W9,hW9,zT,a4V⟩:=CQ wc #[.pointer none,.map none] 102;have HW9:=AX hW9;have HQT:=AX a4V;have HUN:=AX zT;have H8:=rE.out;obtain ⟨F8,H8,gX,zS⟩:=H8;have a4W:wc.heap.size∉F8:=λhc=>Nat.lt_irrefl _ (H8.lt _ hc)
  have H89:BO W9 (.pointer (some h)) F8 (Q8 S x t p):=H8.upd zT (by simp);have a7p:=AX H89;have nS:=AX gX;have HF8:=AX zS;have fM:=AX a4W;have hd39:=(zT.cell (World.block_lt_of_cell? _ _ hd3) (by simp)).trans hd3;clear hW9 zT a4V H8 gX zS a4W H89 hd3;go_upto_region 10 with fail
  rw [<-HW9.out];clear HW9;generalize wc.heap.size=qt at HQT fM |-;go_wp2_with fail
  go_loopg [75] m (λg i wr=>∃k,g+k=m/\i=.int .i64 (k:Int)/\Cc W9 wr (.pointer (some h)) F8 { Q8 S x t p with tr:=Dj S.tr k })
  case atStart=>exact ⟨0,rfl,rfl,by
   have e:Dj S.tr 0=S.tr:=by simp [Dj]
   rw [e];exact Cc.refl a7p.out⟩
  case round=>
   obtain ⟨k,hk,rfl,F9,⟨h9,cb9,mb9,tv9,av9,lv9,ps9,Fc9,Fs9,he,H9,sO⟩,X6,hF9⟩:=hrel
   cases he
   have hkm:k<=m:=by omega
   have oH:ps9.length=n8:=by rw [H9.Lc,HN8.out];exact MQ _ _
   by_cases hlt:k<m
   ·obtain ⟨At9,Ct9,kS⟩:∃A C,tv9=.slice A ps9.length C:=BD H9.IV;subst kS;obtain ⟨u,hu⟩:∃u,ps9[k]? = some u:=⟨ps9[k]'(by omega),Ba _⟩;obtain ⟨q,rfl,hq1,a4J,hq2,hq4⟩:=RU H9.IV hu;have a8G:=hq2 (k*2);have a8H:=hq2 (k*2+1);obtain ⟨_,_,_,hd3,_⟩:=H9.cell;rw [oH] at hd3;have a8I:n8<=20:=by rw [HN8.out];exact HI.out.trl
    have b0:(0:Int)<=(k:Int):=AY _;have b1:(k:Int)<(n8:Int):=by omega
    obtain ⟨z0,z1⟩:=(HQT.out.upd X6 fM.out).cells2;obtain ⟨w10,a2q⟩:∃W,((wr.setCell ⟨q,k*2,none⟩ (.pointer none)).setCell ⟨q,k*2+1,none⟩ (.map none)).drew=W:=⟨_,rfl⟩;have hT:=(H9.tree rfl (i:=k) (by show k<(Dj S.tr k).length;rw [MQ,<-HN8.out];omega) (p:=(none,none)) (F:=[]) none (.inl ⟨rfl,rfl⟩) (by intro P hP x hx;simp at hx)).upd ((Bj.refl [] _).drew) (by intro P hP x hx;simp)
    have hST:Cc W9 w10 (.pointer (some h)) F8 { Q8 S x t p with tr:=Dj S.tr (k+1) }:=by
     have e:Dj S.tr (k+1)=(Dj S.tr k).set k none:=aY _ _ (by rw [<-HN8.out];omega);rw [e,<-a2q];have L9:q∈F9:=by rw [sO];exact Bz (i:=2) (P:=[q]) rfl (by simp)
     refine Cc.next X6 hF9 ⟨_,⟨h,cb9,mb9,_,_,_,_,Fc9,_,rfl,hT,rfl⟩,(((Bj.refl _ _).setCell (p:=⟨q,k*2,none⟩) (.inl L9) _).setCell (p:=⟨q,k*2+1,none⟩) (.inl L9) _).drew,λy hy=>.inl ?_⟩
     have e2:(parts h Fc9 (.slice (some ⟨q,0,none⟩) ps9.length Ct9) av9 lv9 mb9 (Fs9.set k []))=(parts h Fc9 (.slice (some ⟨q,0,none⟩) ps9.length Ct9) av9 lv9 mb9 Fs9).set (k+6) []:=by simp [parts]
     rw [e2] at hy;rw [sO];rcases Ed hy with hy | hy
     ·exact hy
     ·simp at hy
    have a7q:=AX hST;have HKK:=AX hk;have a7r:=AX a2q;clear hT hST H9 sO X6 hF9 hk hu oH hq2 a2q HHD;go_upto_region 13 with fail
    go_region
    rw [a7r.out];go_wp2_with fail
    go_roundg (m - (k+1))
    case measure=>have:=HKK.out;omega
    case rel=>exact ⟨k+1,Ac HKK,by go_num,a7q.out⟩
   ·have zU:k=m:=by omega
    have h9':Cc W9 wr (.pointer (some h)) F8 { Q8 S x t p with tr:=Dj S.tr t }:=by
     have e:Dj S.tr t=Dj S.tr k:=by
      rcases HM.out with g | g
      ·rw [zU,g]
      ·rw [zU];exact (aZ _ _ _ (by rw [g,HN8.out]) (by rw [g];rw [<-g];exact hmt)).symm
     rw [e];exact ⟨F9,⟨h,cb9,mb9,tv9,av9,lv9,ps9,Fc9,Fs9,rfl,H9,sO⟩,X6,hF9⟩
    obtain ⟨Fa,ha,FI,hFa⟩:=h9';have HKM:=AX zU;have HA:=AX ha;have Hr:=AX FI;have HFA:=AX hFa
    have hints:O7.Ints wr (.slice A2 p C2) G:=by
     have hs8:∀y∈blk (.slice A2 p C2),y∉F8:=λy hy hc=>by
      rcases HF8.out y hc with g | g
      ·exact HSL.out y hy g
      ·have:=BJ zQ.out y hy;omega
     have h1:=Bl (Bl (Bl zQ.out nS.out HSL.out) HUN.out (by simp)) FI hs8;have:=O7.Ints.BU h1;exact this
    have hdd:∀y∈blk (.slice A2 p C2),y∉Fa:=by
     intro y hy hc;rcases hFa y hc with g | g
     ·rcases HF8.out y g with g | g
      ·exact HSL.out y hy g
      ·have:=BJ zQ.out y hy;omega
     ·have h1:=BJ zQ.out y hy;have h2:=nS.out.size;have h3:=HUN.out.size;omega
    have a4X:=AX hints;have HDD:=AX hdd;clear zU ha FI hFa hints hdd H9 sO X6 hF9 oH hk;have hg1:=zN HI.out x;rw [HG.out] at hg1;have nY:=AX hg1;have hgg:=a4S.out;rw [HG.out] at hgg;have HGG:=AX hgg;clear hg1 hgg
    have hpb:p<100000:=by
     have e1:=lC S.cs (x,S.al.length);rw [HG.out,HGL.out] at e1;omega
    go_wp2_with fail
    refine (a0Y _ Fa _ t (.slice A2 p C2) G wr HA.out a4X.out (λ_=>HDD.out) (by omega) (by show (Dj S.tr t).length<1000;rw [MQ];omega) nY.out (by show (S.lv++[t]).length=(S.al++[true]).length;rw [Bc,Bc,HI.out.lvl];rfl) (by rw [HGL.out];omega) HGG.1 HGG.2).mono ?_
    rintro e w' ⟨rfl,hfin⟩
    have a1b:Cc w w' (.pointer (some h)) F (Vd S x):=by
     have e:Vd S x=Hf { Q8 S x t p with tr:=Dj S.tr t } t G:=by
      unfold Vd oQ Q8;rw [HT.out,HG.out,HP.out]
     rw [e];exact Cc.next (Gu.out.mono (by simp)) (λy hy=>.inl hy) (Cc.next pG.out HFF.out (Cc.next nS.out HF8.out (Cc.next (HUN.out.mono (by simp)) (λy hy=>.inl hy) (Cc.next Hr.out HFA.out hfin))))
    have Ih:=AX a1b;clear hfin a1b;go_wp2_with fail
    go_ret2
    exact ⟨by rw [HT.out,HP.out];rfl,Ih.out⟩
