/- Half.Add. Printed by mkhg.py. -/
import Derived.Deep.DrawnRows
import Derived.Test.YtkbaaonchdeneaaGreatPb26
set_option maxHeartbeats 8000000
set_option maxRecDepth 100000
namespace Go.Proofs.YtkbaaonchdeneaaGreat.EI
open Go.RowKit
attribute [local go_sem ↓] Go.wp_at_zero Go.wp_at_succ
def VA (S:HS Bx) (x:Bx) (t p:Nat):HS Bx:={ cs:=S.cs++[(x,S.al.length)],al:=S.al++[true],lv:=S.lv++[t],tr:=S.tr,mp:=UA S.mp x S.al.length,wk:=S.wk+p }
theorem TJ {w wb w4:World} {e n m A C:_} {xs news:List Value} {v:Value} (hb:Bf [] w wb) (HP:DY wb w4 0 e 1 v n xs m news A C) :
 Bf (blk v) w w4∧w4.ownsRow 0 e 1 (.slice A (n+m) C) (n+m) (xs++news)∧∀x∈blk (.slice A (n+m) C),x∈blk v∨w.heap.size≤x:=by
 refine ⟨(hb.mono (by simp)).trans HP.upd,HP.own,fun x hx=>?_⟩
 rcases HP.at with h | h
 ·rw [h] at hx;exact .inl hx
 ·rw [h] at hx;simp at hx;rw [hx];exact .inr hb.size
theorem BU.pushed {w w4 w5 wf:World} {h cb mb:Nat} {tv av Ee:Value} {ps:List TV} {Fc:List Nat} {Fs:List (List Nat)} {S:HS Bx} (H:BU w h cb mb tv av Ee ps Fc Fs S) {A4 A5:Option Addr} {C4 C5 t:Nat}
 (Gt:Bf (blk av) w w4) (ho4:w4.ownsRow 0 4 1 (.slice A4 (S.al.length+1) C4) (S.al.length+1) (S.al.map .bool++[.bool true])) (hb4:∀x∈blk (.slice A4 (S.al.length+1) C4),x∈blk av∨w.heap.size≤x)
 (GR:Bf (blk Ee) w4 w5) (ho5:w5.ownsRow 0 3 1 (.slice A5 (S.lv.length+1) C5) (S.lv.length+1) ((S.lv.map fun (n:Nat)=>.int .i64 (n:Int))++[.int .i64 (t:Int)])) (hb5:∀x∈blk (.slice A5 (S.lv.length+1) C5),x∈blk Ee∨w4.heap.size≤x)
 (hwf:wf=(w5.setCell ⟨h,4,none⟩ (.slice A4 (S.al.length+1) C4)).setCell ⟨h,5,none⟩ (.slice A5 (S.lv.length+1) C5)∨wf=(w5.setCell ⟨h,5,none⟩ (.slice A5 (S.lv.length+1) C5)).setCell ⟨h,4,none⟩ (.slice A4 (S.al.length+1) C4)) :
 CJ w wf (.pointer (some ⟨h,0,none⟩)) (parts h Fc tv av Ee mb Fs).flatten { S with al:=S.al++[true],lv:=S.lv++[t] }:=by
 have hha:h∉blk av:=fun hc=>H.Gu (i:=0) (j:=3) rfl rfl (by omega) h (by simp) hc
 have hhl:h∉blk Ee:=fun hc=>H.Gu (i:=0) (j:=4) rfl rfl (by omega) h (by simp) hc
 have hlt:=lt_of_block H.head;have hlt4:=Bc hlt Gt.size;have hh5:=(GR.block h hlt4 hhl).trans ((Gt.block h hlt hha).trans H.head);have a4x:Bf (h::(blk av++blk Ee)) w w5:=(Gt.mono (by intro x hx;left;simp [hx])).trans (GR.mono (by intro x hx;left;simp [hx]));have hl4:=BK H.PN
 have n4:∀x∈blk (.slice A4 (S.al.length+1) C4),x≠h:=by
  intro x hx e;subst e;rcases hb4 x hx with g | g
  ·exact hha g
  ·omega
 have n5:∀x∈blk (.slice A5 (S.lv.length+1) C5),x≠h:=by
  intro x hx e;subst e;rcases hb5 x hx with g | g
  ·exact hhl g
  ·omega
 have d45:∀x∈blk (.slice A4 (S.al.length+1) C4),x∉blk Ee:=by
  intro x hx hc;rcases hb4 x hx with g | g
  ·exact H.Gu (i:=3) (j:=4) rfl rfl (by omega) x g hc
  ·have:=hl4 x hc;omega
 have a4y:=Bg ho4 GR d45
 have huf:Bf [h] w5 wf:=by
  rcases hwf with rfl | rfl
  ·exact ((Bf.refl _ _).setCell (p:=⟨h,4,none⟩) (.inl (by simp)) _).setCell (p:=⟨h,5,none⟩) (.inl (by simp)) _
  ·exact ((Bf.refl _ _).setCell (p:=⟨h,5,none⟩) (.inl (by simp)) _).setCell (p:=⟨h,4,none⟩) (.inl (by simp)) _
 have hhf:wf.heap[h]? = some (.cells #[Ij,Jh,.pointer (some ⟨cb,0,none⟩),tv,.slice A4 (S.al.length+1) C4,.slice A5 (S.lv.length+1) C5,.map (some mb)] 165 (0,0)):=by
  rcases hwf with rfl | rfl
  ·have g1:=heap_setCell_same w5 h 4 _ _ (.slice A4 (S.al.length+1) C4) hh5;have g2:=heap_setCell_same _ h 5 _ _ (.slice A5 (S.lv.length+1) C5) g1;simpa using g2
  ·have g1:=heap_setCell_same w5 h 5 _ _ (.slice A5 (S.lv.length+1) C5) hh5;have g2:=heap_setCell_same _ h 4 _ _ (.slice A4 (S.al.length+1) C4) g1;simpa using g2
 have hu:Bf (h::(blk av++blk Ee)) w wf:=a4x.trans (huf.mono (by intro x hx;left;simp at hx;simp [hx]));have xg:∀x∈blk (.slice A5 (S.lv.length+1) C5),x∈blk Ee∨w.heap.size≤x:=fun x hx=>(hb5 x hx).imp id fun g=>Bd Gt.size g
 have hr:=H.rows (al:=S.al++[true]) (lv:=S.lv++[t]) hu hhf
  (by have:=Bg a4y huf (fun x hx=>by simpa using n4 x hx);unfold boolRow;simpa using this)
  (by have:=Bg ho5 huf (fun x hx=>by simpa using n5 x hx);unfold MV;simpa using this) hb4 xg
 refine ⟨_,⟨h,cb,mb,_,_,_,ps,Fc,Fs,rfl,hr,rfl⟩,hu.mono fun x hx=>.inl ?_,fun x hx=>?_⟩
 ·rcases List.mem_cons.1 hx with rfl | hx
  ·exact Bq (i:=0) (P:=[x]) rfl (by simp)
  ·rcases List.mem_append.1 hx with hx | hx
   ·exact Bq (i:=3) rfl hx
   ·exact Bq (i:=4) rfl hx
 ·obtain ⟨P,hP,Y0⟩:=List.mem_flatten.1 hx;simp only [parts,List.mem_cons] at hP;rcases hP with rfl | rfl | rfl | rfl | rfl | rfl | hP
  ·exact .inl (Bq (i:=0) (P:=[h]) rfl Y0)
  ·exact .inl (Bq (i:=1) rfl Y0)
  ·exact .inl (Bq (i:=2) rfl Y0)
  ·exact (hb4 x Y0).imp (Bq (i:=3) rfl) id
  ·exact (xg x Y0).imp (Bq (i:=4) rfl) id
  ·exact .inl (Bq (i:=5) (P:=[mb]) rfl Y0)
  ·exact .inl (List.mem_flatten.2 ⟨P,by simp [parts,hP],Y0⟩)
theorem U2:(Tryz.prog.info? 4).map (fun i=>(i.zero,i.size,i.bytes))=some (some (.bool false),1,1):=by kernel_rfl
theorem Xx:(Tryz.prog.info? 3).map (fun i=>(i.zero,i.size,i.bytes))=some (some (.int .i64 0),1,8):=by kernel_rfl
theorem jJ (tr:List (Option (Nat×List Bx))) (k:Nat) (h:k<tr.length):DC tr (k+1)=(DC tr k).set k none:=by
 unfold DC;rw [Nat.min_eq_left (by omega),Nat.min_eq_left (by omega)];apply List.ext_getElem?
 intro i;rw [List.getElem?_set];rcases Nat.lt_trichotomy i k with h1 | h1 | h1
 ·rw [if_neg (by omega),List.getElem?_append_left (by simp;omega),List.getElem?_append_left (by simp;omega),List.getElem?_replicate,List.getElem?_replicate,if_pos (by omega),if_pos (by omega)]
 ·subst h1;rw [if_pos rfl,if_pos (by simp;omega),List.getElem?_append_left (by simp),List.getElem?_replicate,if_pos (by omega)]
 ·rw [if_neg (by omega),List.getElem?_append_right (by simp;omega),List.getElem?_append_right (by simp;omega)];simp only [List.length_replicate,List.getElem?_drop];congr 1
  omega
theorem jK (tr:List (Option (Nat×List Bx))) (m t:Nat) (h:m=tr.length) (ht:m≤t):DC tr m=DC tr t:=by
 subst h;unfold DC;rw [Nat.min_eq_left (Nat.le_refl _),Nat.min_eq_right ht,List.drop_length,List.drop_eq_nil_of_le ht]
theorem qZ (l:List (Bx×Nat)) (x:Bx×Nat):(EF (setB l) x).length≤l.length+1:=by
 rw [(GU l x).1,AY,List.length_drop];simp
theorem a1d {S:HS Bx} (I:FK S) (x:Bx):∀y∈EF (setB S.cs) (x,S.al.length),y.2<(S.al++[true]).length:=by
 intro y hy;rw [(GU S.cs (x,S.al.length)).1] at hy;rcases List.mem_append.1 hy with hy | hy
 ·have:=I.lt y (List.mem_of_mem_drop hy);rw [AY];omega
 ·simp at hy;subst hy;simp
theorem U4 (hv:Value) (F:List Nat) (S:HS Bx) (x:Bx) (w:World) (H:Cc w hv F S) (I:FK S) (hx:(x.BO∧x.id<4294967296)) (hk:S.mp.lookup x=none) (hl:S.cs.length<90000) (hal:S.al.length<900000) (hw:S.wk<549755813888) (hgood:Good (live S.al S.cs++[x])) (hl1:(live S.al S.cs).length+1≤1000) :
 Calls Tryz.prog 73 #[hv,.agg #[.int .i64 x.x1,.int .i64 x.x2,.int .i64 x.y1,.int .i64 x.y2,.int .u32 (x.id:Int)]] w fun e w'=>e=.returned (.tuple #[.int .i64 ((2 ^ Bl (setB S.cs):Nat):Int),.bool true])∧CJ w w' hv F (Yq S x):=by
 have H0:=AQ H.lt
 have a7a:Good (live (S.al++[true]) (EF (setB S.cs) (x,S.al.length)))∧(live (S.al++[true]) (EF (setB S.cs) (x,S.al.length))).length≤1000:=by
  have hs:=oI I x;refine ⟨hgood.sub hs,Bd hs.length_le ?_⟩
  rw [AY];exact hl1
 have a7b:=AQ a7a;clear hgood hl1 a7a;obtain ⟨W,hW,hu0,hq0⟩:=BJ w #[.int .i64 x.x1,.int .i64 x.x2,.int .i64 x.y1,.int .i64 x.y2,.int .u32 (x.id:Int)] 28;have H:=H.upd hu0 (by simp);have Ro:=AQ hW;have ET:=AQ hu0;have HQX:=AQ hq0;have hnx:w.heap.size∉F:=fun hc=>Nat.lt_irrefl _ (H0.out _ hc)
 have VZ:=AQ hnx;obtain ⟨hx0,hx1,hx2,hx3,hx4⟩:=hq0.cells5;clear hW hu0 hq0 hnx;have HO:=AQ H;obtain ⟨h,cb,mb,tv,av,Ee,ps,Fc,Fs,rfl,H,hF⟩:=H;obtain ⟨_,_,hc2,hc3,hc4,hc5,hc6,hfr⟩:=H.cell;obtain ⟨Aa,Ca,hav⟩:∃A C,av=.slice A S.al.length C:=Bv H.GK;obtain ⟨Al,Cl,hlv⟩:∃A C,Ee=.slice A S.lv.length C:=Bv H.PN;obtain ⟨At,Ct,qQ⟩:∃A C,tv=.slice A ps.length C:=Bv H.LV;subst hav hlv qQ;have hlook:=H.PO.drew.look hx;rw [hk] at hlook;have Vt:h<W.heap.size:=lt_of_block H.head;have HH:=AQ H;have HI:=AQ I;have HF:=AQ hF;have HK:=AQ hk
 have hml:S.mp.length<900000:=by
  have h1:=I.core.Oi;have h2:=List.length_filter_le (fun p:Bx×Bool=>p.2) (view S);unfold Di at h1;rw [List.length_map] at h1;rw [IL] at h2;omega
 have hwa:(Lit.int .i64 (S.al.length:Int)).wf=true:=by simp [Lit.wf,IntKind.min,IntKind.max,IntKind.signed,IntKind.bits];omega
 clear H hF I hk hfr;go_enter Tryz.func73,Tryz.ntmps73
 go_upto_region 1 with fail
 rw [←Ro.out];clear Ro;obtain ⟨qx,JJ⟩:∃q,w.heap.size=q:=⟨_,rfl⟩;rw [JJ] at hx0 hx1 hx2 hx3 hx4 HQX VZ ⊢;have HQE:=AQ JJ;clear JJ H0;go_wp2_with fail
 refine (YZ _ _ _ _ HO.out).mono ?_
 rintro e w' ⟨rfl,rfl⟩;go_upto_region 3 with fail
 go_region
 have HHD:=AQ (HH.out.upd ((Bf.refl [] W).drew) (by intro P hP x hx;simp));go_upto_region 6 with fail
 obtain ⟨w1,hrun,hm1,hu1⟩:=HHD.out.PO.drew.put hx hwa (by unfold maxLen;omega);go_region
 have OA:Bf [mb] W w1:=(((Bf.refl [] W).drew.drew).mono (by simp)).trans' hu1 (fun x hx=>.inl hx);have h1:=HH.out.map hm1 OA;have hqw:qx<W.heap.size:=HQX.out.lt;have hqm:qx∉[mb]:=fun hc=>VZ.out (by rw [HF.out];exact Bq (i:=5) (P:=[mb]) rfl hc)
 have Rn:qx∉Fc:=fun hc=>VZ.out (by rw [HF.out];exact Bq (i:=1) rfl hc)
 have hst1:CJ W w1 (.pointer (some ⟨h,0,none⟩)) F { S with mp:=UA S.mp x S.al.length }:=by
  have ug:=HF.out;refine ⟨F,⟨h,cb,mb,_,_,_,ps,Fc,Fs,rfl,h1,ug⟩,OA.mono fun y hy=>.inl ?_,fun y hy=>.inl hy⟩
  rw [ug];exact Bq (i:=5) (P:=[mb]) rfl hy
 have hhm:h≠mb:=fun e=>HH.out.Gu (i:=0) (j:=5) rfl rfl (by omega) h (by simp) (by simp [e])
 have hc2':=(OA.cell (p:=⟨h,2,none⟩) Vt (by simp;exact hhm)).trans hc2;have Xu:=(OA.cell (p:=⟨h,4,none⟩) Vt (by simp;exact hhm)).trans hc4;have hy0:=(OA.cell (p:=⟨qx,0,none⟩) hqw hqm).trans hx0;have hy1:=(OA.cell (p:=⟨qx,1,none⟩) hqw hqm).trans hx1;have hy2:=(OA.cell (p:=⟨qx,2,none⟩) hqw hqm).trans hx2;have hy3:=(OA.cell (p:=⟨qx,3,none⟩) hqw hqm).trans hx3;have hy4:=(OA.cell (p:=⟨qx,4,none⟩) hqw hqm).trans hx4;have ru:qx<w1.heap.size:=Bc hqw OA.size;have a1e:h<w1.heap.size:=Bc Vt OA.size;have hhF:h∉Fc:=fun hc=>HH.out.Gu (i:=0) (j:=1) rfl rfl (by omega) h (by simp) hc
 have hd2:w1.drew.cell? ⟨h,2,none⟩=some (.pointer (some ⟨cb,0,none⟩)):=hc2';have hd4:w1.drew.cell? ⟨h,4,none⟩=some (.slice Aa S.al.length Ca):=Xu;have hbn:(setB S.cs).length≤20:=by rw [Es];exact CQ S.cs.length 20 (by omega)
 have hfl:(setB S.cs).flatten.length<90000:=by rw [Uz];exact hl
 have HS1:=AQ hst1;have Yo:=AQ h1;have hz0:w1.drew.cell? ⟨qx,0,none⟩=some (.int .i64 x.x1):=hy0;have hz1:w1.drew.cell? ⟨qx,1,none⟩=some (.int .i64 x.x2):=hy1;have hz2:w1.drew.cell? ⟨qx,2,none⟩=some (.int .i64 x.y1):=hy2;have hz3:w1.drew.cell? ⟨qx,3,none⟩=some (.int .i64 x.y2):=hy3;have hz4:w1.drew.cell? ⟨qx,4,none⟩=some (.int .u32 (x.id:Int)):=hy4;clear hst1 h1 hc2 hc4 hlook hrun hm1 hu1 hx0 hx1 hx2 hx3 hx4 hqm;go_upto_region 7 with fail
 go_region_held3 (fun w'=>w'.cell? ⟨h,2,none⟩=some (.pointer (some ⟨cb,0,none⟩))∧w'.cell? ⟨h,4,none⟩=some (.slice Aa S.al.length Ca)∧w'.cell? ⟨qx,0,none⟩=some (.int .i64 x.x1)∧w'.cell? ⟨qx,1,none⟩=some (.int .i64 x.x2)∧w'.cell? ⟨qx,2,none⟩=some (.int .i64 x.y1)∧w'.cell? ⟨qx,3,none⟩=some (.int .i64 x.y2)∧w'.cell? ⟨qx,4,none⟩=some (.int .u32 (x.id:Int)))
  (first
   |(exact ⟨hd2,hd4,hz0,hz1,hz2,hz3,hz4⟩)
   |(exact ⟨(g2.cell (p:=⟨h,2,none⟩) a1e hhF).trans hd2,(g2.cell (p:=⟨h,4,none⟩) a1e hhF).trans hd4,(g2.cell (p:=⟨qx,0,none⟩) ru Rn).trans hz0,(g2.cell (p:=⟨qx,1,none⟩) ru Rn).trans hz1,(g2.cell (p:=⟨qx,2,none⟩) ru Rn).trans hz2,(g2.cell (p:=⟨qx,3,none⟩) ru Rn).trans hz3,(g2.cell (p:=⟨qx,4,none⟩) ru Rn).trans hz4⟩)
   |go_keep)
  ((go_at_call 128;refine (UW.a4i cb Fc (x,S.al.length) _ _ _ _ (Yo.out.TI.upd ((Bf.refl [] w1).drew) (by simp)) (by show (setB S.cs).length<_;omega) (by show (setB S.cs).flatten.length<_;omega) (by show S.cs.length<_;omega) (by show S.wk<_;omega)).mono ?_;rintro e w2 ⟨A2,C2,rfl,Fc2,g1,g2,g3,g4,g5⟩))
 have OV:Bf Fc w1 w2:=((Bf.refl [] w1).drew.mono (by simp)).trans' g2 (fun y hy=>.inl hy);have hgl:=(GU S.cs (x,S.al.length)).2;obtain ⟨G,hG⟩:=AO (EF (setB S.cs) (x,S.al.length));obtain ⟨t,ht⟩:=AO (Bl (setB S.cs));rw [hG] at g1 g4 g5 hgl ⊢;rw [ht] at hgl ⊢;obtain ⟨p,hp⟩:=AO (2 ^ t);rw [hp] at hgl;rw [hgl] at g1 g4 g5 ⊢;have h2:=Yo.out.carry (w':=w2) (cs:=S.cs++[(x,S.al.length)]) (wk:=S.wk+p) (mY:=Fc2) (by rw [←VU,AY];exact g1) OV g3;clear hy0 hy1 hy2 hy3 hy4 hz0 hz1 hz2 hz3 hz4;have lS:=AQ (((OA.mono (G:=F) (fun y hy=>.inl (by rw [HF.out];exact Bq (i:=5) (P:=[mb]) rfl hy))).trans' OV (fun y hy=>.inl (by rw [HF.out];exact Bq (i:=1) rfl hy))));obtain ⟨F2,hF2⟩:=AO ((parts h Fc2 (.slice At ps.length Ct) (.slice Aa S.al.length Ca) (.slice Al S.lv.length Cl) mb Fs).flatten);have xq:parts h Fc2 (.slice At ps.length Ct) (.slice Aa S.al.length Ca) (.slice Al S.lv.length Cl) mb Fs=(parts h Fc (.slice At ps.length Ct) (.slice Aa S.al.length Ca) (.slice Al S.lv.length Cl) mb Fs).set 1 Fc2:=rfl
 have hFF:∀y∈F2,y∈F∨W.heap.size≤y:=by
  intro y hy;rw [←hF2,xq] at hy;rcases EJ hy with hy | hy
  ·exact .inl (by rw [HF.out];exact hy)
  ·rcases g3 y hy with g | g
   ·exact .inl (by rw [HF.out];exact Bq (i:=1) rfl g)
   ·exact .inr (Bd OA.size g)
 have hSL:∀y∈blk (.slice A2 p C2),y∉F2:=by
  intro y hy hc;rw [←hF2,xq] at hc;rcases EJ hc with hc | hc
  ·have e1:=BD g4 y hy;obtain ⟨P,hP,hyP⟩:=List.mem_flatten.1 hc;have e2:=Yo.out.lt P hP y hyP;have e3:w1.drew.heap.size=w1.heap.size:=rfl;omega
  ·exact g5 y hy hc
 have HFF:=AQ hFF;have HSL:=AQ hSL;have HF2:=AQ hF2;clear hFF hSL xq;obtain ⟨_,_,_,a6Z,nC,wR,_,hfr⟩:=h2.cell;have hf4:=hfr 4;have hf5:=hfr 5;have dU:h<w2.heap.size:=lt_of_block h2.head;have Us:=AQ h2;have HG:=AQ hG;have HT:=AQ ht;have HP:=AQ hp;have HGL:=AQ hgl;have xu:=AQ g4;have HG5:=AQ g5;have HG3:=AQ g3;have Fq:=AQ OV;clear h2 hfr g1 g2 g3 g4 g5 hG ht hp hgl OV hF2 hd2 hd4 hc2' Xu hc5 hc3 hqw ru Rn;obtain ⟨ib,hib,hb0,hb1,hb2⟩:=info_parts U2;obtain ⟨ii,hii,hi0,hi1,hi2⟩:=info_parts Xx;have hh4:=Us.out.GK;have hh5:=Us.out.PN;have rC:h∉blk (.slice Aa S.al.length Ca):=fun hc=>Us.out.Gu (i:=0) (j:=3) rfl rfl (by omega) h (by simp) hc
 have xw:h∉blk (.slice Al S.lv.length Cl):=fun hc=>Us.out.Gu (i:=0) (j:=4) rfl rfl (by omega) h (by simp) hc
 have rD:=AQ hh4;have HA5:=AQ hh5;have b2i:S.lv.length<900000:=by rw [HI.out.lvl];exact hal
 clear hh4 hh5;have xA:∀y∈blk (.slice Al S.lv.length Cl),y∉blk (.slice Aa S.al.length Ca):=Us.out.Gu (i:=4) (j:=3) rfl rfl (by omega);have jL:=AQ xA;clear xA
 have hsT:Ed ((w2.alloc (.cells #[.int .i64 (t:Int)] 3)).alloc (.cells #[.bool true] 4)).drew 1 (.slice (some ⟨w2.heap.size+1,0,none⟩) 1 1) 1 [.bool true]:=by
  have h0:(w2.alloc (.cells #[.int .i64 (t:Int)] 3)).heap.size=w2.heap.size+1:=by simp
  have:=(BM (w2.alloc (.cells #[.int .i64 (t:Int)] 3)) #[.bool true] 4 1 1 rfl (by decide)).drew;rw [h0] at this;exact this
 have hsI:Ed ((w2.alloc (.cells #[.bool true] 4)).alloc (.cells #[.int .i64 (t:Int)] 3)).drew 1 (.slice (some ⟨w2.heap.size+1,0,none⟩) 1 1) 1 [.int .i64 (t:Int)]:=by
  have h0:(w2.alloc (.cells #[.bool true] 4)).heap.size=w2.heap.size+1:=by simp
  have:=(BM (w2.alloc (.cells #[.bool true] 4)) #[.int .i64 (t:Int)] 3 1 1 rfl (by decide)).drew;rw [h0] at this;exact this
 have hsJ:Ed ((w2.alloc (.cells #[.int .i64 (t:Int)] 3)).alloc (.cells #[.bool true] 4)).drew 1 (.slice (some ⟨w2.heap.size,0,none⟩) 1 1) 1 [.int .i64 (t:Int)]:=
  (Dq (BM w2 #[.int .i64 (t:Int)] 3 1 1 rfl (by decide)) ((Bf.refl [] _).alloc _) (by simp)).drew
 have ZO:=BK rD.out;have hnI:∀y∈blk (.slice (some ⟨w2.heap.size+1,0,none⟩) 1 1),y∉blk (.slice Aa S.al.length Ca):=fun y hy hc=>by have:=ZO y hc;simp [blk] at hy;omega
 have hnJ:∀y∈blk (.slice (some ⟨w2.heap.size,0,none⟩) 1 1),y∉blk (.slice Aa S.al.length Ca):=fun y hy hc=>by have:=ZO y hc;simp [blk] at hy;omega
 have HNI:=AQ hnI;have HNJ:=AQ hnJ;have HST:=AQ hsT;have HSI:=AQ hsI;have HSJ:=AQ hsJ;have HAV:=AQ ZO;clear hsT hsI hsJ ZO hnI hnJ;go_upto_region 8 with fail
 go_cut [] (fun wc=>CJ w2 wc (.pointer (some ⟨h,0,none⟩)) F2 (VA S x t p))
 case first=>
  clear hx hl hw HO HI HK hml hwa OA hhm a1e hhF hbn hfl HS1 Yo HG HT HP HGL xu HG5 HG3 Fq lS HFF HSL HHD a7b
  go_region_law (first
   |(
    refine FH _ (by rfl) _ _ 162 (by rfl) 0 4 ib (.bool false) 1 1 Tryz.underlying162 hib hb0 hb1 hb2 rfl (by decide) _ S.al.length (S.al.map .bool) (by rfl) (by first | exact ER (rD.out.alloc _) | exact ER ((rD.out.alloc _).alloc _)) _ 1 [.bool true] (by rfl) (by first | exact (BM _ #[.bool true] 4 1 1 rfl (by decide)).drew | exact (Dq (BM _ #[.bool true] 4 1 1 rfl (by decide)) ((Bf.refl [] _).alloc _) (by simp)).drew | exact HST.out) (by simp [Value.oneCell']) (by unfold maxLen;omega) (by omega) (Nat.zero_le _) ?_;intro A4 C4 w4 iq
    have xB:Bf (blk (.slice Aa S.al.length Ca)) _ w4:=iq.upd;obtain ⟨J7,ho4,hb4⟩:=TJ (w:=w2) (v:=.slice Aa S.al.length Ca) (by first | exact ((Bf.refl _ w2).alloc (.cells #[.bool true] 4)).drew | exact (((Bf.refl _ w2).alloc (.cells #[.bool true] 4)).alloc (.cells #[.int .i64 (t:Int)] 3)).drew | exact (((Bf.refl _ w2).alloc (.cells #[.int .i64 (t:Int)] 3)).alloc (.cells #[.bool true] 4)).drew) iq;clear iq;have HO4:=AQ ho4;have HB4:=AQ hb4;clear ho4 hb4;have hx5:=(J7.cell (p:=⟨h,5,none⟩) dU rC).trans wR;have a4z:∀o,(w4.alloc o).cell? ⟨h,5,none⟩=some (.slice Al S.lv.length Cl):=fun o=>by rw [World.cell?_alloc_past _ _ _ (Bc dU J7.size)];exact hx5)
   |(
    refine FH _ (by rfl) _ _ 163 (by rfl) 0 3 ii (.int .i64 0) 1 8 Tryz.underlying163 hii hi0 hi1 hi2 rfl (by decide) _ S.lv.length (S.lv.map fun (n:Nat)=>.int .i64 (n:Int)) (by rfl) (by first | exact (Bg HA5.out J7 jL.out).alloc _ | exact Bg HA5.out J7 jL.out) _ 1 [.int .i64 (t:Int)] (by rfl) (by
     first
      |exact BM w4 #[.int .i64 (t:Int)] 3 1 1 rfl (by decide)
      |exact Dq HSI.out xB (fun _ y hy _=>HNI.out y hy)
      |exact Dq HSJ.out xB (fun _ y hy _=>HNJ.out y hy)) (by simp [Value.oneCell']) (by unfold maxLen;omega) (by omega) (Nat.zero_le _) ?_;intro A5 C5 w5 HP5
    obtain ⟨Nu,ho5,hb5⟩:=TJ (w:=w4) (v:=.slice Al S.lv.length Cl) (by first | exact ((Bf.refl _ w4).alloc (.cells #[.int .i64 (t:Int)] 3)) | exact Bf.refl _ w4) HP5;clear HP5;have HO5:=AQ ho5;have HB5:=AQ hb5;clear ho5 hb5 hx5 a4z;have ZP:h<w4.heap.size:=Bc dU J7.size;have Sr:=(Nu.cell (p:=⟨h,4,none⟩) ZP xw).trans ((J7.cell (p:=⟨h,4,none⟩) dU rC).trans nC);have hst5:=(Nu.cell (p:=⟨h,5,none⟩) ZP xw).trans ((J7.cell (p:=⟨h,5,none⟩) dU rC).trans wR);have b1c:=(Nu.frozen (p:=⟨h,4,none⟩) ZP xw).trans ((J7.frozen (p:=⟨h,4,none⟩) dU rC).trans hf4);have b1d:=(Nu.frozen (p:=⟨h,5,none⟩) ZP xw).trans ((J7.frozen (p:=⟨h,5,none⟩) dU rC).trans hf5)))
  all_goals
   go_wp2_with fail
   go_meet
   case rel=>
    rw [←HF2.out];exact Us.out.pushed J7 HO4.out HB4.out Nu HO5.out HB5.out (by first | exact .inl rfl | exact .inr rfl)
 case rest=>
  clear a6Z nC wR hf4 hf5 HNI HNJ HST HSI HSJ HAV rD HA5 jL hib hb0 hb1 hb2 hii hi0 hi1 hi2 rC xw;obtain ⟨F8,⟨h8,cb8,mb8,tv8,av8,lv8,ps8,Fc8,Fs8,he,H8,a7c⟩,nD,hF8⟩:=hcut
  cases he
  obtain ⟨At8,Ct8,qQ⟩:∃A C,tv8=.slice A ps8.length C:=Bv H8.LV;subst qQ;have hcut:=(⟨F8,⟨h,cb8,mb8,_,av8,lv8,ps8,Fc8,Fs8,rfl,H8,a7c⟩,nD,hF8⟩:CJ w2 wc (.pointer (some ⟨h,0,none⟩)) F2 (VA S x t p));have wF:=AQ hcut;obtain ⟨_,_,_,hd3,_⟩:=H8.cell;obtain ⟨n8,hn8⟩:∃n,ps8.length=n:=⟨_,rfl⟩;have a7d:n8=S.tr.length:=by rw [←hn8,H8.OX];rfl
  rw [hn8] at hd3;have HN8:=AQ a7d;have htr:=HI.out.trl
  have b1e:t≤20:=by
   have h1:=Eo (setB S.cs);have h2:=HT.out;omega
  obtain ⟨m,hm⟩:=AO (min t n8)
  have hms:Value.int .i64 (min (t:Int) (n8:Int))=Value.int .i64 (m:Int):=by
   rw [←hm];congr 1;omega
  have hmt:m≤t:=by omega
  have hmn:m≤n8:=by omega
  have hmx:m=t∨m=n8:=by omega
  have HM:=AQ hmx;clear hcut hm hn8 a7d hmx H8 a7c nD hF8;obtain ⟨W9,hW9,a1f,a7e⟩:=BJ wc #[.pointer none,.map none] 102;have HW9:=AQ hW9;have HQT:=AQ a7e;have HUN:=AQ a1f;have H8:=wF.out;obtain ⟨F8,H8,nD,hF8⟩:=H8;have a7f:wc.heap.size∉F8:=fun hc=>Nat.lt_irrefl _ (H8.lt _ hc)
  have H89:Cc W9 (.pointer (some ⟨h,0,none⟩)) F8 (VA S x t p):=H8.upd a1f (by simp);have b1f:=AQ H89;have tH:=AQ nD;have HF8:=AQ hF8;have l9:=AQ a7f;have hd39:=(a1f.cell (World.block_lt_of_cell? _ _ hd3) (by simp)).trans hd3;clear hW9 a1f a7e H8 nD hF8 a7f H89 hd3;go_upto_region 10 with fail
  rw [←HW9.out];clear HW9;generalize wc.heap.size=qt at HQT l9 ⊢;go_wp2_with fail
  go_loopg [75] m (fun g i wr=>∃k,g+k=m∧i=.int .i64 (k:Int)∧CJ W9 wr (.pointer (some ⟨h,0,none⟩)) F8 { VA S x t p with tr:=DC S.tr k })
  case atStart=>exact ⟨0,rfl,rfl,by
   have e:DC S.tr 0=S.tr:=by simp [DC]
   rw [e];exact CJ.refl b1f.out⟩
  case round=>
   obtain ⟨k,hk,rfl,F9,⟨h9,cb9,mb9,tv9,av9,lv9,ps9,Fc9,Fs9,he,H9,xC⟩,aY,hF9⟩:=hrel
   cases he
   have hkm:k≤m:=by omega
   have hp9:ps9.length=n8:=by rw [H9.OX,HN8.out];exact Qs _ _
   by_cases hlt:k<m
   ·obtain ⟨At9,Ct9,qQ⟩:∃A C,tv9=.slice A ps9.length C:=Bv H9.LV;subst qQ;obtain ⟨u,hu⟩:∃u,ps9[k]? = some u:=⟨ps9[k]'(by omega),AX _⟩;obtain ⟨q,rfl,hq1,a6U,hq2,hq4⟩:=V4 H9.LV hu;have b2j:=hq2 (k*2);have b2k:=hq2 (k*2+1);obtain ⟨_,_,_,hd3,_⟩:=H9.cell;rw [hp9] at hd3;have b2l:n8≤20:=by rw [HN8.out];exact HI.out.trl
    have b0:(0:Int)≤(k:Int):=AU _;have b1:(k:Int)<(n8:Int):=by omega
    obtain ⟨z0,z1⟩:=(HQT.out.upd aY l9.out).cells2;obtain ⟨w10,a4A⟩:∃W,((wr.setCell ⟨q,k*2,none⟩ (.pointer none)).setCell ⟨q,k*2+1,none⟩ (.map none)).drew=W:=⟨_,rfl⟩;have hT:=(H9.tree rfl (i:=k) (by show k<(DC S.tr k).length;rw [Qs,←HN8.out];omega) (p:=(none,none)) (F:=[]) none (.inl ⟨rfl,rfl⟩) (by intro P hP x hx;simp at hx)).upd ((Bf.refl [] _).drew) (by intro P hP x hx;simp)
    have hST:CJ W9 w10 (.pointer (some ⟨h,0,none⟩)) F8 { VA S x t p with tr:=DC S.tr (k+1) }:=by
     have e:DC S.tr (k+1)=(DC S.tr k).set k none:=jJ _ _ (by rw [←HN8.out];omega);rw [e,←a4A];have Rn:q∈F9:=by rw [xC];exact Bq (i:=2) (P:=[q]) rfl (by simp)
     refine CJ.next aY hF9 ⟨_,⟨h,cb9,mb9,_,_,_,_,Fc9,_,rfl,hT,rfl⟩,(((Bf.refl _ _).setCell (p:=⟨q,k*2,none⟩) (.inl Rn) _).setCell (p:=⟨q,k*2+1,none⟩) (.inl Rn) _).drew,fun y hy=>.inl ?_⟩
     have e2:(parts h Fc9 (.slice (some ⟨q,0,none⟩) ps9.length Ct9) av9 lv9 mb9 (Fs9.set k []))=(parts h Fc9 (.slice (some ⟨q,0,none⟩) ps9.length Ct9) av9 lv9 mb9 Fs9).set (k+6) []:=by simp [parts]
     rw [e2] at hy;rw [xC];rcases EJ hy with hy | hy
     ·exact hy
     ·simp at hy
    have b1g:=AQ hST;have HKK:=AQ hk;have b1h:=AQ a4A;clear hT hST H9 xC aY hF9 hk hu hp9 hq2 a4A HHD;go_upto_region 13 with fail
    go_region
    rw [b1h.out];go_wp2_with fail
    go_roundg (m - (k+1))
    case measure=>have:=HKK.out;omega
    case rel=>exact ⟨k+1,Ac HKK,by go_num,b1g.out⟩
   ·have a1g:k=m:=by omega
    have h9':CJ W9 wr (.pointer (some ⟨h,0,none⟩)) F8 { VA S x t p with tr:=DC S.tr t }:=by
     have e:DC S.tr t=DC S.tr k:=by
      rcases HM.out with g | g
      ·rw [a1g,g]
      ·rw [a1g];exact (jK _ _ _ (by rw [g,HN8.out]) (by rw [g];rw [←g];exact hmt)).symm
     rw [e];exact ⟨F9,⟨h,cb9,mb9,tv9,av9,lv9,ps9,Fc9,Fs9,rfl,H9,xC⟩,aY,hF9⟩
    obtain ⟨Fa,ha,FM,hFa⟩:=h9';have HKM:=AQ a1g;have HA:=AQ ha;have Gl:=AQ FM;have HFA:=AQ hFa
    have hints:UW.Ints wr (.slice A2 p C2) G:=by
     have hs8:∀y∈blk (.slice A2 p C2),y∉F8:=fun y hy hc=>by
      rcases HF8.out y hc with g | g
      ·exact HSL.out y hy g
      ·have:=BK xu.out y hy;omega
     have h1:=Bg (Bg (Bg xu.out tH.out HSL.out) HUN.out (by simp)) FM hs8;have:=UW.Ints.BX h1;exact this
    have hdd:∀y∈blk (.slice A2 p C2),y∉Fa:=by
     intro y hy hc;rcases hFa y hc with g | g
     ·rcases HF8.out y g with g | g
      ·exact HSL.out y hy g
      ·have:=BK xu.out y hy;omega
     ·have h1:=BK xu.out y hy;have h2:=tH.out.size;have h3:=HUN.out.size;omega
    have a7g:=AQ hints;have HDD:=AQ hdd;clear a1g ha FM hFa hints hdd H9 xC aY hF9 hp9 hk;have hg1:=a1d HI.out x;rw [HG.out] at hg1;have tX:=AQ hg1;have hgg:=a7b.out;rw [HG.out] at hgg;have HGG:=AQ hgg;clear hg1 hgg
    have hpb:p<100000:=by
     have e1:=qZ S.cs (x,S.al.length);rw [HG.out,HGL.out] at e1;omega
    go_wp2_with fail
    refine (a1X _ Fa _ t (.slice A2 p C2) G wr HA.out a7g.out (fun _=>HDD.out) (by omega) (by show (DC S.tr t).length<1000;rw [Qs];omega) tX.out (by show (S.lv++[t]).length=(S.al++[true]).length;rw [AY,AY,HI.out.lvl];rfl) (by rw [HGL.out];omega) HGG.1 HGG.2).mono ?_
    rintro e w' ⟨rfl,hfin⟩
    have a2a:CJ w w' (.pointer (some ⟨h,0,none⟩)) F (Yq S x):=by
     have e:Yq S x=JC { VA S x t p with tr:=DC S.tr t } t G:=by
      unfold Yq uz VA;rw [HT.out,HG.out,HP.out]
     rw [e];exact CJ.next (ET.out.mono (by simp)) (fun y hy=>.inl hy) (CJ.next lS.out HFF.out (CJ.next tH.out HF8.out (CJ.next (HUN.out.mono (by simp)) (fun y hy=>.inl hy) (CJ.next Gl.out HFA.out hfin))))
    have Gv:=AQ a2a;clear hfin a2a;go_wp2_with fail
    go_ret2
    exact ⟨by rw [HT.out,HP.out];rfl,Gv.out⟩
