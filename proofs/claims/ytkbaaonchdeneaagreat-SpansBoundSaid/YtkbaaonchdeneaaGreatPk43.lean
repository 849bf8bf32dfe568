/- Half.Add. Printed by mkhg.py. -/
import Derived.Deep.RegionLaw
import Derived.Deep.DrawnRows
import Derived.Test.YtkbaaonchdeneaaGreatPk42
set_option maxHeartbeats 8000000
set_option maxRecDepth 100000
namespace Go.Proofs.YtkbaaonchdeneaaGreat.HSp
open Go.RowKit
attribute [local go_sem ↓] Go.wp_at_zero Go.wp_at_succ
def addS0 (S:HS Sp) (x:Sp) (t p:Nat):HS Sp:={ cs:=S.cs++[(x,S.al.length)],al:=S.al++[true],lv:=S.lv++[t],tr:=S.tr,mp:=mput S.mp x S.al.length,wk:=S.wk+p }
theorem app_out {w wb w4:World} {e n m A C:_} {xs news:List Value} {v:Value} (hb:Upd [] w wb) (HP:AppPost wb w4 0 e 1 v n xs m news A C) :
 Upd (blk v) w w4∧w4.ownsRow 0 e 1 (.slice A (n+m) C) (n+m) (xs++news)∧∀x∈blk (.slice A (n+m) C),x∈blk v∨w.heap.size≤x:=by
 refine ⟨(hb.mono (by simp)).trans HP.upd,HP.own,fun x hx=>?_⟩
 rcases HP.at with h | h
 ·rw [h] at hx;exact .inl hx
 ·rw [h] at hx;simp at hx;rw [hx];exact .inr hb.size
theorem HalfAt.pushed {w w4 w5 wf:World} {h cb mb:Nat} {tv av lvv:Value} {ps:List TV} {Fc:List Nat} {Fs:List (List Nat)} {S:HS Sp} (H:HalfAt w h cb mb tv av lvv ps Fc Fs S) {A4 A5:Option Addr} {C4 C5 t:Nat}
 (hu4:Upd (blk av) w w4) (ho4:w4.ownsRow 0 4 1 (.slice A4 (S.al.length+1) C4) (S.al.length+1) (S.al.map .bool++[.bool true])) (hb4:∀x∈blk (.slice A4 (S.al.length+1) C4),x∈blk av∨w.heap.size≤x)
 (hu5:Upd (blk lvv) w4 w5) (ho5:w5.ownsRow 0 3 1 (.slice A5 (S.lv.length+1) C5) (S.lv.length+1) ((S.lv.map fun (n:Nat)=>.int .i64 (n:Int))++[.int .i64 (t:Int)])) (hb5:∀x∈blk (.slice A5 (S.lv.length+1) C5),x∈blk lvv∨w4.heap.size≤x)
 (hwf:wf=(w5.setCell ⟨h,4,none⟩ (.slice A4 (S.al.length+1) C4)).setCell ⟨h,5,none⟩ (.slice A5 (S.lv.length+1) C5)∨wf=(w5.setCell ⟨h,5,none⟩ (.slice A5 (S.lv.length+1) C5)).setCell ⟨h,4,none⟩ (.slice A4 (S.al.length+1) C4)) :
 HStep w wf (.pointer (some ⟨h,0,none⟩)) (parts h Fc tv av lvv mb Fs).flatten { S with al:=S.al++[true],lv:=S.lv++[t] }:=by
 have hha:h∉blk av:=fun hc=>H.dis (i:=0) (j:=3) rfl rfl (by omega) h (by simp) hc
 have hhl:h∉blk lvv:=fun hc=>H.dis (i:=0) (j:=4) rfl rfl (by omega) h (by simp) hc
 have hlt:=lt_of_block H.head
 have hlt4:=Nat.lt_of_lt_of_le hlt hu4.size
 have hh5:=(hu5.block h hlt4 hhl).trans ((hu4.block h hlt hha).trans H.head)
 have hu45:Upd (h::(blk av++blk lvv)) w w5:=(hu4.mono (by intro x hx;left;simp [hx])).trans (hu5.mono (by intro x hx;left;simp [hx]))
 have hl4:=own_lt H.lrow
 have n4:∀x∈blk (.slice A4 (S.al.length+1) C4),x≠h:=by
  intro x hx e;subst e
  rcases hb4 x hx with g | g
  ·exact hha g
  ·omega
 have n5:∀x∈blk (.slice A5 (S.lv.length+1) C5),x≠h:=by
  intro x hx e;subst e
  rcases hb5 x hx with g | g
  ·exact hhl g
  ·omega
 have d45:∀x∈blk (.slice A4 (S.al.length+1) C4),x∉blk lvv:=by
  intro x hx hc
  rcases hb4 x hx with g | g
  ·exact H.dis (i:=3) (j:=4) rfl rfl (by omega) x g hc
  ·have:=hl4 x hc;omega
 have ho4':=own_upd ho4 hu5 d45
 have huf:Upd [h] w5 wf:=by
  rcases hwf with rfl | rfl
  ·exact ((Upd.refl _ _).setCell (p:=⟨h,4,none⟩) (.inl (by simp)) _).setCell (p:=⟨h,5,none⟩) (.inl (by simp)) _
  ·exact ((Upd.refl _ _).setCell (p:=⟨h,5,none⟩) (.inl (by simp)) _).setCell (p:=⟨h,4,none⟩) (.inl (by simp)) _
 have hhf:wf.heap[h]? = some (.cells #[fnBuild,fnDrop,.pointer (some ⟨cb,0,none⟩),tv,.slice A4 (S.al.length+1) C4,.slice A5 (S.lv.length+1) C5,.map (some mb)] 203 (0,0)):=by
  rcases hwf with rfl | rfl
  ·have g1:=heap_setCell_same w5 h 4 _ _ (.slice A4 (S.al.length+1) C4) hh5
   have g2:=heap_setCell_same _ h 5 _ _ (.slice A5 (S.lv.length+1) C5) g1
   simpa using g2
  ·have g1:=heap_setCell_same w5 h 5 _ _ (.slice A5 (S.lv.length+1) C5) hh5
   have g2:=heap_setCell_same _ h 4 _ _ (.slice A4 (S.al.length+1) C4) g1
   simpa using g2
 have hu:Upd (h::(blk av++blk lvv)) w wf:=hu45.trans (huf.mono (by intro x hx;left;simp at hx;simp [hx]))
 have hb5':∀x∈blk (.slice A5 (S.lv.length+1) C5),x∈blk lvv∨w.heap.size≤x:=fun x hx=>(hb5 x hx).imp id fun g=>Nat.le_trans hu4.size g
 have hr:=H.rows (al:=S.al++[true]) (lv:=S.lv++[t]) hu hhf
  (by have:=own_upd ho4' huf (fun x hx=>by simpa using n4 x hx);unfold boolRow;simpa using this)
  (by have:=own_upd ho5 huf (fun x hx=>by simpa using n5 x hx);unfold natRow;simpa using this) hb4 hb5'
 refine ⟨_,⟨h,cb,mb,_,_,_,ps,Fc,Fs,rfl,hr,rfl⟩,hu.mono fun x hx=>.inl ?_,fun x hx=>?_⟩
 ·rcases List.mem_cons.1 hx with rfl | hx
  ·exact mem_part (i:=0) (P:=[x]) rfl (by simp)
  ·rcases List.mem_append.1 hx with hx | hx
   ·exact mem_part (i:=3) rfl hx
   ·exact mem_part (i:=4) rfl hx
 ·obtain ⟨P,hP,hxP⟩:=List.mem_flatten.1 hx
  simp only [parts,List.mem_cons] at hP
  rcases hP with rfl | rfl | rfl | rfl | rfl | rfl | hP
  ·exact .inl (mem_part (i:=0) (P:=[h]) rfl hxP)
  ·exact .inl (mem_part (i:=1) rfl hxP)
  ·exact .inl (mem_part (i:=2) rfl hxP)
  ·exact (hb4 x hxP).imp (mem_part (i:=3) rfl) id
  ·exact (hb5' x hxP).imp (mem_part (i:=4) rfl) id
  ·exact .inl (mem_part (i:=5) (P:=[mb]) rfl hxP)
  ·exact .inl (List.mem_flatten.2 ⟨P,by simp [parts,hP],hxP⟩)
theorem info_bool:(Tryz.prog.info? 4).map (fun i=>(i.zero,i.size,i.bytes))=some (some (.bool false),1,1):=by kernel_rfl
theorem info_int:(Tryz.prog.info? 3).map (fun i=>(i.zero,i.size,i.bytes))=some (some (.int .i64 0),1,8):=by kernel_rfl
theorem clear_succ (tr:List (Option (Nat×List Sp))) (k:Nat) (h:k<tr.length):clearTr tr (k+1)=(clearTr tr k).set k none:=by
 unfold clearTr
 rw [Nat.min_eq_left (by omega),Nat.min_eq_left (by omega)]
 apply List.ext_getElem?
 intro i
 rw [List.getElem?_set]
 rcases Nat.lt_trichotomy i k with h1 | h1 | h1
 ·rw [if_neg (by omega),List.getElem?_append_left (by simp;omega),List.getElem?_append_left (by simp;omega),List.getElem?_replicate,List.getElem?_replicate,if_pos (by omega),if_pos (by omega)]
 ·subst h1
  rw [if_pos rfl,if_pos (by simp;omega),List.getElem?_append_left (by simp),List.getElem?_replicate,if_pos (by omega)]
 ·rw [if_neg (by omega),List.getElem?_append_right (by simp;omega),List.getElem?_append_right (by simp;omega)]
  simp only [List.length_replicate,List.getElem?_drop]
  congr 1
  omega
theorem clear_over (tr:List (Option (Nat×List Sp))) (m t:Nat) (h:m=tr.length) (ht:m≤t):clearTr tr m=clearTr tr t:=by
 subst h
 unfold clearTr
 rw [Nat.min_eq_left (Nat.le_refl _),Nat.min_eq_right ht,List.drop_length,List.drop_eq_nil_of_le ht]
theorem gath_len' (l:List (Sp×Nat)) (x:Sp×Nat):(gath (setB l) x).length≤l.length+1:=by
 rw [(gath_set l x).1,List.length_append,List.length_drop]
 simp
theorem gath_lt {S:HS Sp} (I:HInv S) (x:Sp):∀y∈gath (setB S.cs) (x,S.al.length),y.2<(S.al++[true]).length:=by
 intro y hy
 rw [(gath_set S.cs (x,S.al.length)).1] at hy
 rcases List.mem_append.1 hy with hy | hy
 ·have:=I.lt y (List.mem_of_mem_drop hy)
  rw [List.length_append];omega
 ·simp at hy;subst hy;simp
theorem addH (hv:Value) (F:List Nat) (S:HS Sp) (x:Sp) (w:World) (H:IsHalf w hv F S) (I:HInv S) (hx:x.in64) (hk:S.mp.lookup x=none) (hl:S.cs.length<90000) (hal:S.al.length<900000) (hw:S.wk<549755813888) (hgood:Good (live S.al S.cs++[x])) (hl1:(live S.al S.cs).length+1≤1000) :
 Calls Tryz.prog 83 #[hv,.agg #[.int .i64 x.lo,.int .i64 x.hi,.int .u32 (x.id:Int)]] w fun e w'=>e=.returned (.tuple #[.int .i64 ((2 ^ firstE (setB S.cs):Nat):Int),.bool true])∧HStep w w' hv F (addS S x):=by
 have H0:=Lib.hid H.lt
 have hgl1:Good (live (S.al++[true]) (gath (setB S.cs) (x,S.al.length)))∧(live (S.al++[true]) (gath (setB S.cs) (x,S.al.length))).length≤1000:=by
  have hs:=live_gath I x
  refine ⟨hgood.sub hs,Nat.le_trans hs.length_le ?_⟩
  rw [List.length_append]
  exact hl1
 have HGL1:=Lib.hid hgl1
 clear hgood hl1 hgl1
 obtain ⟨W,hW,hu0,hq0⟩:=one_newC w #[.int .i64 x.lo,.int .i64 x.hi,.int .u32 (x.id:Int)] 62
 have H:=H.upd hu0 (by simp)
 have HWD:=Lib.hid hW
 have HU0:=Lib.hid hu0
 have HQX:=Lib.hid hq0
 have hnx:w.heap.size∉F:=fun hc=>Nat.lt_irrefl _ (H0.out _ hc)
 have HNX:=Lib.hid hnx
 obtain ⟨hx0,hx1,hx2⟩:=hq0.cells3
 clear hW hu0 hq0 hnx
 have HO:=Lib.hid H
 obtain ⟨h,cb,mb,tv,av,lvv,ps,Fc,Fs,rfl,H,hF⟩:=H
 obtain ⟨_,_,hc2,hc3,hc4,hc5,hc6,hfr⟩:=H.cell
 obtain ⟨Aa,Ca,hav⟩:∃A C,av=.slice A S.al.length C:=own_form H.arow
 obtain ⟨Al,Cl,hlv⟩:∃A C,lvv=.slice A S.lv.length C:=own_form H.lrow
 obtain ⟨At,Ct,htv⟩:∃A C,tv=.slice A ps.length C:=own_form H.trow
 subst hav hlv htv
 have hlook:=H.mapp.drew.look hx
 rw [hk] at hlook
 have hhw:h<W.heap.size:=lt_of_block H.head
 have HH:=Lib.hid H
 have HI:=Lib.hid I
 have HF:=Lib.hid hF
 have HK:=Lib.hid hk
 have hml:S.mp.length<900000:=by
  have h1:=I.core.mp_len
  have h2:=List.length_filter_le (fun p:Sp×Bool=>p.2) (view S)
  unfold viewAll at h1
  rw [List.length_map] at h1
  rw [view_len] at h2
  omega
 have hwa:(Lit.int .i64 (S.al.length:Int)).wf=true:=by simp [Lit.wf,IntKind.min,IntKind.max,IntKind.signed,IntKind.bits];omega
 clear H hF I hk hfr
 go_enter Tryz.func83,Tryz.ntmps83
 go_upto_region 1 with fail
 rw [←HWD.out]
 clear HWD
 obtain ⟨qx,hqx⟩:∃q,w.heap.size=q:=⟨_,rfl⟩
 rw [hqx] at hx0 hx1 hx2 HQX HNX ⊢
 have HQE:=Lib.hid hqx
 clear hqx H0
 go_wp2_with fail
 refine (noneH _ _ _ _ HO.out).mono ?_
 rintro e w' ⟨rfl,rfl⟩
 go_upto_region 3 with fail
 go_region
 have HHD:=Lib.hid (HH.out.upd ((Upd.refl [] W).drew) (by intro P hP x hx;simp))
 go_upto_region 6 with fail
 obtain ⟨w1,hrun,hm1,hu1⟩:=HHD.out.mapp.drew.put hx hwa (by unfold maxLen;omega)
 go_region
 have hup1:Upd [mb] W w1:=(((Upd.refl [] W).drew.drew).mono (by simp)).trans' hu1 (fun x hx=>.inl hx)
 have h1:=HH.out.map hm1 hup1
 have hqw:qx<W.heap.size:=HQX.out.lt
 have hqm:qx∉[mb]:=fun hc=>HNX.out (by rw [HF.out];exact mem_part (i:=5) (P:=[mb]) rfl hc)
 have hqF:qx∉Fc:=fun hc=>HNX.out (by rw [HF.out];exact mem_part (i:=1) rfl hc)
 have hst1:HStep W w1 (.pointer (some ⟨h,0,none⟩)) F { S with mp:=mput S.mp x S.al.length }:=by
  have hFe:=HF.out
  refine ⟨F,⟨h,cb,mb,_,_,_,ps,Fc,Fs,rfl,h1,hFe⟩,hup1.mono fun y hy=>.inl ?_,fun y hy=>.inl hy⟩
  rw [hFe];exact mem_part (i:=5) (P:=[mb]) rfl hy
 have hhm:h≠mb:=fun e=>HH.out.dis (i:=0) (j:=5) rfl rfl (by omega) h (by simp) (by simp [e])
 have hc2':=(hup1.cell (p:=⟨h,2,none⟩) hhw (by simp;exact hhm)).trans hc2
 have hc4':=(hup1.cell (p:=⟨h,4,none⟩) hhw (by simp;exact hhm)).trans hc4
 have hy0:=(hup1.cell (p:=⟨qx,0,none⟩) hqw hqm).trans hx0
 have hy1:=(hup1.cell (p:=⟨qx,1,none⟩) hqw hqm).trans hx1
 have hy2:=(hup1.cell (p:=⟨qx,2,none⟩) hqw hqm).trans hx2
 have hqw1:qx<w1.heap.size:=Nat.lt_of_lt_of_le hqw hup1.size
 have hhw1:h<w1.heap.size:=Nat.lt_of_lt_of_le hhw hup1.size
 have hhF:h∉Fc:=fun hc=>HH.out.dis (i:=0) (j:=1) rfl rfl (by omega) h (by simp) hc
 have hd2:w1.drew.cell? ⟨h,2,none⟩=some (.pointer (some ⟨cb,0,none⟩)):=hc2'
 have hd4:w1.drew.cell? ⟨h,4,none⟩=some (.slice Aa S.al.length Ca):=hc4'
 have hbn:(setB S.cs).length≤20:=by rw [setB_len];exact bitsN_le S.cs.length 20 (by omega)
 have hfl:(setB S.cs).flatten.length<90000:=by rw [setB_flat];exact hl
 have HS1:=Lib.hid hst1
 have HH1:=Lib.hid h1
 have hz0:w1.drew.cell? ⟨qx,0,none⟩=some (.int .i64 x.lo):=hy0
 have hz1:w1.drew.cell? ⟨qx,1,none⟩=some (.int .i64 x.hi):=hy1
 have hz2:w1.drew.cell? ⟨qx,2,none⟩=some (.int .u32 (x.id:Int)):=hy2
 clear hst1 h1 hc2 hc4 hlook hrun hm1 hu1 hx0 hx1 hx2 hqm
 go_upto_region 7 with fail
 go_region_held3 (fun w'=>w'.cell? ⟨h,2,none⟩=some (.pointer (some ⟨cb,0,none⟩))∧w'.cell? ⟨h,4,none⟩=some (.slice Aa S.al.length Ca)∧w'.cell? ⟨qx,0,none⟩=some (.int .i64 x.lo)∧w'.cell? ⟨qx,1,none⟩=some (.int .i64 x.hi)∧w'.cell? ⟨qx,2,none⟩=some (.int .u32 (x.id:Int)))
  (first
   |(exact ⟨hd2,hd4,hz0,hz1,hz2⟩)
   |(exact ⟨(g2.cell (p:=⟨h,2,none⟩) hhw1 hhF).trans hd2,(g2.cell (p:=⟨h,4,none⟩) hhw1 hhF).trans hd4,(g2.cell (p:=⟨qx,0,none⟩) hqw1 hqF).trans hz0,(g2.cell (p:=⟨qx,1,none⟩) hqw1 hqF).trans hz1,(g2.cell (p:=⟨qx,2,none⟩) hqw1 hqF).trans hz2⟩)
   |go_keep)
  ((go_at_call 141;refine (CSp.addI cb Fc (x,S.al.length) _ _ _ _ (HH1.out.car.upd ((Upd.refl [] w1).drew) (by simp)) (by show (setB S.cs).length<_;omega) (by show (setB S.cs).flatten.length<_;omega) (by show S.cs.length<_;omega) (by show S.wk<_;omega)).mono ?_;rintro e w2 ⟨A2,C2,rfl,Fc2,g1,g2,g3,g4,g5⟩))
 have hup2:Upd Fc w1 w2:=((Upd.refl [] w1).drew.mono (by simp)).trans' g2 (fun y hy=>.inl hy)
 have hgl:=(gath_set S.cs (x,S.al.length)).2
 obtain ⟨G,hG⟩:∃G,gath (setB S.cs) (x,S.al.length)=G:=⟨_,rfl⟩
 obtain ⟨t,ht⟩:∃t,firstE (setB S.cs)=t:=⟨_,rfl⟩
 rw [hG] at g1 g4 g5 hgl ⊢
 rw [ht] at hgl ⊢
 obtain ⟨p,hp⟩:∃p,2 ^ t=p:=⟨_,rfl⟩
 rw [hp] at hgl
 rw [hgl] at g1 g4 g5 ⊢
 have h2:=HH1.out.carry (w':=w2) (cs:=S.cs++[(x,S.al.length)]) (wk:=S.wk+p) (Fc':=Fc2) (by rw [←add_set,List.length_append];exact g1) hup2 g3
 clear hy0 hy1 hy2 hz0 hz1 hz2
 have HUW:=Lib.hid (((hup1.mono (G:=F) (fun y hy=>.inl (by rw [HF.out];exact mem_part (i:=5) (P:=[mb]) rfl hy))).trans' hup2 (fun y hy=>.inl (by rw [HF.out];exact mem_part (i:=1) rfl hy))))
 obtain ⟨F2,hF2⟩:∃F2,(parts h Fc2 (.slice At ps.length Ct) (.slice Aa S.al.length Ca) (.slice Al S.lv.length Cl) mb Fs).flatten=F2:=⟨_,rfl⟩
 have hpset:parts h Fc2 (.slice At ps.length Ct) (.slice Aa S.al.length Ca) (.slice Al S.lv.length Cl) mb Fs=(parts h Fc (.slice At ps.length Ct) (.slice Aa S.al.length Ca) (.slice Al S.lv.length Cl) mb Fs).set 1 Fc2:=rfl
 have hFF:∀y∈F2,y∈F∨W.heap.size≤y:=by
  intro y hy
  rw [←hF2,hpset] at hy
  rcases flat_set hy with hy | hy
  ·exact .inl (by rw [HF.out];exact hy)
  ·rcases g3 y hy with g | g
   ·exact .inl (by rw [HF.out];exact mem_part (i:=1) rfl g)
   ·exact .inr (Nat.le_trans hup1.size g)
 have hSL:∀y∈blk (.slice A2 p C2),y∉F2:=by
  intro y hy hc
  rw [←hF2,hpset] at hc
  rcases flat_set hc with hc | hc
  ·have e1:=own_ge g4 y hy
   obtain ⟨P,hP,hyP⟩:=List.mem_flatten.1 hc
   have e2:=HH1.out.lt P hP y hyP
   have e3:w1.drew.heap.size=w1.heap.size:=rfl
   omega
  ·exact g5 y hy hc
 have HFF:=Lib.hid hFF
 have HSL:=Lib.hid hSL
 have HF2:=Lib.hid hF2
 clear hFF hSL hpset
 obtain ⟨_,_,_,hc3',hc4'',hc5',_,hfr⟩:=h2.cell
 have hf4:=hfr 4
 have hf5:=hfr 5
 have hhw2:h<w2.heap.size:=lt_of_block h2.head
 have HH2:=Lib.hid h2
 have HG:=Lib.hid hG
 have HT:=Lib.hid ht
 have HP:=Lib.hid hp
 have HGL:=Lib.hid hgl
 have HG4:=Lib.hid g4
 have HG5:=Lib.hid g5
 have HG3:=Lib.hid g3
 have HU2:=Lib.hid hup2
 clear h2 hfr g1 g2 g3 g4 g5 hG ht hp hgl hup2 hF2 hd2 hd4 hc2' hc4' hc5 hc3 hqw hqw1 hqF
 obtain ⟨ib,hib,hb0,hb1,hb2⟩:=info_parts info_bool
 obtain ⟨ii,hii,hi0,hi1,hi2⟩:=info_parts info_int
 have hh4:=HH2.out.arow
 have hh5:=HH2.out.lrow
 have h4n:h∉blk (.slice Aa S.al.length Ca):=fun hc=>HH2.out.dis (i:=0) (j:=3) rfl rfl (by omega) h (by simp) hc
 have h5n:h∉blk (.slice Al S.lv.length Cl):=fun hc=>HH2.out.dis (i:=0) (j:=4) rfl rfl (by omega) h (by simp) hc
 have HA4:=Lib.hid hh4
 have HA5:=Lib.hid hh5
 have hlvl:S.lv.length<900000:=by rw [HI.out.lvl];exact hal
 clear hh4 hh5
 have hd54:∀y∈blk (.slice Al S.lv.length Cl),y∉blk (.slice Aa S.al.length Ca):=HH2.out.dis (i:=4) (j:=3) rfl rfl (by omega)
 have HD54:=Lib.hid hd54
 clear hd54
 have hsT:Sees ((w2.alloc (.cells #[.int .i64 (t:Int)] 3)).alloc (.cells #[.bool true] 4)).drew 1 (.slice (some ⟨w2.heap.size+1,0,none⟩) 1 1) 1 [.bool true]:=by
  have h0:(w2.alloc (.cells #[.int .i64 (t:Int)] 3)).heap.size=w2.heap.size+1:=by simp
  have:=(sees_lit (w2.alloc (.cells #[.int .i64 (t:Int)] 3)) #[.bool true] 4 1 1 rfl (by decide)).drew
  rw [h0] at this
  exact this
 have hsI:Sees ((w2.alloc (.cells #[.bool true] 4)).alloc (.cells #[.int .i64 (t:Int)] 3)).drew 1 (.slice (some ⟨w2.heap.size+1,0,none⟩) 1 1) 1 [.int .i64 (t:Int)]:=by
  have h0:(w2.alloc (.cells #[.bool true] 4)).heap.size=w2.heap.size+1:=by simp
  have:=(sees_lit (w2.alloc (.cells #[.bool true] 4)) #[.int .i64 (t:Int)] 3 1 1 rfl (by decide)).drew
  rw [h0] at this
  exact this
 have hsJ:Sees ((w2.alloc (.cells #[.int .i64 (t:Int)] 3)).alloc (.cells #[.bool true] 4)).drew 1 (.slice (some ⟨w2.heap.size,0,none⟩) 1 1) 1 [.int .i64 (t:Int)]:=
  (sees_upd (sees_lit w2 #[.int .i64 (t:Int)] 3 1 1 rfl (by decide)) ((Upd.refl [] _).alloc _) (by simp)).drew
 have hav2:=own_lt HA4.out
 have hnI:∀y∈blk (.slice (some ⟨w2.heap.size+1,0,none⟩) 1 1),y∉blk (.slice Aa S.al.length Ca):=fun y hy hc=>by have:=hav2 y hc;simp [blk] at hy;omega
 have hnJ:∀y∈blk (.slice (some ⟨w2.heap.size,0,none⟩) 1 1),y∉blk (.slice Aa S.al.length Ca):=fun y hy hc=>by have:=hav2 y hc;simp [blk] at hy;omega
 have HNI:=Lib.hid hnI
 have HNJ:=Lib.hid hnJ
 have HST:=Lib.hid hsT
 have HSI:=Lib.hid hsI
 have HSJ:=Lib.hid hsJ
 have HAV:=Lib.hid hav2
 clear hsT hsI hsJ hav2 hnI hnJ
 go_upto_region 8 with fail
 go_cut [] (fun wc=>HStep w2 wc (.pointer (some ⟨h,0,none⟩)) F2 (addS0 S x t p))
 case first=>
  clear hx hl hw HO HI HK hml hwa hup1 hhm hhw1 hhF hbn hfl HS1 HH1 HG HT HP HGL HG4 HG5 HG3 HU2 HUW HFF HSL HHD HGL1
  go_region_law (first
   |(
    refine step_app _ (by rfl) _ _ 162 (by rfl) 0 4 ib (.bool false) 1 1 Tryz.underlying162 hib hb0 hb1 hb2 rfl (by decide) _ S.al.length (S.al.map .bool) (by rfl) (by first | exact owns_drew (HA4.out.alloc _) | exact owns_drew ((HA4.out.alloc _).alloc _)) _ 1 [.bool true] (by rfl) (by first | exact (sees_lit _ #[.bool true] 4 1 1 rfl (by decide)).drew | exact (sees_upd (sees_lit _ #[.bool true] 4 1 1 rfl (by decide)) ((Upd.refl [] _).alloc _) (by simp)).drew | exact HST.out) (by simp [Value.oneCell']) (by unfold maxLen;omega) (by omega) (Nat.zero_le _) ?_;intro A4 C4 w4 HP4
    have hpu4:Upd (blk (.slice Aa S.al.length Ca)) _ w4:=HP4.upd
    obtain ⟨hup4,ho4,hb4⟩:=app_out (w:=w2) (v:=.slice Aa S.al.length Ca) (by first | exact ((Upd.refl _ w2).alloc (.cells #[.bool true] 4)).drew | exact (((Upd.refl _ w2).alloc (.cells #[.bool true] 4)).alloc (.cells #[.int .i64 (t:Int)] 3)).drew | exact (((Upd.refl _ w2).alloc (.cells #[.int .i64 (t:Int)] 3)).alloc (.cells #[.bool true] 4)).drew) HP4
    clear HP4
    have HO4:=Lib.hid ho4
    have HB4:=Lib.hid hb4
    clear ho4 hb4
    have hx5:=(hup4.cell (p:=⟨h,5,none⟩) hhw2 h4n).trans hc5'
    have hx5a:∀o,(w4.alloc o).cell? ⟨h,5,none⟩=some (.slice Al S.lv.length Cl):=fun o=>by rw [World.cell?_alloc_past _ _ _ (Nat.lt_of_lt_of_le hhw2 hup4.size)];exact hx5)
   |(
    refine step_app _ (by rfl) _ _ 163 (by rfl) 0 3 ii (.int .i64 0) 1 8 Tryz.underlying163 hii hi0 hi1 hi2 rfl (by decide) _ S.lv.length (S.lv.map fun (n:Nat)=>.int .i64 (n:Int)) (by rfl) (by first | exact (own_upd HA5.out hup4 HD54.out).alloc _ | exact own_upd HA5.out hup4 HD54.out) _ 1 [.int .i64 (t:Int)] (by rfl) (by
     first
      |exact sees_lit w4 #[.int .i64 (t:Int)] 3 1 1 rfl (by decide)
      |exact sees_upd HSI.out hpu4 (fun _ y hy _=>HNI.out y hy)
      |exact sees_upd HSJ.out hpu4 (fun _ y hy _=>HNJ.out y hy)) (by simp [Value.oneCell']) (by unfold maxLen;omega) (by omega) (Nat.zero_le _) ?_;intro A5 C5 w5 HP5
    obtain ⟨hup5,ho5,hb5⟩:=app_out (w:=w4) (v:=.slice Al S.lv.length Cl) (by first | exact ((Upd.refl _ w4).alloc (.cells #[.int .i64 (t:Int)] 3)) | exact Upd.refl _ w4) HP5
    clear HP5
    have HO5:=Lib.hid ho5
    have HB5:=Lib.hid hb5
    clear ho5 hb5 hx5 hx5a
    have hhw4:h<w4.heap.size:=Nat.lt_of_lt_of_le hhw2 hup4.size
    have hst4:=(hup5.cell (p:=⟨h,4,none⟩) hhw4 h5n).trans ((hup4.cell (p:=⟨h,4,none⟩) hhw2 h4n).trans hc4'')
    have hst5:=(hup5.cell (p:=⟨h,5,none⟩) hhw4 h5n).trans ((hup4.cell (p:=⟨h,5,none⟩) hhw2 h4n).trans hc5')
    have hsf4:=(hup5.frozen (p:=⟨h,4,none⟩) hhw4 h5n).trans ((hup4.frozen (p:=⟨h,4,none⟩) hhw2 h4n).trans hf4)
    have hsf5:=(hup5.frozen (p:=⟨h,5,none⟩) hhw4 h5n).trans ((hup4.frozen (p:=⟨h,5,none⟩) hhw2 h4n).trans hf5)))
  all_goals
   go_wp2_with fail
   go_meet
   case rel=>
    rw [←HF2.out]
    exact HH2.out.pushed hup4 HO4.out HB4.out hup5 HO5.out HB5.out (by first | exact .inl rfl | exact .inr rfl)
 case rest=>
  clear hc3' hc4'' hc5' hf4 hf5 HNI HNJ HST HSI HSJ HAV HA4 HA5 HD54 hib hb0 hb1 hb2 hii hi0 hi1 hi2 h4n h5n
  obtain ⟨F8,⟨h8,cb8,mb8,tv8,av8,lv8,ps8,Fc8,Fs8,he,H8,hFe8⟩,hu8,hF8⟩:=hcut
  cases he
  obtain ⟨At8,Ct8,htv⟩:∃A C,tv8=.slice A ps8.length C:=own_form H8.trow
  subst htv
  have hcut:=(⟨F8,⟨h,cb8,mb8,_,av8,lv8,ps8,Fc8,Fs8,rfl,H8,hFe8⟩,hu8,hF8⟩:HStep w2 wc (.pointer (some ⟨h,0,none⟩)) F2 (addS0 S x t p))
  have HCUT:=Lib.hid hcut
  obtain ⟨_,_,_,hd3,_⟩:=H8.cell
  obtain ⟨n8,hn8⟩:∃n,ps8.length=n:=⟨_,rfl⟩
  have hn8':n8=S.tr.length:=by rw [←hn8,H8.plen];rfl
  rw [hn8] at hd3
  have HN8:=Lib.hid hn8'
  have htr:=HI.out.trl
  have ht20:t≤20:=by
   have h1:=firstE_le (setB S.cs)
   have h2:=HT.out
   omega
  obtain ⟨m,hm⟩:∃m,min t n8=m:=⟨_,rfl⟩
  have hms:Value.int .i64 (min (t:Int) (n8:Int))=Value.int .i64 (m:Int):=by
   rw [←hm];congr 1;omega
  have hmt:m≤t:=by omega
  have hmn:m≤n8:=by omega
  have hmx:m=t∨m=n8:=by omega
  have HM:=Lib.hid hmx
  clear hcut hm hn8 hn8' hmx H8 hFe8 hu8 hF8
  obtain ⟨W9,hW9,hu9a,hq9a⟩:=one_newC wc #[.pointer none,.pointer none] 125
  have HW9:=Lib.hid hW9
  have HQT:=Lib.hid hq9a
  have HUN:=Lib.hid hu9a
  have H8:=HCUT.out
  obtain ⟨F8,H8,hu8,hF8⟩:=H8
  have hqt8:wc.heap.size∉F8:=fun hc=>Nat.lt_irrefl _ (H8.lt _ hc)
  have H89:IsHalf W9 (.pointer (some ⟨h,0,none⟩)) F8 (addS0 S x t p):=H8.upd hu9a (by simp)
  have HH89:=Lib.hid H89
  have HU8:=Lib.hid hu8
  have HF8:=Lib.hid hF8
  have HNT:=Lib.hid hqt8
  have hd39:=(hu9a.cell (World.block_lt_of_cell? _ _ hd3) (by simp)).trans hd3
  clear hW9 hu9a hq9a H8 hu8 hF8 hqt8 H89 hd3
  go_upto_region 10 with fail
  rw [←HW9.out]
  clear HW9
  generalize wc.heap.size=qt at HQT HNT ⊢
  go_wp2_with fail
  go_loopg [75] m (fun g i wr=>∃k,g+k=m∧i=.int .i64 (k:Int)∧HStep W9 wr (.pointer (some ⟨h,0,none⟩)) F8 { addS0 S x t p with tr:=clearTr S.tr k })
  case atStart=>exact ⟨0,rfl,rfl,by
   have e:clearTr S.tr 0=S.tr:=by simp [clearTr]
   rw [e];exact HStep.refl HH89.out⟩
  case round=>
   obtain ⟨k,hk,rfl,F9,⟨h9,cb9,mb9,tv9,av9,lv9,ps9,Fc9,Fs9,he,H9,hFe9⟩,hu9,hF9⟩:=hrel
   cases he
   have hkm:k≤m:=by omega
   have hp9:ps9.length=n8:=by rw [H9.plen,HN8.out];exact clear_len _ _
   by_cases hlt:k<m
   ·obtain ⟨At9,Ct9,htv⟩:∃A C,tv9=.slice A ps9.length C:=own_form H9.trow
    subst htv
    obtain ⟨u,hu⟩:∃u,ps9[k]? = some u:=⟨ps9[k]'(by omega),List.getElem?_eq_getElem _⟩
    obtain ⟨q,rfl,hq1,hq1b,hq2,hq4⟩:=tree_at H9.trow hu
    have hqf0:=hq2 (k*2)
    have hqf1:=hq2 (k*2+1)
    obtain ⟨_,_,_,hd3,_⟩:=H9.cell
    rw [hp9] at hd3
    have hn8b:n8≤20:=by rw [HN8.out];exact HI.out.trl
    have b0:(0:Int)≤(k:Int):=Int.natCast_nonneg _
    have b1:(k:Int)<(n8:Int):=by omega
    obtain ⟨z0,z1⟩:=(HQT.out.upd hu9 HNT.out).cells2
    obtain ⟨w10,hw10⟩:∃W,((wr.setCell ⟨q,k*2,none⟩ (.pointer none)).setCell ⟨q,k*2+1,none⟩ (.pointer none)).drew=W:=⟨_,rfl⟩
    have hT:=(H9.tree rfl (i:=k) (by show k<(clearTr S.tr k).length;rw [clear_len,←HN8.out];omega) (p:=(none,none)) (F:=[]) none (.inl ⟨rfl,rfl⟩) (by intro P hP x hx;simp at hx)).upd ((Upd.refl [] _).drew) (by intro P hP x hx;simp)
    have hST:HStep W9 w10 (.pointer (some ⟨h,0,none⟩)) F8 { addS0 S x t p with tr:=clearTr S.tr (k+1) }:=by
     have e:clearTr S.tr (k+1)=(clearTr S.tr k).set k none:=clear_succ _ _ (by rw [←HN8.out];omega)
     rw [e,←hw10]
     have hqF:q∈F9:=by rw [hFe9];exact mem_part (i:=2) (P:=[q]) rfl (by simp)
     refine HStep.next hu9 hF9 ⟨_,⟨h,cb9,mb9,_,_,_,_,Fc9,_,rfl,hT,rfl⟩,(((Upd.refl _ _).setCell (p:=⟨q,k*2,none⟩) (.inl hqF) _).setCell (p:=⟨q,k*2+1,none⟩) (.inl hqF) _).drew,fun y hy=>.inl ?_⟩
     have e2:(parts h Fc9 (.slice (some ⟨q,0,none⟩) ps9.length Ct9) av9 lv9 mb9 (Fs9.set k []))=(parts h Fc9 (.slice (some ⟨q,0,none⟩) ps9.length Ct9) av9 lv9 mb9 Fs9).set (k+6) []:=by simp [parts]
     rw [e2] at hy
     rw [hFe9]
     rcases flat_set hy with hy | hy
     ·exact hy
     ·simp at hy
    have HST9:=Lib.hid hST
    have HKK:=Lib.hid hk
    have HW10:=Lib.hid hw10
    clear hT hST H9 hFe9 hu9 hF9 hk hu hp9 hq2 hw10 HHD
    go_upto_region 13 with fail
    go_region
    rw [HW10.out]
    go_wp2_with fail
    go_roundg (m - (k+1))
    case measure=>have:=HKK.out;omega
    case rel=>exact ⟨k+1,by have:=HKK.out;omega,by go_num,HST9.out⟩
   ·have hkm':k=m:=by omega
    have h9':HStep W9 wr (.pointer (some ⟨h,0,none⟩)) F8 { addS0 S x t p with tr:=clearTr S.tr t }:=by
     have e:clearTr S.tr t=clearTr S.tr k:=by
      rcases HM.out with g | g
      ·rw [hkm',g]
      ·rw [hkm'];exact (clear_over _ _ _ (by rw [g,HN8.out]) (by rw [g];rw [←g];exact hmt)).symm
     rw [e]
     exact ⟨F9,⟨h,cb9,mb9,tv9,av9,lv9,ps9,Fc9,Fs9,rfl,H9,hFe9⟩,hu9,hF9⟩
    obtain ⟨Fa,ha,hua,hFa⟩:=h9'
    have HKM:=Lib.hid hkm'
    have HA:=Lib.hid ha
    have HUA:=Lib.hid hua
    have HFA:=Lib.hid hFa
    have hints:CSp.Ints wr (.slice A2 p C2) G:=by
     have hs8:∀y∈blk (.slice A2 p C2),y∉F8:=fun y hy hc=>by
      rcases HF8.out y hc with g | g
      ·exact HSL.out y hy g
      ·have:=own_lt HG4.out y hy;omega
     have h1:=own_upd (own_upd (own_upd HG4.out HU8.out HSL.out) HUN.out (by simp)) hua hs8
     have:=CSp.Ints.of_row h1
     exact this
    have hdd:∀y∈blk (.slice A2 p C2),y∉Fa:=by
     intro y hy hc
     rcases hFa y hc with g | g
     ·rcases HF8.out y g with g | g
      ·exact HSL.out y hy g
      ·have:=own_lt HG4.out y hy;omega
     ·have h1:=own_lt HG4.out y hy;have h2:=HU8.out.size;have h3:=HUN.out.size;omega
    have HINTS:=Lib.hid hints
    have HDD:=Lib.hid hdd
    clear hkm' ha hua hFa hints hdd H9 hFe9 hu9 hF9 hp9 hk
    have hg1:=gath_lt HI.out x
    rw [HG.out] at hg1
    have HG1:=Lib.hid hg1
    have hgg:=HGL1.out
    rw [HG.out] at hgg
    have HGG:=Lib.hid hgg
    clear hg1 hgg
    have hpb:p<100000:=by
     have e1:=gath_len' S.cs (x,S.al.length)
     rw [HG.out,HGL.out] at e1
     omega
    go_wp2_with fail
    refine (fillH _ Fa _ t (.slice A2 p C2) G wr HA.out HINTS.out (fun _=>HDD.out) (by omega) (by show (clearTr S.tr t).length<1000;rw [clear_len];omega) HG1.out (by show (S.lv++[t]).length=(S.al++[true]).length;rw [List.length_append,List.length_append,HI.out.lvl];rfl) (by rw [HGL.out];omega) HGG.out.1 HGG.out.2).mono ?_
    rintro e w' ⟨rfl,hfin⟩
    have hfin':HStep w w' (.pointer (some ⟨h,0,none⟩)) F (addS S x):=by
     have e:addS S x=fillS { addS0 S x t p with tr:=clearTr S.tr t } t G:=by
      unfold addS addS1 addS0
      rw [HT.out,HG.out,HP.out]
     rw [e]
     exact HStep.next (HU0.out.mono (by simp)) (fun y hy=>.inl hy) (HStep.next HUW.out HFF.out (HStep.next HU8.out HF8.out (HStep.next (HUN.out.mono (by simp)) (fun y hy=>.inl hy) (HStep.next HUA.out HFA.out hfin))))
    have HFIN:=Lib.hid hfin'
    clear hfin hfin'
    go_wp2_with fail
    go_ret2
    exact ⟨by rw [HT.out,HP.out];rfl,HFIN.out⟩
end Go.Proofs.YtkbaaonchdeneaaGreat.HSp
