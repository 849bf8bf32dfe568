/- Half.Drop. Printed by mkhg.py. Boxes in memory: New, none, Len, Stored, Work, Get. -/
import Derived.Test.YtkbaaonchdeneaaGreatPb27
import Derived.Test.YtkbaaonchdeneaaGreatPb32
set_option maxHeartbeats 2000000
set_option maxRecDepth 100000
namespace Go.Proofs.YtkbaaonchdeneaaGreat.EI
open Go.RowKit
attribute [local go_sem ↓] Go.wp_at_zero Go.wp_at_succ
theorem ZX (al:List Bool) (k:Nat) (b:List (Bx×Nat)):(live (al.set k false) b).Sublist (live al b):=by
 unfold live;rw [VW];exact List.Sublist.map _ List.filter_sublist
theorem a5R (hv:Value) (F:List Nat) (S:HS Bx) (x:Bx) (w:World) (H:Cc w hv F S) (hx:(x.BO∧x.id<4294967296)) (hk:S.mp.lookup x=none) :
 Calls Tryz.prog 75 #[hv,.agg #[.int .i64 x.x1,.int .i64 x.x2,.int .i64 x.y1,.int .i64 x.y2,.int .u32 (x.id:Int)]] w fun e w'=>e=.returned (.tuple #[.int .i64 0,.bool false])∧Bf [] w w':=by
 obtain ⟨W,hW,hu0,hq0⟩:=BJ w #[.int .i64 x.x1,.int .i64 x.x2,.int .i64 x.y1,.int .i64 x.y2,.int .u32 (x.id:Int)] 28;have H:=H.upd hu0 (by simp);have Ro:=AQ hW;have ET:=AQ hu0;have HO:=AQ H;obtain ⟨hx0,hx1,hx2,hx3,hx4⟩:=hq0.cells5;obtain ⟨h,cb,mb,tv,av,Ee,ps,Fc,Fs,rfl,H,hF⟩:=H;obtain ⟨_,_,_,_,_,_,hc6,_⟩:=H.cell;have hlook:=H.PO.drew.look hx;rw [hk] at hlook;clear H hF hW hu0 hq0;go_enter Tryz.func75,Tryz.ntmps75
 go_upto_region 1 with fail
 rw [←Ro.out];clear Ro;generalize w.heap.size=qx at hx0 hx1 hx2 hx3 hx4 ⊢;go_wp2_with fail
 refine (YZ _ _ _ _ HO.out).mono ?_
 rintro e w' ⟨rfl,rfl⟩;go_upto_region 3 with fail
 go_region
 go_wp2_with fail
 go_ret2
 exact ⟨rfl,ET.out.drew⟩
def OT (S:HS Bx) (x:Bx):Nat:=if 2*(JA S.mp x).length<S.cs.length then (JA S.mp x).length else 0
theorem jU (hv:Value) (F:List Nat) (S:HS Bx) (x:Bx) (k:Nat) (w:World) (H:Cc w hv F S) (I:FK S) (hx:(x.BO∧x.id<4294967296)) (hk:S.mp.lookup x=some (k:Int)) (hl:S.cs.length<100000) (hw:S.wk<1099511627776) (hgood:Good (live S.al S.cs)) (hl1:(live S.al S.cs).length≤1000) :
 Calls Tryz.prog 75 #[hv,.agg #[.int .i64 x.x1,.int .i64 x.x2,.int .i64 x.y1,.int .i64 x.y2,.int .u32 (x.id:Int)]] w fun e w'=>
  e=.returned (.tuple #[.int .i64 (OT S x:Nat),.bool true])∧CJ w w' hv F (Dx S x k):=by
 have H0:=AQ H.lt;have hsb:=ZX S.al k S.cs;have HGD:=Ai (hgood.sub hsb) (Bd hsb.length_le hl1);clear hgood hl1 hsb;obtain ⟨W,hW,hu0,hq0⟩:=BJ w #[.int .i64 x.x1,.int .i64 x.x2,.int .i64 x.y1,.int .i64 x.y2,.int .u32 (x.id:Int)] 28;have H:=H.upd hu0 (by simp);have Ro:=AQ hW;have ET:=AQ hu0;have HQX:=AQ hq0;have hnx:w.heap.size∉F:=fun hc=>Nat.lt_irrefl _ (H0.out _ hc)
 have VZ:=AQ hnx;obtain ⟨hx0,hx1,hx2,hx3,hx4⟩:=hq0.cells5;clear hW hu0 hq0 hnx;have HO:=AQ H;obtain ⟨h,cb,mb,tv,av,Ee,ps,Fc,Fs,rfl,H,hF⟩:=H;obtain ⟨hc0,hc1,hc2,hc3,hc4,hc5,hc6,hfr⟩:=H.cell;obtain ⟨Aa,Ca,hav⟩:∃A C,av=.slice A S.al.length C:=Bv H.GK;subst hav;obtain ⟨i,hi,hib,hlk,hak,N,hN,htr⟩:=I.at hk;have a7x:=Ai (show x∈live S.al (Bo S.cs i) from List.mem_map.2 ⟨(x,k),List.mem_filter.2 ⟨hib,hak⟩,rfl⟩) hx.2
 have hyb:k<S.al.length:=by
  obtain ⟨ya,hya,hyb⟩:=I.core.num hk;omega
 have hgk:S.al[k]? = some true:=by
  rw [AX (by omega)];rw [List.getD_eq_getElem?_getD,AX (by omega)] at hak;simpa using hak
 obtain ⟨qa,rfl,Sm,wQ,b2p,a4J⟩:=Oy H.GK (k:=k) (by omega) (u:=.bool true) (by rw [List.getElem?_map,hgk];rfl);have hlook:=H.PO.drew.look hx;rw [hk] at hlook;have Vt:h<W.heap.size:=lt_of_block H.head;have HH:=AQ H;have HI:=AQ I;have HF:=AQ hF;have HK:=AQ hk;clear H hF I hk hfr;go_enter Tryz.func75,Tryz.ntmps75
 go_upto_region 1 with fail
 rw [←Ro.out];clear Ro;obtain ⟨qx,JJ⟩:∃q,w.heap.size=q:=⟨_,rfl⟩;rw [JJ] at hx0 hx1 hx2 hx3 hx4 HQX VZ ⊢;have HQE:=AQ JJ;clear JJ H0;go_wp2_with fail
 refine (YZ _ _ _ _ HO.out).mono ?_
 rintro e w' ⟨rfl,rfl⟩;go_upto_region 3 with fail
 go_region
 have HHD:=AQ (HH.out.upd ((Bf.refl [] W).drew) (by intro P hP x hx;simp));go_upto_region 6 with fail
 obtain ⟨w1,hrun,hm1,hu1⟩:=HHD.out.PO.drew.del hx 0;go_region
 have hu1:Bf [mb] W w1:=(((Bf.refl [] W).drew.drew).mono (by simp)).trans' hu1 (fun x hx=>.inl hx);have hhm:h∉[mb]:=by simp;exact fun e=>HH.out.Gu (i:=0) (j:=5) rfl rfl (by omega) h (by simp) (by simp [e])
 have a4K:qa∉[mb]:=by simp;exact fun e=>HH.out.Gu (i:=3) (j:=5) rfl rfl (by omega) qa (by simp [blk]) (by simp [e])
 have hqm:qx∉[mb]:=fun hc=>VZ.out (by rw [HF.out];exact Bq (i:=5) (P:=[mb]) rfl hc)
 have g4:=(hu1.cell (p:=⟨h,4,none⟩) Vt hhm).trans hc4;have gqa:=(hu1.cell (p:=⟨qa,k,none⟩) a4J a4K).trans Sm;have gqf:=(hu1.frozen (p:=⟨qa,k,none⟩) a4J a4K).trans wQ;have XF:qx<W.heap.size:=HQX.out.lt;have hy0:=(hu1.cell (p:=⟨qx,0,none⟩) XF hqm).trans hx0;have hy1:=(hu1.cell (p:=⟨qx,1,none⟩) XF hqm).trans hx1;have hy2:=(hu1.cell (p:=⟨qx,2,none⟩) XF hqm).trans hx2;have hy3:=(hu1.cell (p:=⟨qx,3,none⟩) XF hqm).trans hx3;have hy4:=(hu1.cell (p:=⟨qx,4,none⟩) XF hqm).trans hx4;have b2q:(k:Int)<(S.al.length:Int):=by omega
 have hk0:(0:Int)≤(k:Int):=AU _;go_upto_region 8 with fail
 clear hrun hhm a4K;have hmb:mb∉([]:List Nat):=by simp
 have h2:=(HH.out.map hm1 hu1).dead rfl k false
 have hU:Bf F W (w1.setCell ⟨qa,k,none⟩ (.bool false)):=by
  have ug:=HF.out;exact (hu1.mono (G:=F) (fun y hy=>.inl (by rw [ug];exact Bq (i:=5) (P:=[mb]) rfl hy))).setCell (p:=⟨qa,k,none⟩) (.inl (by rw [ug];exact Bq (i:=3) (P:=[qa]) rfl (by simp))) _
 have hI2:Cc (w1.setCell ⟨qa,k,none⟩ (.bool false)) (.pointer (some ⟨h,0,none⟩)) F (D8 S x k):=⟨h,cb,mb,_,_,_,ps,Fc,Fs,rfl,h2,HF.out⟩;obtain ⟨w2,hw2⟩:=AO (w1.setCell ⟨qa,k,none⟩ (.bool false));rw [hw2] at h2 hU hI2 ⊢;obtain ⟨hd0,hd1,hd2,hd3,hd4,hd5,hd6,hdr⟩:=h2.cell;obtain ⟨Mn,hMn⟩:∃n,(JA S.mp x).length=n:=⟨_,rfl⟩;have a7y:=h2.PO.len
 have hml:Mn≤S.cs.length:=by
  have e1:=(HI.out.core.drop1 HK.out).oC.length_eq;rw [List.length_map] at e1;have e2:=Oz (D8 S x k).al (D8 S x k).cs;rw [←e1] at e2;have e3:(D8 S x k).mp.length=Mn:=hMn;have e4:(D8 S x k).cs.length=S.cs.length:=rfl;omega
 have hlen:(Builtin.len_ #[161] 3 #[.map (some mb)]).run Tryz.prog w2.drew=.ok (.int .i64 (JA S.mp x).length) w2.drew:=h2.PO.drew.len _;have HC:=AQ h2.TI;have HMN:=AQ hMn;have HU:=AQ hU;have HI2:=AQ hI2;have Us:=AQ h2;have HDR:=AQ hdr;rw [hMn] at hlen;have rU:qx≠qa:=fun e=>VZ.out (by rw [HF.out,e];exact Bq (i:=3) (P:=[qa]) rfl (by simp))
 have hz0:w2.cell? ⟨qx,0,none⟩=some (.int .i64 x.x1):=by rw [←hw2];exact (((Bf.refl [qa] w1).setCell (p:=⟨qa,k,none⟩) (.inl (by simp)) (.bool false)).cell (p:=⟨qx,0,none⟩) (Bc XF hu1.size) (by simp;exact rU)).trans hy0
 have hz1:w2.cell? ⟨qx,1,none⟩=some (.int .i64 x.x2):=by rw [←hw2];exact (((Bf.refl [qa] w1).setCell (p:=⟨qa,k,none⟩) (.inl (by simp)) (.bool false)).cell (p:=⟨qx,1,none⟩) (Bc XF hu1.size) (by simp;exact rU)).trans hy1
 have hz2:w2.cell? ⟨qx,2,none⟩=some (.int .i64 x.y1):=by rw [←hw2];exact (((Bf.refl [qa] w1).setCell (p:=⟨qa,k,none⟩) (.inl (by simp)) (.bool false)).cell (p:=⟨qx,2,none⟩) (Bc XF hu1.size) (by simp;exact rU)).trans hy2
 have hz3:w2.cell? ⟨qx,3,none⟩=some (.int .i64 x.y2):=by rw [←hw2];exact (((Bf.refl [qa] w1).setCell (p:=⟨qa,k,none⟩) (.inl (by simp)) (.bool false)).cell (p:=⟨qx,3,none⟩) (Bc XF hu1.size) (by simp;exact rU)).trans hy3
 have hz4:w2.cell? ⟨qx,4,none⟩=some (.int .u32 (x.id:Int)):=by rw [←hw2];exact (((Bf.refl [qa] w1).setCell (p:=⟨qa,k,none⟩) (.inl (by simp)) (.bool false)).cell (p:=⟨qx,4,none⟩) (Bc XF hu1.size) (by simp;exact rU)).trans hy4
 have b1u:qx<w2.heap.size:=World.block_lt_of_cell? _ _ hz0;clear hw2 hMn hU hI2 h2 hdr a7y hm1 hu1 g4 gqa gqf Sm wQ a4J hc0 hc1 hc2 hc3 hc4 hc5 hc6 hlook hak hgk hmb hx0 hx1 hx2 hx3 hx4 hy0 hy1 hy2 hy3 hy4 rU hqm XF;have hwr:IntKind.i64.wrap (2*(Mn:Int))=2*(Mn:Int):=IntWalk.i64_in _ (by omega)
 go_region_held3 (fun w'=>w'.cell? ⟨h,2,none⟩=some (.pointer (some ⟨cb,0,none⟩))∧w'.cell? ⟨h,6,none⟩=some (.map (some mb))∧(Builtin.len_ #[161] 3 #[.map (some mb)]).run Tryz.prog w'=.ok (.int .i64 Mn) w')
  (first | go_keep | exact ⟨hd2,hd6,hlen⟩)
  ((go_at_call 123;refine (UW.a4q _ _ _ _ _ _ (HC.out.upd ((Bf.refl [] w2).drew) (by simp))).mono ?_;rintro e w' ⟨rfl,rfl⟩))
 clear hwr
 have a7z:(CZ (D8 S x k).al (D8 S x k).cs).length=Mn:=by
  have e1:=(HI.out.core.drop1 HK.out).oC.length_eq;rw [List.length_map] at e1;rw [←e1];exact HMN.out
 have b1v:=AQ a7z;have hI3:Cc w2.drew (.pointer (some ⟨h,0,none⟩)) F (D8 S x k):=HI2.out.upd ((Bf.refl [] w2).drew) (by simp);have hH3:BU w2.drew h cb mb tv (.slice (some ⟨qa,0,none⟩) S.al.length Ca) Ee ps Fc Fs (D8 S x k):=Us.out.upd ((Bf.refl [] w2).drew) (by intro P hP y hy;simp);have hU3:Bf F W w2.drew:=HU.out.drew;have HI3:=AQ hI3;have SG:=AQ hH3;have Gj:=AQ hU3;have b1w:(D8 S x k).lv[k]? = some i:=hlk;have a7A:(D8 S x k).tr[i]? = some (some (N,live S.al (Bo S.cs i))):=htr;obtain ⟨pt,Ft,hpt,hFt,hbt⟩:=hH3.yes i _ a7A;obtain ⟨At,Ct,qQ⟩:∃A C,tv=.slice A ps.length C:=Bv hH3.LV;obtain ⟨Al,Cl,hlv⟩:∃A C,Ee=.slice A S.lv.length C:=Bv hH3.PN;subst qQ hlv;have hil:i<ps.length:=(AV hpt).1;have hkl:k<S.lv.length:=(AV hlk).1;obtain ⟨pa,pv,hpe⟩:=hbt.some;subst hpe;obtain ⟨qt,rfl,yg,eF,b1x,a4L⟩:=V4 hH3.LV hpt;unfold tp at yg;unfold tq at eF;simp only [Option.map_some] at yg eF;have hv0:w2.drew.cell? ⟨qx,0,none⟩=some (.int .i64 x.x1):=hz0;have hv1:w2.drew.cell? ⟨qx,1,none⟩=some (.int .i64 x.x2):=hz1;have hv2:w2.drew.cell? ⟨qx,2,none⟩=some (.int .i64 x.y1):=hz2;have hv3:w2.drew.cell? ⟨qx,3,none⟩=some (.int .i64 x.y2):=hz3;have hv4:w2.drew.cell? ⟨qx,4,none⟩=some (.int .u32 (x.id:Int)):=hz4;obtain ⟨ql,rfl,a4M,b1y,b1z,a7B⟩:=Oy hH3.PN (k:=k) (by exact hkl) (u:=.int .i64 (i:Int)) (by show ((S.lv.map fun (n:Nat)=>Value.int .i64 (n:Int))[k]?)=_;rw [List.getElem?_map,hlk];rfl);obtain ⟨he0,he1,he2,he3,he4,he5,he6,_⟩:=hH3.cell;obtain ⟨LL,hLe⟩:∃L,live S.al (Bo S.cs i)=L:=⟨_,rfl⟩;rw [hLe] at hbt;have HBT:=AQ hbt;have HFT:=AQ hFt;have HPT:=AQ hpt;have HLK:=AQ hlk;have HTR:=AQ htr;have HLE:=AQ hLe;clear hI3 hH3 hU3 a7z hlen b1w a7A htr hlk hFt hpt hLe hbt hz0 hz1 hz2 hz3 hz4 hd0 hd1 hd2 hd3 hd4 hd5 hd6 hi hib hyb;by_cases hlt:2*Mn<S.cs.length
 ·clear yg eF b1x a4L a4M b1y b1z a7B hil hkl;go_wp2_with fail
  refine (a6V _ F _ _ HI3.out (HI.out.core.drop1 HK.out) (by show S.cs.length<100000;exact hl) hw HGD.1 HGD.2).mono ?_
  rintro e w' ⟨rfl,hst⟩
  have hfin:CJ w w' (.pointer (some ⟨h,0,none⟩)) F (Dx S x k):=by
   have e:Dx S x k=Pn (D8 S x k):=by unfold Dx;rw [HMN.out,if_pos hlt]
   rw [e];exact CJ.next (ET.out.mono (by simp)) (fun y hy=>.inl hy) (CJ.next Gj.out (fun y hy=>.inl hy) hst)
  have Gv:=AQ hfin;clear hst hfin;go_wp2_with fail
  go_ret2
  refine ⟨?_,Gv.out⟩
  unfold OT;rw [HMN.out,if_pos hlt,←b1v.out];rfl
 ·unfold Jh at he1;have hpi:(parts h Fc (.slice (some ⟨qt,0,none⟩) ps.length Ct) (.slice (some ⟨qa,0,none⟩) S.al.length Ca) (.slice (some ⟨ql,0,none⟩) S.lv.length Cl) mb Fs)[i+6]? = some Ft:=by simpa [parts] using HFT.out
  have hnh:h∉Ft:=fun hc=>SG.out.Gu (i:=0) (j:=i+6) rfl hpi (by omega) h (by simp) hc
  have hnt:qt∉Ft:=fun hc=>SG.out.Gu (i:=2) (j:=i+6) rfl hpi (by omega) qt (by simp [blk]) hc
  have hnl:ql∉Ft:=fun hc=>SG.out.Gu (i:=4) (j:=i+6) rfl hpi (by omega) ql (by simp [blk]) hc
  have hhs:h<w2.drew.drew.heap.size:=SG.out.lt _ (List.mem_of_getElem? (i:=0) rfl) h (by simp);have hnx:qx∉Ft:=fun hc=>VZ.out (by rw [HF.out];exact Bq (i:=i+6) hpi hc)
  have yh:qx<w2.drew.drew.heap.size:=b1u;have HPI:=AQ hpi;clear hpi;have b2r:(i:Int)<(ps.length:Int):=by omega
  have hi0:(0:Int)≤(i:Int):=AU _;have b2s:(k:Int)<(S.lv.length:Int):=by omega
  go_upto_region 10 with fail
  go_region_held3 (fun w'=>w'.cell? ⟨h,1,none⟩=some (.func (.func 57) #[] #[])∧w'.cell? ⟨h,3,none⟩=some (.slice (some ⟨qt,0,none⟩) ps.length Ct)∧w'.cell? ⟨h,5,none⟩=some (.slice (some ⟨ql,0,none⟩) S.lv.length Cl)∧w'.cell? ⟨ql,k,none⟩=some (.int .i64 (i:Int))∧w'.cell? ⟨qt,i*2,none⟩=some (.pointer (some ⟨pa,0,none⟩))∧w'.cell? ⟨qt,i*2+1,none⟩=some (.map (some pv))∧w'.cell? ⟨qx,0,none⟩=some (.int .i64 x.x1)∧w'.cell? ⟨qx,1,none⟩=some (.int .i64 x.x2)∧w'.cell? ⟨qx,2,none⟩=some (.int .i64 x.y1)∧w'.cell? ⟨qx,3,none⟩=some (.int .i64 x.y2)∧w'.cell? ⟨qx,4,none⟩=some (.int .u32 (x.id:Int)))
   (first | (exact ⟨he1,he3,he5,a4M,yg,eF,hv0,hv1,hv2,hv3,hv4⟩) | (exact ⟨(hu'.cell (p:=⟨h,1,none⟩) hhs hnh).trans he1,(hu'.cell (p:=⟨h,3,none⟩) hhs hnh).trans he3,(hu'.cell (p:=⟨h,5,none⟩) hhs hnh).trans he5,(hu'.cell (p:=⟨ql,k,none⟩) a7B hnl).trans a4M,(hu'.cell (p:=⟨qt,i*2,none⟩) a4L hnt).trans yg,(hu'.cell (p:=⟨qt,i*2+1,none⟩) a4L hnt).trans eF,(hu'.cell (p:=⟨qx,0,none⟩) yh hnx).trans hv0,(hu'.cell (p:=⟨qx,1,none⟩) yh hnx).trans hv1,(hu'.cell (p:=⟨qx,2,none⟩) yh hnx).trans hv2,(hu'.cell (p:=⟨qx,3,none⟩) yh hnx).trans hv3,(hu'.cell (p:=⟨qx,4,none⟩) yh hnx).trans hv4⟩) | go_keep)
   ((go_at_call 57;refine (a6s _ pa pv _ Ft x (by have h9:=a7x.1;rw [HLE.out] at h9;exact h9) a7x.2 (MS.upd HBT.out ((Bf.refl [] w2.drew).drew) (by simp))).mono ?_;rintro e w' ⟨r,rfl,hb',hu'⟩;have HB':=AQ hb';clear hb'))
  have hfin:CJ w w' (.pointer (some ⟨h,0,none⟩)) F (Dx S x k):=by
   have e:Dx S x k=strike (D8 S x k) k x:=by unfold Dx;rw [HMN.out,if_neg hlt]
   have e2:strike (D8 S x k) k x={ D8 S x k with tr:=(D8 S x k).tr.set i (some (N,LL.erase x)) }:=by
    unfold strike;have e3:(D8 S x k).lv.getD k 0=i:=by rw [List.getD_eq_getElem?_getD];show (S.lv[k]?).getD 0=i;rw [HLK.out];rfl
    have e4:(D8 S x k).tr.getD i none=some (N,LL):=by rw [List.getD_eq_getElem?_getD];show (S.tr[i]?).getD none=_;rw [HTR.out,HLE.out];rfl
    rw [e3,e4];rfl
   rw [e,e2];have hu2:Bf Ft w2.drew w':=((Bf.refl Ft w2.drew).drew).trans hu';have hb:=SG.out.bag HPT.out HFT.out HB'.out hu2 (fun x hx=>.inl hx);have hFi:∀y∈Ft,y∈F:=fun y hy=>by rw [HF.out];exact Bq (i:=i+6) HPI.out hy
   refine CJ.next (ET.out.mono (by simp)) (fun y hy=>.inl hy) (CJ.next Gj.out (F1:=F) (fun y hy=>.inl hy) ⟨_,⟨h,cb,mb,_,_,_,ps,Fc,_,rfl,hb,rfl⟩,hu2.mono (fun y hy=>.inl (hFi y hy)),fun y hy=>?_⟩)
   have e5:parts h Fc (.slice (some ⟨qt,0,none⟩) ps.length Ct) (.slice (some ⟨qa,0,none⟩) S.al.length Ca) (.slice (some ⟨ql,0,none⟩) S.lv.length Cl) mb (Fs.set i Ft)=(parts h Fc (.slice (some ⟨qt,0,none⟩) ps.length Ct) (.slice (some ⟨qa,0,none⟩) S.al.length Ca) (.slice (some ⟨ql,0,none⟩) S.lv.length Cl) mb Fs).set (i+6) Ft:=by simp [parts]
   rw [e5] at hy;rcases EJ hy with hy | hy
   ·exact .inl (by rw [HF.out];exact hy)
   ·exact .inl (hFi y hy)
  have Gv:=AQ hfin;clear hfin hu';go_wp2_with fail
  go_ret2
  refine ⟨?_,Gv.out⟩
  unfold OT;rw [HMN.out,if_neg hlt];rfl
end Go.Proofs.YtkbaaonchdeneaaGreat.EI
namespace Go.Proofs.YtkbaaonchdeneaaGreat.GN
open Go.RowKit
open Go.Proofs.YtkbaaonchdeneaaGreat.EI (Cc CJ)
open Go.Proofs.YtkbaaonchdeneaaGreat.Nm (Hz EK Dh TG IY Bq EJ)
open Go.Proofs.YtkbaaonchdeneaaGreat.Ps
abbrev Ec:=PS Bx
def Gw (q:Nat) (Fh Fd:List Nat) (av:Value):List (List Nat):=[[q],Fh,Fd,blk av]
structure P8 (w:World) (q:Nat) (hv dv av:Value) (Fh Fd:List Nat) (S:Ec):Prop where
 head:Ic w q #[hv,dv,av] 44
 half:Cc w hv Fh S.H
 dir:Hz w dv Fd S.N
 all:G5.row w 0 av S.all
 apart:(Gw q Fh Fd av).Pairwise Dh
def JO (w:World) (tv:Value) (F:List Nat) (S:Ec):Prop:=∃q hv dv av Fh Fd,tv=.pointer (some ⟨q,0,none⟩)∧P8 w q hv dv av Fh Fd S∧F=(Gw q Fh Fd av).flatten
variable {w w':World} {q:Nat} {hv dv av:Value} {Fh Fd:List Nat} {S:Ec}
theorem P8.lt (H:P8 w q hv dv av Fh Fd S):∀P∈Gw q Fh Fd av,∀x∈P,x<w.heap.size:=by
 intro P hP x hx;simp only [Gw,List.mem_cons,List.not_mem_nil,or_false] at hP;rcases hP with rfl | rfl | rfl | rfl
 ·simp at hx;subst hx;exact H.head.lt
 ·exact H.half.lt x hx
 ·exact H.dir.lt x hx
 ·exact BK H.all x hx
theorem P8.upd (H:P8 w q hv dv av Fh Fd S) {G:List Nat} (hu:Bf G w w') (hd:∀P∈Gw q Fh Fd av,Dh P G):P8 w' q hv dv av Fh Fd S:=
 ⟨H.head.upd hu (hd [q] (by simp [Gw]) q (by simp)),H.half.upd hu (hd Fh (by simp [Gw])),H.dir.upd hu (hd Fd (by simp [Gw])),Bg H.all hu (hd (blk av) (by simp [Gw])),H.apart⟩
theorem P8.Gu (H:P8 w q hv dv av Fh Fd S) {i j:Nat} {P Q:List Nat} (hi:(Gw q Fh Fd av)[i]? = some P) (hj:(Gw q Fh Fd av)[j]? = some Q) (hne:i≠j):Dh P Q:=TG H.apart hi hj hne
theorem JO.upd {tv:Value} {F G:List Nat} (H:JO w tv F S) (hu:Bf G w w') (hd:∀x∈F,x∉G):JO w' tv F S:=by
 obtain ⟨q,hv,dv,av,Fh,Fd,rfl,H,rfl⟩:=H;exact ⟨q,hv,dv,av,Fh,Fd,rfl,H.upd hu fun P hP x hx=>hd x (List.mem_flatten.2 ⟨P,hP,hx⟩),rfl⟩
theorem JO.lt {tv:Value} {F:List Nat} (H:JO w tv F S):∀x∈F,x<w.heap.size:=by
 obtain ⟨q,hv,dv,av,Fh,Fd,rfl,H,rfl⟩:=H;intro x hx;obtain ⟨P,hP,hx⟩:=List.mem_flatten.1 hx;exact H.lt P hP x hx
def OU (w w':World) (tv:Value) (F:List Nat) (S:Ec):Prop:=∃F',JO w' tv F' S∧Bf F w w'∧∀x∈F',x∈F∨w.heap.size≤x
theorem OU.ahead {w0:World} {tv:Value} {F:List Nat} (H:OU w w' tv F S) (hu:Bf [] w0 w):OU w0 w' tv F S:=by
 obtain ⟨F',h,h1,h2⟩:=H;exact ⟨F',h,(hu.mono (by simp)).trans h1,fun x hx=>(h2 x hx).imp id fun g=>Bd hu.size g⟩
theorem P8.halves (H:P8 w q hv dv av Fh Fd S) {S':HS Bx} (hs:CJ w w' hv Fh S'):∃Fh',P8 w' q hv dv av Fh' Fd { S with H:=S' }∧Bf Fh w w'∧∀x∈Fh',x∈Fh∨w.heap.size≤x:=by
 obtain ⟨F',h,hu,hF⟩:=hs;have d:∀(j:Nat) (Q:List Nat),j≠1→(Gw q Fh Fd av)[j]? = some Q→Dh Q Fh:=fun j Q hne hj=>H.Gu hj (j:=1) rfl hne
 exact ⟨F',⟨H.head.upd hu (d 0 [q] (by omega) rfl q (by simp)),h,H.dir.upd hu (d 2 _ (by omega) rfl),Bg H.all hu (d 3 _ (by omega) rfl),IY (i:=1) H.apart H.lt rfl hF⟩,hu,hF⟩
theorem P8.dirs (H:P8 w q hv dv av Fh Fd S) {S':Nm.NS} (hs:EK w w' dv Fd S'):∃Fd',P8 w' q hv dv av Fh Fd' { S with N:=S' }∧Bf Fd w w'∧∀x∈Fd',x∈Fd∨w.heap.size≤x:=by
 obtain ⟨F',h,hu,hF⟩:=hs;have d:∀(j:Nat) (Q:List Nat),j≠2→(Gw q Fh Fd av)[j]? = some Q→Dh Q Fd:=fun j Q hne hj=>H.Gu hj (j:=2) rfl hne
 exact ⟨F',⟨H.head.upd hu (d 0 [q] (by omega) rfl q (by simp)),H.half.upd hu (d 1 _ (by omega) rfl),h,Bg H.all hu (d 3 _ (by omega) rfl),IY (i:=2) H.apart H.lt rfl hF⟩,hu,hF⟩
theorem P8.kept (H:P8 w q hv dv av Fh Fd S) {tZ:Value} {l:List Bx} (hu:Bf (q::blk av) w w') (hh:Ic w' q #[hv,dv,tZ] 44) (hr:G5.row w' 0 tZ l) (hF:∀x∈blk tZ,x∈blk av∨w.heap.size≤x):P8 w' q hv dv tZ Fh Fd { S with all:=l }:=by
 have d:∀(j:Nat) (Q:List Nat),j≠0→j≠3→(Gw q Fh Fd av)[j]? = some Q→Dh Q (q::blk av):=by
  intro j Q h0 h3 hj x hx hc;rcases List.mem_cons.1 hc with rfl | hc
  ·exact H.Gu hj (j:=0) rfl h0 x hx (by simp)
  ·exact H.Gu hj (j:=3) rfl h3 x hx hc
 exact ⟨hh,H.half.upd hu (d 1 _ (by omega) (by omega) rfl),H.dir.upd hu (d 2 _ (by omega) (by omega) rfl),hr,IY (i:=3) H.apart H.lt rfl hF⟩
theorem Cc.ptr {hv:Value} {F:List Nat} {S:HS Bx} (H:Cc w hv F S):∃b,hv=.pointer (some ⟨b,0,none⟩):=by
 obtain ⟨h,cb,mb,tv,av,Ee,ps,Fc,Fs,rfl,-⟩:=H;exact ⟨h,rfl⟩
theorem Hz.ptr {dv:Value} {F:List Nat} {S:Nm.NS} (H:Hz w dv F S):∃b,dv=.pointer (some ⟨b,0,none⟩):=by
 obtain ⟨q,cb,vb,vp,va,vs,bk,Fc,rfl,-⟩:=H;exact ⟨q,rfl⟩
theorem Rt (q h:Nat) (w:World) (h0:w.cell? ⟨q,0,none⟩=some (.pointer (some ⟨h,0,none⟩))) :
 Calls Tryz.prog 59 #[.pointer (some ⟨q,0,none⟩)] w fun e w'=>e=.returned (.bool false)∧w=w':=by
 go_enter Tryz.func59,Tryz.ntmps59
 go_wp2_with fail
 go_ret
 exact ⟨rfl,rfl⟩
theorem b1A (tv:Value) (F:List Nat) (S:Ec) (w:World) (H:JO w tv F S) (I:Dl Bx.id S) :
 Calls Tryz.prog 15 #[tv] w fun e w'=>e=.returned (.int .i64 ((Cj S).length:Nat))∧w=w':=by
 obtain ⟨q,hv,dv,av,Fh,Fd,rfl,H,hF⟩:=H;obtain ⟨h,rfl⟩:=Cc.ptr H.half;obtain ⟨h0,-⟩:=H.head.cells3;have HN:=AQ (Rt q h w h0);have hl:=EI.b0X _ _ _ w H.half;rw [nM I] at hl;have HL:=AQ hl;clear H hF hl I;go_enter Tryz.func15,Tryz.ntmps15
 go_wp2_with fail
 (with_reducible refine HN.out.mono ?_);rintro e w' ⟨rfl,rfl⟩;go_wp2_with fail
 (with_reducible refine HL.out.mono ?_);rintro e w' ⟨rfl,rfl⟩;go_wp2_with fail
 go_ret
 exact ⟨rfl,rfl⟩
theorem newP (w:World) :
 Calls Tryz.prog 13 #[] w fun e w'=>∃tv F,e=.returned tv∧JO w' tv F P0∧(∀x∈F,w.heap.size≤x)∧Bf [] w w':=by
 have hh:=EI.newH w;unfold EI.Ij EI.Jh at hh;have HH:=AQ hh;clear hh;go_enter Tryz.func13,Tryz.ntmps13
 go_wp2_with fail
 (with_reducible refine HH.out.mono ?_);rintro e w1 ⟨b,Fh,rfl,h1,u1,g1⟩;have H1:=Aj h1 u1 g1;clear h1 u1 g1;go_wp2_with fail
 (with_reducible refine (Nm.b1l w1).mono ?_);rintro e w2 ⟨dv,Fd,rfl,h2,g2,u2⟩;obtain ⟨d,rfl⟩:=Hz.ptr h2;have H2:=Aj h2 u2 g2;clear h2 u2 g2;go_wp2_with fail
 go_ret
 obtain ⟨h1,u1,g1⟩:=H1.out;obtain ⟨h2,u2,g2⟩:=H2.out;obtain ⟨W,hW,hu3,hq⟩:=BJ w2 #[.pointer (some ⟨b,0,none⟩),.pointer (some ⟨d,0,none⟩),.slice none 0 0] 44;rw [←hW];have l1:=(h1.upd u2 (by simp)).lt;have l2:=h2.lt;refine ⟨_,_,rfl,⟨w2.heap.size,_,_,.slice none 0 0,Fh,Fd,rfl,⟨hq,(h1.upd u2 (by simp)).upd hu3 (by simp),h2.upd hu3 (by simp),World.ownsRow_nil _ _ _ _,?_⟩,rfl⟩,?_,(u1.trans u2).trans hu3⟩
 ·simp only [Gw,blk,List.pairwise_cons,List.mem_cons,List.not_mem_nil,or_false,List.Pairwise.nil,and_true];refine ⟨?_,?_,?_,by simp⟩
  ·rintro P (rfl | rfl | rfl) x hx hc
   ·simp at hx;subst hx;have:=l1 _ hc;omega
   ·simp at hx;subst hx;have:=l2 _ hc;omega
   ·simp at hc
  ·rintro P (rfl | rfl) x hx hc
   ·have e1:=h1.lt x hx;have e2:=g2 x hc;omega
   ·simp at hc
  ·intro P hP x hx hc;subst hP;simp at hc
 ·intro x hx;have s1:=u1.size;have s2:=u2.size;simp [Gw,blk] at hx;rcases hx with rfl | hx | hx
  ·omega
  ·exact g1 x hx
  ·have:=g2 x hx;omega
