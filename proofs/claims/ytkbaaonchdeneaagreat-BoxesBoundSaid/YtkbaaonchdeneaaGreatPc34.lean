/- Half.Drop. Printed by mkhg.py. Boxes in memory: New, none, Len, Stored, Work, Get. -/
import Derived.Test.YtkbaaonchdeneaaGreatPc28
import Derived.Test.YtkbaaonchdeneaaGreatPc33
set_option maxHeartbeats 2000000
set_option maxRecDepth 100000
namespace Go.Proofs.YtkbaaonchdeneaaGreat
namespace Fv
open Go.RowKit
attribute [local go_sem ↓] Go.wp_at_zero Go.wp_at_succ
theorem Xx (al:List Bool) (k:Nat) (b:List (Bx×Nat)):(live (al.set k false) b).Sublist (live al b):=by
 unfold live;rw [RI];exact List.Sublist.map _ List.filter_sublist
theorem a3y (hv:Value) (F:List Nat) (S:HS Bx) (x:Bx) (w:World) (H:BO w hv F S) (hx:(x.CS/\x.id<4294967296)) (hk:S.mp.lookup x=none) :
 Calls Tryz.prog 75 #[hv,.agg #[x.x1,x.x2,x.y1,x.y2,.int .u32 (x.id:Int)]] w λe w'=>e=.returned (.tuple #[.int .i64 0,.bool false])/\Bj [] w w':=by
 obtain ⟨W,hW,hu0,hq0⟩:=CQ w #[x.x1,x.x2,x.y1,x.y2,.int .u32 (x.id:Int)] 28;have H:=H.upd hu0 (by simp);have Ud:=AX hW;have Gu:=AX hu0;have HO:=AX H;obtain ⟨hx0,hx1,hx2,hx3,hx4⟩:=hq0.cells5;obtain ⟨h,cb,mb,tv,av,DI,ps,Fc,Fs,rfl,H,hF⟩:=H;obtain ⟨_,_,_,_,_,_,hc6,_⟩:=H.cell;have hlook:=H.Md.drew.look hx;rw [hk] at hlook;clear H hF hW hu0 hq0;go_enter Tryz.func75,Tryz.ntmps75
 go_upto_region 1 with fail
 rw [<-Ud.out];clear Ud;generalize w.heap.size=qx at hx0 hx1 hx2 hx3 hx4 |-;go_wp2_with fail
 refine (Q7 _ _ _ _ HO.out).mono ?_
 rintro e w' ⟨rfl,rfl⟩;go_upto_region 3 with fail
 go_region
 go_wp2_with fail
 go_ret2
 exact ⟨rfl,Gu.out.drew⟩
def Q9 (S:HS Bx) (x:Bx):Nat:=if 2*(Il S.mp x).length<S.cs.length then (Il S.mp x).length else 0
theorem bJ (hv:Value) (F:List Nat) (S:HS Bx) (x:Bx) (k:Nat) (w:World) (H:BO w hv F S) (I:ET S) (hx:(x.CS/\x.id<4294967296)) (hk:S.mp.lookup x=some (k:Int)) (hl:S.cs.length<100000) (hw:S.wk<1099511627776) (hgood:Good (live S.al S.cs)) (hl1:(live S.al S.cs).length<=1000) :
 Calls Tryz.prog 75 #[hv,.agg #[x.x1,x.x2,x.y1,x.y2,.int .u32 (x.id:Int)]] w λe w'=>
  e=.returned (.tuple #[.int .i64 (Q9 S x:Nat),.bool true])/\Cc w w' hv F (Dk S x k):=by
 have H0:=AX H.lt;have hsb:=Xx S.al k S.cs;have HGD:=Ap (hgood.sub hsb) (Bh hsb.length_le hl1);clear hgood hl1 hsb;obtain ⟨W,hW,hu0,hq0⟩:=CQ w #[x.x1,x.x2,x.y1,x.y2,.int .u32 (x.id:Int)] 28;have H:=H.upd hu0 (by simp);have Ud:=AX hW;have Gu:=AX hu0;have HQX:=AX hq0;have hnx:w.heap.size∉F:=λhc=>Nat.lt_irrefl _ (H0.out _ hc)
 have QJ:=AX hnx;obtain ⟨hx0,hx1,hx2,hx3,hx4⟩:=hq0.cells5;clear hW hu0 hq0 hnx;have HO:=AX H;obtain ⟨h,cb,mb,tv,av,DI,ps,Fc,Fs,rfl,H,hF⟩:=H;obtain ⟨hc0,hc1,hc2,hc3,hc4,hc5,hc6,hfr⟩:=H.cell;obtain ⟨Aa,Ca,hav⟩:∃A C,av=.slice A S.al.length C:=BD H.FK;subst hav;obtain ⟨i,hi,hib,hlk,hak,N,hN,htr⟩:=I.at hk;have a5m:=Ap (show x∈live S.al (Bq S.cs i) from List.mem_map.2 ⟨(x,k),List.mem_filter.2 ⟨hib,hak⟩,rfl⟩) hx.2
 have hyb:k<S.al.length:=by
  obtain ⟨ya,hya,hyb⟩:=I.core.num hk;omega
 have hgk:S.al[k]? = some true:=by
  rw [Ba (by omega)];rw [List.getD_eq_getElem?_getD,Ba (by omega)] at hak;simpa using hak
 obtain ⟨qa,rfl,Oo,rU,a8L,a2z⟩:=J9 H.FK (k:=k) (by omega) (u:=.bool true) (by rw [List.getElem?_map,hgk];rfl);have hlook:=H.Md.drew.look hx;rw [hk] at hlook;have QU:h<W.heap.size:=lt_of_block H.head;have HH:=AX H;have HI:=AX I;have HF:=AX hF;have HK:=AX hk;clear H hF I hk hfr;go_enter Tryz.func75,Tryz.ntmps75
 go_upto_region 1 with fail
 rw [<-Ud.out];clear Ud;obtain ⟨qx,JQ⟩:∃q,w.heap.size=q:=⟨_,rfl⟩;rw [JQ] at hx0 hx1 hx2 hx3 hx4 HQX QJ |-;have HQE:=AX JQ;clear JQ H0;go_wp2_with fail
 refine (Q7 _ _ _ _ HO.out).mono ?_
 rintro e w' ⟨rfl,rfl⟩;go_upto_region 3 with fail
 go_region
 have HHD:=AX (HH.out.upd ((Bj.refl [] W).drew) (by intro P hP x hx;simp));go_upto_region 6 with fail
 obtain ⟨w1,hrun,hm1,hu1⟩:=HHD.out.Md.drew.del hx 0;go_region
 have hu1:Bj [mb] W w1:=(((Bj.refl [] W).drew.drew).mono (by simp)).trans' hu1 (λx hx=>.inl hx);have hhm:h∉[mb]:=by simp;exact λe=>HH.out.E5 (i:=0) (j:=5) rfl rfl (by omega) h (by simp) (by simp [e])
 have a2A:qa∉[mb]:=by simp;exact λe=>HH.out.E5 (i:=3) (j:=5) rfl rfl (by omega) qa (by simp [blk]) (by simp [e])
 have hqm:qx∉[mb]:=λhc=>QJ.out (by rw [HF.out];exact Bz (i:=5) (P:=[mb]) rfl hc)
 have g4:=(hu1.cell (p:=⟨h,4,none⟩) QU hhm).trans hc4;have gqa:=(hu1.cell (p:=⟨qa,k,none⟩) a2z a2A).trans Oo;have gqf:=(hu1.frozen (p:=⟨qa,k,none⟩) a2z a2A).trans rU;have Ut:qx<W.heap.size:=HQX.out.lt;have hy0:=(hu1.cell (p:=⟨qx,0,none⟩) Ut hqm).trans hx0;have hy1:=(hu1.cell (p:=⟨qx,1,none⟩) Ut hqm).trans hx1;have hy2:=(hu1.cell (p:=⟨qx,2,none⟩) Ut hqm).trans hx2;have hy3:=(hu1.cell (p:=⟨qx,3,none⟩) Ut hqm).trans hx3;have hy4:=(hu1.cell (p:=⟨qx,4,none⟩) Ut hqm).trans hx4;have a8M:(k:Int)<(S.al.length:Int):=by omega
 have hk0:(0:Int)<=(k:Int):=AY _;go_upto_region 8 with fail
 clear hrun hhm a2A;have hmb:mb∉([]:List Nat):=by simp
 have h2:=(HH.out.map hm1 hu1).dead rfl k false
 have hU:Bj F W (w1.setCell ⟨qa,k,none⟩ (.bool false)):=by
  have oq:=HF.out;exact (hu1.mono (G:=F) (λy hy=>.inl (by rw [oq];exact Bz (i:=5) (P:=[mb]) rfl hy))).setCell (p:=⟨qa,k,none⟩) (.inl (by rw [oq];exact Bz (i:=3) (P:=[qa]) rfl (by simp))) _
 have hI2:BO (w1.setCell ⟨qa,k,none⟩ (.bool false)) (.pointer (some h)) F (DC S x k):=⟨h,cb,mb,_,_,_,ps,Fc,Fs,rfl,h2,HF.out⟩;obtain ⟨w2,hw2⟩:=AU (w1.setCell ⟨qa,k,none⟩ (.bool false));rw [hw2] at h2 hU hI2 |-;obtain ⟨hd0,hd1,hd2,hd3,hd4,hd5,hd6,hdr⟩:=h2.cell;obtain ⟨Mn,hMn⟩:∃n,(Il S.mp x).length=n:=⟨_,rfl⟩;have a5n:=h2.Md.len
 have hml:Mn<=S.cs.length:=by
  have e1:=(HI.out.core.drop1 HK.out).jf.length_eq;rw [List.length_map] at e1;have e2:=Ko (DC S x k).al (DC S x k).cs;rw [<-e1] at e2;have e3:(DC S x k).mp.length=Mn:=hMn;have e4:(DC S x k).cs.length=S.cs.length:=rfl;omega
 have hlen:(Builtin.len_ #[161] 3 #[.map (some mb)]).run Tryz.prog w2.drew=.ok (.int .i64 (Il S.mp x).length) w2.drew:=h2.Md.drew.len _;have HC:=AX h2.Om;have HMN:=AX hMn;have HU:=AX hU;have HI2:=AX hI2;have QZ:=AX h2;have HDR:=AX hdr;rw [hMn] at hlen;have lU:qx≠qa:=λe=>QJ.out (by rw [HF.out,e];exact Bz (i:=3) (P:=[qa]) rfl (by simp))
 have hz0:w2.cell? qx=some (.int .i64 x.x1):=by rw [<-hw2];exact (((Bj.refl [qa] w1).setCell (p:=⟨qa,k,none⟩) (.inl (by simp)) (.bool false)).cell (p:=⟨qx,0,none⟩) (Bg Ut hu1.size) (by simp;exact lU)).trans hy0
 have hz1:w2.cell? ⟨qx,1,none⟩=some (.int .i64 x.x2):=by rw [<-hw2];exact (((Bj.refl [qa] w1).setCell (p:=⟨qa,k,none⟩) (.inl (by simp)) (.bool false)).cell (p:=⟨qx,1,none⟩) (Bg Ut hu1.size) (by simp;exact lU)).trans hy1
 have hz2:w2.cell? ⟨qx,2,none⟩=some (.int .i64 x.y1):=by rw [<-hw2];exact (((Bj.refl [qa] w1).setCell (p:=⟨qa,k,none⟩) (.inl (by simp)) (.bool false)).cell (p:=⟨qx,2,none⟩) (Bg Ut hu1.size) (by simp;exact lU)).trans hy2
 have hz3:w2.cell? ⟨qx,3,none⟩=some (.int .i64 x.y2):=by rw [<-hw2];exact (((Bj.refl [qa] w1).setCell (p:=⟨qa,k,none⟩) (.inl (by simp)) (.bool false)).cell (p:=⟨qx,3,none⟩) (Bg Ut hu1.size) (by simp;exact lU)).trans hy3
 have pV:w2.cell? ⟨qx,4,none⟩=some (.int .u32 (x.id:Int)):=by rw [<-hw2];exact (((Bj.refl [qa] w1).setCell (p:=⟨qa,k,none⟩) (.inl (by simp)) (.bool false)).cell (p:=⟨qx,4,none⟩) (Bg Ut hu1.size) (by simp;exact lU)).trans hy4
 have a7D:qx<w2.heap.size:=World.block_lt_of_cell? _ _ hz0;clear hw2 hMn hU hI2 h2 hdr a5n hm1 hu1 g4 gqa gqf Oo rU a2z hc0 hc1 hc2 hc3 hc4 hc5 hc6 hlook hak hgk hmb hx0 hx1 hx2 hx3 hx4 hy0 hy1 hy2 hy3 hy4 lU hqm Ut;have hwr:IntKind.i64.wrap (2*(Mn:Int))=2*(Mn:Int):=IntWalk.i64_in _ (by omega)
 go_region_held3 (λw'=>w'.cell? ⟨h,2,none⟩=some (.pointer (some cb))/\w'.cell? ⟨h,6,none⟩=some (.map (some mb))/\(Builtin.len_ #[161] 3 #[.map (some mb)]).run Tryz.prog w'=.ok (.int .i64 Mn) w')
  (first | go_keep | exact ⟨hd2,hd6,hlen⟩)
  ((go_at_call 123;refine (O7.zo _ _ _ _ _ _ (HC.out.upd ((Bj.refl [] w2).drew) (by simp))).mono ?_;rintro e w' ⟨rfl,rfl⟩))
 clear hwr
 have a5o:(CW (DC S x k).al (DC S x k).cs).length=Mn:=by
  have e1:=(HI.out.core.drop1 HK.out).jf.length_eq;rw [List.length_map] at e1;rw [<-e1];exact HMN.out
 have a7E:=AX a5o;have pR:BO w2.drew (.pointer (some h)) F (DC S x k):=HI2.out.upd ((Bj.refl [] w2).drew) (by simp);have hH3:BN w2.drew h cb mb tv (.slice (some ⟨qa,0,none⟩) S.al.length Ca) DI ps Fc Fs (DC S x k):=QZ.out.upd ((Bj.refl [] w2).drew) (by intro P hP y hy;simp);have hU3:Bj F W w2.drew:=HU.out.drew;have HI3:=AX pR;have OB:=AX hH3;have EJ:=AX hU3;have a7F:(DC S x k).lv[k]? = some i:=hlk;have a5p:(DC S x k).tr[i]? = some (some (N,live S.al (Bq S.cs i))):=htr;obtain ⟨pt,Ft,hpt,hFt,hbt⟩:=hH3.yes i _ a5p;obtain ⟨At,Ct,kS⟩:∃A C,tv=.slice A ps.length C:=BD hH3.IV;obtain ⟨Al,Cl,hlv⟩:∃A C,DI=.slice A S.lv.length C:=BD hH3.Mc;subst kS hlv;have hil:i<ps.length:=(AZ hpt).1;have hkl:k<S.lv.length:=(AZ hlk).1;obtain ⟨pa,pv,hpe⟩:=hbt.some;subst hpe;obtain ⟨qt,rfl,um,YM,a7G,a2B⟩:=RU hH3.IV hpt;unfold tp at um;unfold tq at YM;simp only [Option.map_some] at um YM;have hv0:w2.drew.cell? qx=some (.int .i64 x.x1):=hz0;have hv1:w2.drew.cell? ⟨qx,1,none⟩=some (.int .i64 x.x2):=hz1;have hv2:w2.drew.cell? ⟨qx,2,none⟩=some (.int .i64 x.y1):=hz2;have hv3:w2.drew.cell? ⟨qx,3,none⟩=some (.int .i64 x.y2):=hz3;have hv4:w2.drew.cell? ⟨qx,4,none⟩=some (.int .u32 (x.id:Int)):=pV;obtain ⟨ql,rfl,a2C,a7H,a7I,a5q⟩:=J9 hH3.Mc (k:=k) (by exact hkl) (u:=.int .i64 (i:Int)) (by show ((S.lv.map λ(n:Nat)=>Value.int .i64 (n:Int))[k]?)=_;rw [List.getElem?_map,hlk];rfl);obtain ⟨he0,he1,he2,he3,he4,he5,he6,_⟩:=hH3.cell;obtain ⟨LL,hLe⟩:∃L,live S.al (Bq S.cs i)=L:=⟨_,rfl⟩;rw [hLe] at hbt;have HBT:=AX hbt;have HFT:=AX hFt;have HPT:=AX hpt;have HLK:=AX hlk;have HTR:=AX htr;have xO:=AX hLe;clear pR hH3 hU3 a5o hlen a7F a5p htr hlk hFt hpt hLe hbt hz0 hz1 hz2 hz3 pV hd0 hd1 hd2 hd3 hd4 hd5 hd6 hi hib hyb;by_cases hlt:2*Mn<S.cs.length
 ·clear um YM a7G a2B a2C a7H a7I a5q hil hkl;go_wp2_with fail
  refine (a4L _ F _ _ HI3.out (HI.out.core.drop1 HK.out) (by show S.cs.length<100000;exact hl) hw HGD.1 HGD.2).mono ?_
  rintro e w' ⟨rfl,hst⟩
  have hfin:Cc w w' (.pointer (some h)) F (Dk S x k):=by
   have e:Dk S x k=Ls (DC S x k):=by unfold Dk;rw [HMN.out,if_pos hlt]
   rw [e];exact Cc.next (Gu.out.mono (by simp)) (λy hy=>.inl hy) (Cc.next EJ.out (λy hy=>.inl hy) hst)
  have Ih:=AX hfin;clear hst hfin;go_wp2_with fail
  go_ret2
  refine ⟨?_,Ih.out⟩
  unfold Q9;rw [HMN.out,if_pos hlt,<-a7E.out];rfl
 ·unfold GX at he1;have hpi:(parts h Fc (.slice (some ⟨qt,0,none⟩) ps.length Ct) (.slice (some ⟨qa,0,none⟩) S.al.length Ca) (.slice (some ⟨ql,0,none⟩) S.lv.length Cl) mb Fs)[i+6]? = some Ft:=by simpa [parts] using HFT.out
  have hnh:h∉Ft:=λhc=>OB.out.E5 (i:=0) (j:=i+6) rfl hpi (by omega) h (by simp) hc
  have hnt:qt∉Ft:=λhc=>OB.out.E5 (i:=2) (j:=i+6) rfl hpi (by omega) qt (by simp [blk]) hc
  have hnl:ql∉Ft:=λhc=>OB.out.E5 (i:=4) (j:=i+6) rfl hpi (by omega) ql (by simp [blk]) hc
  have hhs:h<w2.drew.drew.heap.size:=OB.out.lt _ (List.mem_of_getElem? (i:=0) rfl) h (by simp);have hnx:qx∉Ft:=λhc=>QJ.out (by rw [HF.out];exact Bz (i:=i+6) hpi hc)
  have uo:qx<w2.drew.drew.heap.size:=a7D;have HPI:=AX hpi;clear hpi;have a8N:(i:Int)<(ps.length:Int):=by omega
  have hi0:(0:Int)<=(i:Int):=AY _;have a8O:(k:Int)<(S.lv.length:Int):=by omega
  go_upto_region 10 with fail
  go_region_held3 (λw'=>w'.cell? ⟨h,1,none⟩=some (.func (.func 57) #[] #[])/\w'.cell? ⟨h,3,none⟩=some (.slice (some ⟨qt,0,none⟩) ps.length Ct)/\w'.cell? ⟨h,5,none⟩=some (.slice (some ⟨ql,0,none⟩) S.lv.length Cl)/\w'.cell? ⟨ql,k,none⟩=some (.int .i64 (i:Int))/\w'.cell? ⟨qt,i*2,none⟩=some (.pointer (some pa))/\w'.cell? ⟨qt,i*2+1,none⟩=some (.map (some pv))/\w'.cell? qx=some (.int .i64 x.x1)/\w'.cell? ⟨qx,1,none⟩=some (.int .i64 x.x2)/\w'.cell? ⟨qx,2,none⟩=some (.int .i64 x.y1)/\w'.cell? ⟨qx,3,none⟩=some (.int .i64 x.y2)/\w'.cell? ⟨qx,4,none⟩=some (.int .u32 (x.id:Int)))
   (first | (exact ⟨he1,he3,he5,a2C,um,YM,hv0,hv1,hv2,hv3,hv4⟩) | (exact ⟨(hu'.cell (p:=⟨h,1,none⟩) hhs hnh).trans he1,(hu'.cell (p:=⟨h,3,none⟩) hhs hnh).trans he3,(hu'.cell (p:=⟨h,5,none⟩) hhs hnh).trans he5,(hu'.cell (p:=⟨ql,k,none⟩) a5q hnl).trans a2C,(hu'.cell (p:=⟨qt,i*2,none⟩) a2B hnt).trans um,(hu'.cell (p:=⟨qt,i*2+1,none⟩) a2B hnt).trans YM,(hu'.cell (p:=⟨qx,0,none⟩) uo hnx).trans hv0,(hu'.cell (p:=⟨qx,1,none⟩) uo hnx).trans hv1,(hu'.cell (p:=⟨qx,2,none⟩) uo hnx).trans hv2,(hu'.cell (p:=⟨qx,3,none⟩) uo hnx).trans hv3,(hu'.cell (p:=⟨qx,4,none⟩) uo hnx).trans hv4⟩) | go_keep)
   ((go_at_call 57;refine (a4h _ pa pv _ Ft x (by have h9:=a5m.1;rw [xO.out] at h9;exact h9) a5m.2 (Jo.upd HBT.out ((Bj.refl [] w2.drew).drew) (by simp))).mono ?_;rintro e w' ⟨r,rfl,hb',hu'⟩;have HB':=AX hb';clear hb'))
  have hfin:Cc w w' (.pointer (some h)) F (Dk S x k):=by
   have e:Dk S x k=strike (DC S x k) k x:=by unfold Dk;rw [HMN.out,if_neg hlt]
   have e2:strike (DC S x k) k x={ DC S x k with tr:=(DC S x k).tr.set i (some (N,LL.erase x)) }:=by
    unfold strike;have e3:(DC S x k).lv.getD k 0=i:=by rw [List.getD_eq_getElem?_getD];show (S.lv[k]?).getD 0=i;rw [HLK.out];rfl
    have e4:(DC S x k).tr.getD i none=some (N,LL):=by rw [List.getD_eq_getElem?_getD];show (S.tr[i]?).getD none=_;rw [HTR.out,xO.out];rfl
    rw [e3,e4];rfl
   rw [e,e2];have hu2:Bj Ft w2.drew w':=((Bj.refl Ft w2.drew).drew).trans hu';have hb:=OB.out.bag HPT.out HFT.out HB'.out hu2 (λx hx=>.inl hx);have hFi:∀y∈Ft,y∈F:=λy hy=>by rw [HF.out];exact Bz (i:=i+6) HPI.out hy
   refine Cc.next (Gu.out.mono (by simp)) (λy hy=>.inl hy) (Cc.next EJ.out (F1:=F) (λy hy=>.inl hy) ⟨_,⟨h,cb,mb,_,_,_,ps,Fc,_,rfl,hb,rfl⟩,hu2.mono (λy hy=>.inl (hFi y hy)),λy hy=>?_⟩)
   have e5:parts h Fc (.slice (some ⟨qt,0,none⟩) ps.length Ct) (.slice (some ⟨qa,0,none⟩) S.al.length Ca) (.slice (some ⟨ql,0,none⟩) S.lv.length Cl) mb (Fs.set i Ft)=(parts h Fc (.slice (some ⟨qt,0,none⟩) ps.length Ct) (.slice (some ⟨qa,0,none⟩) S.al.length Ca) (.slice (some ⟨ql,0,none⟩) S.lv.length Cl) mb Fs).set (i+6) Ft:=by simp [parts]
   rw [e5] at hy;rcases Ed hy with hy | hy
   ·exact .inl (by rw [HF.out];exact hy)
   ·exact .inl (hFi y hy)
  have Ih:=AX hfin;clear hfin hu';go_wp2_with fail
  go_ret2
  refine ⟨?_,Ih.out⟩
  unfold Q9;rw [HMN.out,if_neg hlt];rfl
end Fv
namespace LQ
open Go.RowKit
open Fv (BO Cc)
open Go.Proofs.YtkbaaonchdeneaaGreat.Nm (Gi Ee CU O8 Gz Bz Ed)
open Ps
abbrev GY:=PS Bx
def E8 (q:Nat) (Fh Fd:List Nat) (av:Value):List (List Nat):=[[q],Fh,Fd,blk av]
structure MF (w:World) (q:Nat) (hv dv av:Value) (Fh Fd:List Nat) (S:GY):Prop where
 head:JX w q #[hv,dv,av] 44
 half:BO w hv Fh S.H
 dir:Gi w dv Fd S.N
 all:LP.row w 0 av S.all
 apart:(E8 q Fh Fd av).Pairwise CU
def Ku (w:World) (tv:Value) (F:List Nat) (S:GY):Prop:=∃q hv dv av Fh Fd,tv=.pointer (some ⟨q,0,none⟩)/\MF w q hv dv av Fh Fd S/\F=(E8 q Fh Fd av).flatten
variable {w w':World} {q:Nat} {hv dv av:Value} {Fh Fd:List Nat} {S:GY}
theorem MF.lt (H:MF w q hv dv av Fh Fd S):∀P∈E8 q Fh Fd av,∀x∈P,x<w.heap.size:=by
 intro P hP x hx;simp only [E8,List.mem_cons,List.not_mem_nil,or_false] at hP;rcases hP with rfl | rfl | rfl | rfl
 ·simp at hx;subst hx;exact H.head.lt
 ·exact H.half.lt x hx
 ·exact H.dir.lt x hx
 ·exact BJ H.all x hx
theorem MF.upd (H:MF w q hv dv av Fh Fd S) {G:List Nat} (hu:Bj G w w') (hd:∀P∈E8 q Fh Fd av,CU P G):MF w' q hv dv av Fh Fd S:=
 ⟨H.head.upd hu (hd [q] (by simp [E8]) q (by simp)),H.half.upd hu (hd Fh (by simp [E8])),H.dir.upd hu (hd Fd (by simp [E8])),Bl H.all hu (hd (blk av) (by simp [E8])),H.apart⟩
theorem MF.E5 (H:MF w q hv dv av Fh Fd S) {i j:Nat} {P Q:List Nat} (hi:(E8 q Fh Fd av)[i]? = some P) (hj:(E8 q Fh Fd av)[j]? = some Q) (hne:i≠j):CU P Q:=O8 H.apart hi hj hne
theorem Ku.upd {tv:Value} {F G:List Nat} (H:Ku w tv F S) (hu:Bj G w w') (hd:∀x∈F,x∉G):Ku w' tv F S:=by
 obtain ⟨q,hv,dv,av,Fh,Fd,rfl,H,rfl⟩:=H;exact ⟨q,hv,dv,av,Fh,Fd,rfl,H.upd hu λP hP x hx=>hd x (List.mem_flatten.2 ⟨P,hP,hx⟩),rfl⟩
theorem Ku.lt {tv:Value} {F:List Nat} (H:Ku w tv F S):∀x∈F,x<w.heap.size:=by
 obtain ⟨q,hv,dv,av,Fh,Fd,rfl,H,rfl⟩:=H;intro x hx;obtain ⟨P,hP,hx⟩:=List.mem_flatten.1 hx;exact H.lt P hP x hx
def Rf (w w':World) (tv:Value) (F:List Nat) (S:GY):Prop:=∃F',Ku w' tv F' S/\Bj F w w'/\∀x∈F',x∈F\/w.heap.size<=x
theorem Rf.ahead {w0:World} {tv:Value} {F:List Nat} (H:Rf w w' tv F S) (hu:Bj [] w0 w):Rf w0 w' tv F S:=by
 obtain ⟨F',h,h1,h2⟩:=H;exact ⟨F',h,(hu.mono (by simp)).trans h1,λx hx=>(h2 x hx).imp id λg=>Bh hu.size g⟩
theorem MF.halves (H:MF w q hv dv av Fh Fd S) {S':HS Bx} (hs:Cc w w' hv Fh S'):∃Fh',MF w' q hv dv av Fh' Fd { S with H:=S' }/\Bj Fh w w'/\∀x∈Fh',x∈Fh\/w.heap.size<=x:=by
 obtain ⟨F',h,hu,hF⟩:=hs;have d:∀(j:Nat) (Q:List Nat),j≠1->(E8 q Fh Fd av)[j]? = some Q->CU Q Fh:=λj Q hne hj=>H.E5 hj (j:=1) rfl hne
 exact ⟨F',⟨H.head.upd hu (d 0 [q] (by omega) rfl q (by simp)),h,H.dir.upd hu (d 2 _ (by omega) rfl),Bl H.all hu (d 3 _ (by omega) rfl),Gz (i:=1) H.apart H.lt rfl hF⟩,hu,hF⟩
theorem MF.dirs (H:MF w q hv dv av Fh Fd S) {S':Nm.NS} (hs:Ee w w' dv Fd S'):∃Fd',MF w' q hv dv av Fh Fd' { S with N:=S' }/\Bj Fd w w'/\∀x∈Fd',x∈Fd\/w.heap.size<=x:=by
 obtain ⟨F',h,hu,hF⟩:=hs;have d:∀(j:Nat) (Q:List Nat),j≠2->(E8 q Fh Fd av)[j]? = some Q->CU Q Fd:=λj Q hne hj=>H.E5 hj (j:=2) rfl hne
 exact ⟨F',⟨H.head.upd hu (d 0 [q] (by omega) rfl q (by simp)),H.half.upd hu (d 1 _ (by omega) rfl),h,Bl H.all hu (d 3 _ (by omega) rfl),Gz (i:=2) H.apart H.lt rfl hF⟩,hu,hF⟩
theorem MF.kept (H:MF w q hv dv av Fh Fd S) {oh:Value} {l:List Bx} (hu:Bj (q::blk av) w w') (hh:JX w' q #[hv,dv,oh] 44) (hr:LP.row w' 0 oh l) (hF:∀x∈blk oh,x∈blk av\/w.heap.size<=x):MF w' q hv dv oh Fh Fd { S with all:=l }:=by
 have d:∀(j:Nat) (Q:List Nat),j≠0->j≠3->(E8 q Fh Fd av)[j]? = some Q->CU Q (q::blk av):=by
  intro j Q h0 h3 hj x hx hc;rcases List.mem_cons.1 hc with rfl | hc
  ·exact H.E5 hj (j:=0) rfl h0 x hx (by simp)
  ·exact H.E5 hj (j:=3) rfl h3 x hx hc
 exact ⟨hh,H.half.upd hu (d 1 _ (by omega) (by omega) rfl),H.dir.upd hu (d 2 _ (by omega) (by omega) rfl),hr,Gz (i:=3) H.apart H.lt rfl hF⟩
theorem BO.ptr {hv:Value} {F:List Nat} {S:HS Bx} (H:BO w hv F S):∃b,hv=.pointer (some ⟨b,0,none⟩):=by
 obtain ⟨h,cb,mb,tv,av,DI,ps,Fc,Fs,rfl,-⟩:=H;exact ⟨h,rfl⟩
theorem Gi.ptr {dv:Value} {F:List Nat} {S:Nm.NS} (H:Gi w dv F S):∃b,dv=.pointer (some ⟨b,0,none⟩):=by
 obtain ⟨q,cb,vb,vp,va,vs,bk,Fc,rfl,-⟩:=H;exact ⟨q,rfl⟩
theorem Pq (q h:Nat) (w:World) (h0:w.cell? q=some (.pointer (some h))) :
 Calls Tryz.prog 59 #[.pointer (some q)] w λe w'=>e=.returned (.bool false)/\w=w':=by
 go_enter Tryz.func59,Tryz.ntmps59
 go_wp2_with fail
 go_ret
 exact ⟨rfl,rfl⟩
theorem a7J (tv:Value) (F:List Nat) (S:GY) (w:World) (H:Ku w tv F S) (I:EW Bx.id S) :
 Calls Tryz.prog 15 #[tv] w λe w'=>e=.returned (.int .i64 ((Dw S).length:Nat))/\w=w':=by
 obtain ⟨q,hv,dv,av,Fh,Fd,rfl,H,hF⟩:=H;obtain ⟨h,rfl⟩:=BO.ptr H.half;obtain ⟨h0,-⟩:=H.head.cells3;have HN:=AX (Pq q h w h0);have hl:=Fv.a7h _ _ _ w H.half;rw [iE I] at hl;have HL:=AX hl;clear H hF hl I;go_enter Tryz.func15,Tryz.ntmps15
 go_wp2_with fail
 go_fit HN.out
 rintro e w' ⟨rfl,rfl⟩;go_wp2_with fail
 go_fit HL.out
 rintro e w' ⟨rfl,rfl⟩;go_wp2_with fail
 go_ret
 exact ⟨rfl,rfl⟩
theorem a0l (tv:Value) (F:List Nat) (S:GY) (w:World) (H:Ku w tv F S) :
 Calls Tryz.prog 19 #[tv] w λe w'=>e=.returned (.int .i64 (S.H.cs.length:Nat))/\w=w':=by
 obtain ⟨q,hv,dv,av,Fh,Fd,rfl,H,hF⟩:=H;obtain ⟨h,rfl⟩:=BO.ptr H.half;obtain ⟨h0,-⟩:=H.head.cells3;have HN:=AX (Pq q h w h0);have HL:=AX (Fv.zI _ _ _ w H.half);clear H hF;go_enter Tryz.func19,Tryz.ntmps19
 go_wp2_with fail
 go_fit HN.out
 rintro e w' ⟨rfl,rfl⟩;go_wp2_with fail
 go_fit HL.out
 rintro e w' ⟨rfl,rfl⟩;go_wp2_with fail
 go_ret
 exact ⟨rfl,rfl⟩
theorem a5r (tv:Value) (F:List Nat) (S:GY) (w:World) (H:Ku w tv F S) :
 Calls Tryz.prog 18 #[tv] w λe w'=>e=.returned (.int .i64 (S.H.wk:Nat))/\w=w':=by
 obtain ⟨q,hv,dv,av,Fh,Fd,rfl,H,hF⟩:=H;obtain ⟨h,rfl⟩:=BO.ptr H.half;obtain ⟨h0,-⟩:=H.head.cells3;have HN:=AX (Pq q h w h0);have HL:=AX (Fv.a4K _ _ _ w H.half);clear H hF;go_enter Tryz.func18,Tryz.ntmps18
 go_wp2_with fail
 go_fit HN.out
 rintro e w' ⟨rfl,rfl⟩;go_wp2_with fail
 go_fit HL.out
 rintro e w' ⟨rfl,rfl⟩;go_wp2_with fail
 go_ret
 exact ⟨rfl,rfl⟩
theorem newP (w:World) :
 Calls Tryz.prog 13 #[] w λe w'=>∃tv F,e=.returned tv/\Ku w' tv F P0/\(∀x∈F,w.heap.size<=x)/\Bj [] w w':=by
 have hh:=Fv.newH w;unfold Fv.F7 Fv.GX at hh;have HH:=AX hh;clear hh;go_enter Tryz.func13,Tryz.ntmps13
 go_wp2_with fail
 go_fit HH.out
 rintro e w1 ⟨b,Fh,rfl,h1,u1,g1⟩;have H1:=Aq h1 u1 g1;clear h1 u1 g1;go_wp2_with fail
 go_fit (Nm.a7v w1)
 rintro e w2 ⟨dv,Fd,rfl,h2,g2,u2⟩;obtain ⟨d,rfl⟩:=Gi.ptr h2;have H2:=Aq h2 u2 g2;clear h2 u2 g2;go_wp2_with fail
 go_ret
 obtain ⟨h1,u1,g1⟩:=H1.out;obtain ⟨h2,u2,g2⟩:=H2.out;obtain ⟨W,hW,hu3,hq⟩:=CQ w2 #[.pointer (some b),.pointer (some d),.slice none 0 0] 44;rw [<-hW];have l1:=(h1.upd u2 (by simp)).lt;have l2:=h2.lt;refine ⟨_,_,rfl,⟨w2.heap.size,_,_,.slice none 0 0,Fh,Fd,rfl,⟨hq,(h1.upd u2 (by simp)).upd hu3 (by simp),h2.upd hu3 (by simp),World.ownsRow_nil _ _ _ _,?_⟩,rfl⟩,?_,(u1.trans u2).trans hu3⟩
 ·simp only [E8,blk,List.pairwise_cons,List.mem_cons,List.not_mem_nil,or_false,List.Pairwise.nil,and_true];refine ⟨?_,?_,?_,by simp⟩
  ·rintro P (rfl | rfl | rfl) x hx hc
   ·simp at hx;subst hx;have:=l1 _ hc;omega
   ·simp at hx;subst hx;have:=l2 _ hc;omega
   ·simp at hc
  ·rintro P (rfl | rfl) x hx hc
   ·have e1:=h1.lt x hx;have e2:=g2 x hc;omega
   ·simp at hc
  ·intro P hP x hx hc;subst hP;simp at hc
 ·intro x hx;have s1:=u1.size;have s2:=u2.size;simp [E8,blk] at hx;rcases hx with rfl | hx | hx
  ·omega
  ·exact g1 x hx
  ·have:=g2 x hx;omega
