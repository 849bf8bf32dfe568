/- Half.Drop. Printed by mkhg.py. half.New. Printed by mkhg.py. Spans in memory: New, none, Len, Stored, Work, Get. -/
import Derived.Deep.RegionLaw
import Derived.Deep.DrawnRows
import Derived.IntWalk
import Derived.StillTailTactics
import Derived.Test.YtkbaaonchdeneaaGreatPk42
import Derived.Test.YtkbaaonchdeneaaGreatPk43
import Derived.Test.YtkbaaonchdeneaaGreatPkSpansTellP8
import Derived.Test.YtkbaaonchdeneaaGreatPk49
set_option maxHeartbeats 2000000
set_option maxRecDepth 100000
namespace Go.Proofs.YtkbaaonchdeneaaGreat.HSp
open Go.RowKit
attribute [local go_sem ↓] Go.wp_at_zero Go.wp_at_succ
theorem live_set_sub (al:List Bool) (k:Nat) (b:List (Sp×Nat)):(live (al.set k false) b).Sublist (live al b):=by
 unfold live
 rw [liv_set]
 exact List.Sublist.map _ List.filter_sublist
theorem drop_none (hv:Value) (F:List Nat) (S:HS Sp) (x:Sp) (w:World) (H:IsHalf w hv F S) (hx:x.in64) (hk:S.mp.lookup x=none) :
 Calls Tryz.prog 84 #[hv,.agg #[.int .i64 x.lo,.int .i64 x.hi,.int .u32 (x.id:Int)]] w fun e w'=>e=.returned (.tuple #[.int .i64 0,.bool false])∧Upd [] w w':=by
 obtain ⟨W,hW,hu0,hq0⟩:=one_newC w #[.int .i64 x.lo,.int .i64 x.hi,.int .u32 (x.id:Int)] 62
 have H:=H.upd hu0 (by simp)
 have HWD:=Lib.hid hW
 have HU0:=Lib.hid hu0
 have HO:=Lib.hid H
 obtain ⟨hx0,hx1,hx2⟩:=hq0.cells3
 obtain ⟨h,cb,mb,tv,av,lvv,ps,Fc,Fs,rfl,H,hF⟩:=H
 obtain ⟨_,_,_,_,_,_,hc6,_⟩:=H.cell
 have hlook:=H.mapp.drew.look hx
 rw [hk] at hlook
 clear H hF hW hu0 hq0
 go_enter Tryz.func84,Tryz.ntmps84
 go_upto_region 1 with fail
 rw [←HWD.out]
 clear HWD
 generalize w.heap.size=qx at hx0 hx1 hx2 ⊢
 go_wp2_with fail
 refine (noneH _ _ _ _ HO.out).mono ?_
 rintro e w' ⟨rfl,rfl⟩
 go_upto_region 3 with fail
 go_region
 go_wp2_with fail
 go_ret2
 exact ⟨rfl,HU0.out.drew⟩
def dropN (S:HS Sp) (x:Sp):Nat:=if 2*(mdel S.mp x).length<S.cs.length then (mdel S.mp x).length else 0
theorem drop_there (hv:Value) (F:List Nat) (S:HS Sp) (x:Sp) (k:Nat) (w:World) (H:IsHalf w hv F S) (I:HInv S) (hx:x.in64) (hk:S.mp.lookup x=some (k:Int)) (hl:S.cs.length<100000) (hw:S.wk<1099511627776) (hgood:Good (live S.al S.cs)) (hl1:(live S.al S.cs).length≤1000) :
 Calls Tryz.prog 84 #[hv,.agg #[.int .i64 x.lo,.int .i64 x.hi,.int .u32 (x.id:Int)]] w fun e w'=>
  e=.returned (.tuple #[.int .i64 (dropN S x:Nat),.bool true])∧HStep w w' hv F (dropS S x k):=by
 have H0:=Lib.hid H.lt
 have hsb:=live_set_sub S.al k S.cs
 have HGD:=Lib.hid (And.intro (hgood.sub hsb) (Nat.le_trans hsb.length_le hl1))
 clear hgood hl1 hsb
 obtain ⟨W,hW,hu0,hq0⟩:=one_newC w #[.int .i64 x.lo,.int .i64 x.hi,.int .u32 (x.id:Int)] 62
 have H:=H.upd hu0 (by simp)
 have HWD:=Lib.hid hW
 have HU0:=Lib.hid hu0
 have HQX:=Lib.hid hq0
 have hnx:w.heap.size∉F:=fun hc=>Nat.lt_irrefl _ (H0.out _ hc)
 have HNX:=Lib.hid hnx
 obtain ⟨hx0,hx1,hx2⟩:=hq0.cells3
 clear hW hu0 hq0 hnx
 have HO:=Lib.hid H
 obtain ⟨h,cb,mb,tv,av,lvv,ps,Fc,Fs,rfl,H,hF⟩:=H
 obtain ⟨hc0,hc1,hc2,hc3,hc4,hc5,hc6,hfr⟩:=H.cell
 obtain ⟨Aa,Ca,hav⟩:∃A C,av=.slice A S.al.length C:=own_form H.arow
 subst hav
 obtain ⟨i,hi,hib,hlk,hak,N,hN,htr⟩:=I.at hk
 have hyb:k<S.al.length:=by
  obtain ⟨ya,hya,hyb⟩:=I.core.num hk
  omega
 have hgk:S.al[k]? = some true:=by
  rw [List.getElem?_eq_getElem (by omega)]
  rw [List.getD_eq_getElem?_getD,List.getElem?_eq_getElem (by omega)] at hak
  simpa using hak
 obtain ⟨qa,rfl,hqa1,hqa2,hqa3,hqa4⟩:=own_at H.arow (k:=k) (by omega) (u:=.bool true) (by rw [List.getElem?_map,hgk];rfl)
 have hlook:=H.mapp.drew.look hx
 rw [hk] at hlook
 have hhw:h<W.heap.size:=lt_of_block H.head
 have HH:=Lib.hid H
 have HI:=Lib.hid I
 have HF:=Lib.hid hF
 have HK:=Lib.hid hk
 clear H hF I hk hfr
 go_enter Tryz.func84,Tryz.ntmps84
 go_upto_region 1 with fail
 rw [←HWD.out]
 clear HWD
 obtain ⟨qx,hqx⟩:∃q,w.heap.size=q:=⟨_,rfl⟩
 rw [hqx] at hx0 hx1 hx2 HQX HNX ⊢
 have HQE:=Lib.hid hqx
 clear hqx H0
 go_wp2_with fail
 refine (noneH _ _ _ _ HO.out).mono ?_
 rintro e w' ⟨rfl,rfl⟩
 go_upto_region 3 with fail
 go_region
 have HHD:=Lib.hid (HH.out.upd ((Upd.refl [] W).drew) (by intro P hP x hx;simp))
 go_upto_region 6 with fail
 obtain ⟨w1,hrun,hm1,hu1⟩:=HHD.out.mapp.drew.del hx 0
 go_region
 have hu1:Upd [mb] W w1:=(((Upd.refl [] W).drew.drew).mono (by simp)).trans' hu1 (fun x hx=>.inl hx)
 have hhm:h∉[mb]:=by simp;exact fun e=>HH.out.dis (i:=0) (j:=5) rfl rfl (by omega) h (by simp) (by simp [e])
 have hqam:qa∉[mb]:=by simp;exact fun e=>HH.out.dis (i:=3) (j:=5) rfl rfl (by omega) qa (by simp [blk]) (by simp [e])
 have hqm:qx∉[mb]:=fun hc=>HNX.out (by rw [HF.out];exact mem_part (i:=5) (P:=[mb]) rfl hc)
 have g4:=(hu1.cell (p:=⟨h,4,none⟩) hhw hhm).trans hc4
 have gqa:=(hu1.cell (p:=⟨qa,k,none⟩) hqa4 hqam).trans hqa1
 have gqf:=(hu1.frozen (p:=⟨qa,k,none⟩) hqa4 hqam).trans hqa2
 have hqxw:qx<W.heap.size:=HQX.out.lt
 have hy0:=(hu1.cell (p:=⟨qx,0,none⟩) hqxw hqm).trans hx0
 have hy1:=(hu1.cell (p:=⟨qx,1,none⟩) hqxw hqm).trans hx1
 have hy2:=(hu1.cell (p:=⟨qx,2,none⟩) hqxw hqm).trans hx2
 have hkl0:(k:Int)<(S.al.length:Int):=by omega
 have hk0:(0:Int)≤(k:Int):=Int.natCast_nonneg _
 go_upto_region 8 with fail
 clear hrun hhm hqam
 have hmb:mb∉([]:List Nat):=by simp
 have h2:=(HH.out.map hm1 hu1).dead rfl k false
 have hU:Upd F W (w1.setCell ⟨qa,k,none⟩ (.bool false)):=by
  have hFe:=HF.out
  exact (hu1.mono (G:=F) (fun y hy=>.inl (by rw [hFe];exact mem_part (i:=5) (P:=[mb]) rfl hy))).setCell (p:=⟨qa,k,none⟩) (.inl (by rw [hFe];exact mem_part (i:=3) (P:=[qa]) rfl (by simp))) _
 have hI2:IsHalf (w1.setCell ⟨qa,k,none⟩ (.bool false)) (.pointer (some ⟨h,0,none⟩)) F (dropS1 S x k):=⟨h,cb,mb,_,_,_,ps,Fc,Fs,rfl,h2,HF.out⟩
 obtain ⟨w2,hw2⟩:∃w2,w1.setCell ⟨qa,k,none⟩ (.bool false)=w2:=⟨_,rfl⟩
 rw [hw2] at h2 hU hI2 ⊢
 obtain ⟨hd0,hd1,hd2,hd3,hd4,hd5,hd6,hdr⟩:=h2.cell
 obtain ⟨Mn,hMn⟩:∃n,(mdel S.mp x).length=n:=⟨_,rfl⟩
 have hmlen:=h2.mapp.len
 have hml:Mn≤S.cs.length:=by
  have e1:=(HI.out.core.drop1 HK.out).mpp.length_eq
  rw [List.length_map] at e1
  have e2:=liv_len (dropS1 S x k).al (dropS1 S x k).cs
  rw [←e1] at e2
  have e3:(dropS1 S x k).mp.length=Mn:=hMn
  have e4:(dropS1 S x k).cs.length=S.cs.length:=rfl
  omega
 have hlen:(Builtin.len_ #[201] 3 #[.map (some mb)]).run Tryz.prog w2.drew=.ok (.int .i64 (mdel S.mp x).length) w2.drew:=h2.mapp.drew.len _
 have HC:=Lib.hid h2.car
 have HMN:=Lib.hid hMn
 have HU:=Lib.hid hU
 have HI2:=Lib.hid hI2
 have HH2:=Lib.hid h2
 have HDR:=Lib.hid hdr
 rw [hMn] at hlen
 have hqxa:qx≠qa:=fun e=>HNX.out (by rw [HF.out,e];exact mem_part (i:=3) (P:=[qa]) rfl (by simp))
 have hz0:w2.cell? ⟨qx,0,none⟩=some (.int .i64 x.lo):=by rw [←hw2];exact (((Upd.refl [qa] w1).setCell (p:=⟨qa,k,none⟩) (.inl (by simp)) (.bool false)).cell (p:=⟨qx,0,none⟩) (Nat.lt_of_lt_of_le hqxw hu1.size) (by simp;exact hqxa)).trans hy0
 have hz1:w2.cell? ⟨qx,1,none⟩=some (.int .i64 x.hi):=by rw [←hw2];exact (((Upd.refl [qa] w1).setCell (p:=⟨qa,k,none⟩) (.inl (by simp)) (.bool false)).cell (p:=⟨qx,1,none⟩) (Nat.lt_of_lt_of_le hqxw hu1.size) (by simp;exact hqxa)).trans hy1
 have hz2:w2.cell? ⟨qx,2,none⟩=some (.int .u32 (x.id:Int)):=by rw [←hw2];exact (((Upd.refl [qa] w1).setCell (p:=⟨qa,k,none⟩) (.inl (by simp)) (.bool false)).cell (p:=⟨qx,2,none⟩) (Nat.lt_of_lt_of_le hqxw hu1.size) (by simp;exact hqxa)).trans hy2
 have hqx2:qx<w2.heap.size:=World.block_lt_of_cell? _ _ hz0
 clear hw2 hMn hU hI2 h2 hdr hmlen hm1 hu1 g4 gqa gqf hqa1 hqa2 hqa4 hc0 hc1 hc2 hc3 hc4 hc5 hc6 hlook hak hgk hmb hx0 hx1 hx2 hy0 hy1 hy2 hqxa hqm hqxw
 have hwr:IntKind.i64.wrap (2*(Mn:Int))=2*(Mn:Int):=IntWalk.i64_in _ (by omega)
 go_region_held3 (fun w'=>w'.cell? ⟨h,2,none⟩=some (.pointer (some ⟨cb,0,none⟩))∧w'.cell? ⟨h,6,none⟩=some (.map (some mb))∧(Builtin.len_ #[201] 3 #[.map (some mb)]).run Tryz.prog w'=.ok (.int .i64 Mn) w')
  (first | go_keep | exact ⟨hd2,hd6,hlen⟩)
  ((go_at_call 143;refine (CSp.lenI _ _ _ _ _ _ (HC.out.upd ((Upd.refl [] w2).drew) (by simp))).mono ?_;rintro e w' ⟨rfl,rfl⟩))
 clear hwr
 have hmn2:(liv (dropS1 S x k).al (dropS1 S x k).cs).length=Mn:=by
  have e1:=(HI.out.core.drop1 HK.out).mpp.length_eq
  rw [List.length_map] at e1
  rw [←e1]
  exact HMN.out
 have HMN2:=Lib.hid hmn2
 have hI3:IsHalf w2.drew (.pointer (some ⟨h,0,none⟩)) F (dropS1 S x k):=HI2.out.upd ((Upd.refl [] w2).drew) (by simp)
 have hH3:HalfAt w2.drew h cb mb tv (.slice (some ⟨qa,0,none⟩) S.al.length Ca) lvv ps Fc Fs (dropS1 S x k):=HH2.out.upd ((Upd.refl [] w2).drew) (by intro P hP y hy;simp)
 have hU3:Upd F W w2.drew:=HU.out.drew
 have HI3:=Lib.hid hI3
 have HH3:=Lib.hid hH3
 have HU3:=Lib.hid hU3
 have hlk':(dropS1 S x k).lv[k]? = some i:=hlk
 have htr':(dropS1 S x k).tr[i]? = some (some (N,live S.al (bucketOf S.cs i))):=htr
 obtain ⟨pt,Ft,hpt,hFt,hbt⟩:=hH3.yes i _ htr'
 obtain ⟨At,Ct,htv⟩:∃A C,tv=.slice A ps.length C:=own_form hH3.trow
 obtain ⟨Al,Cl,hlv⟩:∃A C,lvv=.slice A S.lv.length C:=own_form hH3.lrow
 subst htv hlv
 have hil:i<ps.length:=(List.getElem?_eq_some_iff.1 hpt).1
 have hkl:k<S.lv.length:=(List.getElem?_eq_some_iff.1 hlk).1
 obtain ⟨pa,pv,hpe⟩:=hbt.some
 subst hpe
 obtain ⟨qt,rfl,hqt1,hqt1b,hqt2,hqt4⟩:=tree_at hH3.trow hpt
 unfold tp at hqt1
 unfold tq at hqt1b
 simp only [Option.map_some] at hqt1 hqt1b
 have hv0:w2.drew.cell? ⟨qx,0,none⟩=some (.int .i64 x.lo):=hz0
 have hv1:w2.drew.cell? ⟨qx,1,none⟩=some (.int .i64 x.hi):=hz1
 have hv2:w2.drew.cell? ⟨qx,2,none⟩=some (.int .u32 (x.id:Int)):=hz2
 obtain ⟨ql,rfl,hql1,hql2,hql3,hql4⟩:=own_at hH3.lrow (k:=k) (by exact hkl) (u:=.int .i64 (i:Int)) (by show ((S.lv.map fun (n:Nat)=>Value.int .i64 (n:Int))[k]?)=_;rw [List.getElem?_map,hlk];rfl)
 obtain ⟨he0,he1,he2,he3,he4,he5,he6,_⟩:=hH3.cell
 obtain ⟨LL,hLe⟩:∃L,live S.al (bucketOf S.cs i)=L:=⟨_,rfl⟩
 rw [hLe] at hbt
 have HBT:=Lib.hid hbt
 have HFT:=Lib.hid hFt
 have HPT:=Lib.hid hpt
 have HLK:=Lib.hid hlk
 have HTR:=Lib.hid htr
 have HLE:=Lib.hid hLe
 clear hI3 hH3 hU3 hmn2 hlen hlk' htr' htr hlk hFt hpt hLe hbt hz0 hz1 hz2 hd0 hd1 hd2 hd3 hd4 hd5 hd6 hi hib hyb
 by_cases hlt:2*Mn<S.cs.length
 ·clear hqt1 hqt1b hqt2 hqt4 hql1 hql2 hql3 hql4 hil hkl
  go_wp2_with fail
  refine (anewH _ F _ _ HI3.out (HI.out.core.drop1 HK.out) (by show S.cs.length<100000;exact hl) hw HGD.out.1 HGD.out.2).mono ?_
  rintro e w' ⟨rfl,hst⟩
  have hfin:HStep w w' (.pointer (some ⟨h,0,none⟩)) F (dropS S x k):=by
   have e:dropS S x k=anewS (dropS1 S x k):=by unfold dropS;rw [HMN.out,if_pos hlt]
   rw [e]
   exact HStep.next (HU0.out.mono (by simp)) (fun y hy=>.inl hy) (HStep.next HU3.out (fun y hy=>.inl hy) hst)
  have HFIN:=Lib.hid hfin
  clear hst hfin
  go_wp2_with fail
  go_ret2
  refine ⟨?_,HFIN.out⟩
  unfold dropN
  rw [HMN.out,if_pos hlt,←HMN2.out]
  rfl
 ·unfold fnDrop at he1
  have hpi:(parts h Fc (.slice (some ⟨qt,0,none⟩) ps.length Ct) (.slice (some ⟨qa,0,none⟩) S.al.length Ca) (.slice (some ⟨ql,0,none⟩) S.lv.length Cl) mb Fs)[i+6]? = some Ft:=by simpa [parts] using HFT.out
  have hnh:h∉Ft:=fun hc=>HH3.out.dis (i:=0) (j:=i+6) rfl hpi (by omega) h (by simp) hc
  have hnt:qt∉Ft:=fun hc=>HH3.out.dis (i:=2) (j:=i+6) rfl hpi (by omega) qt (by simp [blk]) hc
  have hnl:ql∉Ft:=fun hc=>HH3.out.dis (i:=4) (j:=i+6) rfl hpi (by omega) ql (by simp [blk]) hc
  have hhs:h<w2.drew.drew.heap.size:=HH3.out.lt _ (List.mem_of_getElem? (i:=0) rfl) h (by simp)
  have hnx:qx∉Ft:=fun hc=>HNX.out (by rw [HF.out];exact mem_part (i:=i+6) hpi hc)
  have hqxd:qx<w2.drew.drew.heap.size:=hqx2
  have HPI:=Lib.hid hpi
  clear hpi
  have hil0:(i:Int)<(ps.length:Int):=by omega
  have hi0:(0:Int)≤(i:Int):=Int.natCast_nonneg _
  have hkl1:(k:Int)<(S.lv.length:Int):=by omega
  go_upto_region 10 with fail
  go_region_held3 (fun w'=>w'.cell? ⟨h,1,none⟩=some (.func (.func 80) #[] #[])∧w'.cell? ⟨h,3,none⟩=some (.slice (some ⟨qt,0,none⟩) ps.length Ct)∧w'.cell? ⟨h,5,none⟩=some (.slice (some ⟨ql,0,none⟩) S.lv.length Cl)∧w'.cell? ⟨ql,k,none⟩=some (.int .i64 (i:Int))∧w'.cell? ⟨qt,i*2,none⟩=some (.pointer (some ⟨pa,0,none⟩))∧w'.cell? ⟨qt,i*2+1,none⟩=some (.pointer (some ⟨pv,0,none⟩))∧w'.cell? ⟨qx,0,none⟩=some (.int .i64 x.lo)∧w'.cell? ⟨qx,1,none⟩=some (.int .i64 x.hi)∧w'.cell? ⟨qx,2,none⟩=some (.int .u32 (x.id:Int)))
   (first | (exact ⟨he1,he3,he5,hql1,hqt1,hqt1b,hv0,hv1,hv2⟩) | (exact ⟨(hu'.cell (p:=⟨h,1,none⟩) hhs hnh).trans he1,(hu'.cell (p:=⟨h,3,none⟩) hhs hnh).trans he3,(hu'.cell (p:=⟨h,5,none⟩) hhs hnh).trans he5,(hu'.cell (p:=⟨ql,k,none⟩) hql4 hnl).trans hql1,(hu'.cell (p:=⟨qt,i*2,none⟩) hqt4 hnt).trans hqt1,(hu'.cell (p:=⟨qt,i*2+1,none⟩) hqt4 hnt).trans hqt1b,(hu'.cell (p:=⟨qx,0,none⟩) hqxd hnx).trans hv0,(hu'.cell (p:=⟨qx,1,none⟩) hqxd hnx).trans hv1,(hu'.cell (p:=⟨qx,2,none⟩) hqxd hnx).trans hv2⟩) | go_keep)
   ((go_at_call 80;refine (dropT _ pa pv _ Ft x (IsTr.upd HBT.out ((Upd.refl [] w2.drew).drew) (by simp))).mono ?_;rintro e w' ⟨r,rfl,hb',hu'⟩;have HB':=Lib.hid hb';clear hb'))
  have hfin:HStep w w' (.pointer (some ⟨h,0,none⟩)) F (dropS S x k):=by
   have e:dropS S x k=strike (dropS1 S x k) k x:=by unfold dropS;rw [HMN.out,if_neg hlt]
   have e2:strike (dropS1 S x k) k x={ dropS1 S x k with tr:=(dropS1 S x k).tr.set i (some (N,LL.erase x)) }:=by
    unfold strike
    have e3:(dropS1 S x k).lv.getD k 0=i:=by rw [List.getD_eq_getElem?_getD];show (S.lv[k]?).getD 0=i;rw [HLK.out];rfl
    have e4:(dropS1 S x k).tr.getD i none=some (N,LL):=by rw [List.getD_eq_getElem?_getD];show (S.tr[i]?).getD none=_;rw [HTR.out,HLE.out];rfl
    rw [e3,e4];rfl
   rw [e,e2]
   have hu2:Upd Ft w2.drew w':=((Upd.refl Ft w2.drew).drew).trans hu'
   have hb:=HH3.out.bag HPT.out HFT.out HB'.out hu2 (fun x hx=>.inl hx)
   have hFi:∀y∈Ft,y∈F:=fun y hy=>by rw [HF.out];exact mem_part (i:=i+6) HPI.out hy
   refine HStep.next (HU0.out.mono (by simp)) (fun y hy=>.inl hy) (HStep.next HU3.out (F1:=F) (fun y hy=>.inl hy) ⟨_,⟨h,cb,mb,_,_,_,ps,Fc,_,rfl,hb,rfl⟩,hu2.mono (fun y hy=>.inl (hFi y hy)),fun y hy=>?_⟩)
   have e5:parts h Fc (.slice (some ⟨qt,0,none⟩) ps.length Ct) (.slice (some ⟨qa,0,none⟩) S.al.length Ca) (.slice (some ⟨ql,0,none⟩) S.lv.length Cl) mb (Fs.set i Ft)=(parts h Fc (.slice (some ⟨qt,0,none⟩) ps.length Ct) (.slice (some ⟨qa,0,none⟩) S.al.length Ca) (.slice (some ⟨ql,0,none⟩) S.lv.length Cl) mb Fs).set (i+6) Ft:=by simp [parts]
   rw [e5] at hy
   rcases flat_set hy with hy | hy
   ·exact .inl (by rw [HF.out];exact hy)
   ·exact .inl (hFi y hy)
  have HFIN:=Lib.hid hfin
  clear hfin hu'
  go_wp2_with fail
  go_ret2
  refine ⟨?_,HFIN.out⟩
  unfold dropN
  rw [HMN.out,if_neg hlt]
  rfl
end Go.Proofs.YtkbaaonchdeneaaGreat.HSp
namespace Go.Proofs.YtkbaaonchdeneaaGreat.HSp
open Go.RowKit
def S00:HS Sp:={ cs:=[],al:=[],lv:=[],tr:=[],mp:=[],wk:=0 }
theorem inv00:HInv S00 where
 nums:=by simp [S00]
 lt:=by simp [S00]
 lvl:=rfl
 mpp:=by simp [S00,liv]
 keys:=by simp [S00]
 trees:=by
  intro i hi
  have:bitsN ([]:List (Sp×Nat)).length=0:=by decide
  rw [show S00.cs = [] from rfl,this] at hi
  omega
 levs:=by
  intro i hi
  have:bitsN ([]:List (Sp×Nat)).length=0:=by decide
  rw [show S00.cs = [] from rfl,this] at hi
  omega
 trl:=by simp [S00]
theorem half_made {w w1:World} {cb:Nat} {Fc:List Nat} (h1:IsCarry CSp.KI w1 cb Fc [] 0 0) (hu:Upd [] w w1) (hF:∀x∈Fc,w.heap.size≤x) :
 ∃F,IsHalf ((w1.alloc (.map #[] 0)).alloc (.cells #[fnBuild,fnDrop,.pointer (some ⟨cb,0,none⟩),.slice none 0 0,.slice none 0 0,.slice none 0 0,.map (some w1.heap.size)] 203)) (.pointer (some ⟨w1.heap.size+1,0,none⟩)) F S00∧
  Upd [] w ((w1.alloc (.map #[] 0)).alloc (.cells #[fnBuild,fnDrop,.pointer (some ⟨cb,0,none⟩),.slice none 0 0,.slice none 0 0,.slice none 0 0,.map (some w1.heap.size)] 203))∧∀x∈F,w.heap.size≤x:=by
 have hcl:=h1.lt
 have hu2:Upd [] w1 ((w1.alloc (.map #[] 0)).alloc (.cells #[fnBuild,fnDrop,.pointer (some ⟨cb,0,none⟩),.slice none 0 0,.slice none 0 0,.slice none 0 0,.map (some w1.heap.size)] 203)):=((Upd.refl _ _).alloc _).alloc _
 refine ⟨_,⟨w1.heap.size+1,cb,w1.heap.size,.slice none 0 0,.slice none 0 0,.slice none 0 0,[],Fc,[],rfl,?_,rfl⟩,hu.trans hu2,?_⟩
 ·refine ⟨?_,?_,World.ownsRow_nil _ _ _ _,World.ownsRow_nil _ _ _ _,World.ownsRow_nil _ _ _ _,?_,rfl,rfl,by simp [S00],by simp [S00],?_⟩
  ·have:=heap_alloc_new (w1.alloc (.map #[] 0)) (.cells #[fnBuild,fnDrop,.pointer (some ⟨cb,0,none⟩),.slice none 0 0,.slice none 0 0,.slice none 0 0,.map (some w1.heap.size)] 203)
   simpa using this
  ·have:=h1.upd hu2 (by simp)
   exact this
  ·exact (MSp.MapAt.made w1).upd ((Upd.refl [] _).alloc _) (by simp)
  ·simp only [parts,blk,List.pairwise_cons,List.mem_cons,List.not_mem_nil,or_false,List.Pairwise.nil,and_true]
   refine ⟨?_,?_,?_,?_,?_,by simp⟩
   ·rintro P (rfl | rfl | rfl | rfl | rfl) x hx hc
    ·simp at hx;subst hx;have:=hcl _ hc;omega
    ·simp at hc
    ·simp at hc
    ·simp at hc
    ·simp at hx hc;omega
   ·rintro P (rfl | rfl | rfl | rfl) x hx hc
    ·simp at hc
    ·simp at hc
    ·simp at hc
    ·simp at hc;have:=hcl _ hx;omega
   ·intro P _ x hx;simp at hx
   ·intro P _ x hx;simp at hx
   ·intro P _ x hx;simp at hx
 ·intro x hx
  have hs:=hu.size
  simp [parts,blk] at hx
  rcases hx with rfl | hx | rfl
  ·omega
  ·exact hF x hx
  ·omega
theorem newH (w:World) :
 Calls Tryz.prog 78 #[fnBuild,fnDrop] w fun e w'=>∃b F,e=.returned (.pointer (some ⟨b,0,none⟩))∧IsHalf w' (.pointer (some ⟨b,0,none⟩)) F S00∧Upd [] w w'∧∀x∈F,w.heap.size≤x:=by
 unfold fnBuild fnDrop
 have hmm:=@run_makeMap Tryz.prog
 have e1:∀w,(binOp .eql 126 (.func (.func 79) #[] #[]) .nilFunc).run Tryz.prog w=.ok (.bool false) w:=fun w=>rfl
 have e2:∀w,(binOp .eql 127 (.func (.func 80) #[] #[]) .nilFunc).run Tryz.prog w=.ok (.bool false) w:=fun w=>rfl
 go_enter Tryz.func78,Tryz.ntmps78
 go_wp2_with fail
 refine (CSp.newI w).mono ?_
 rintro e w1 ⟨cb,rfl,hc,hb,hu⟩
 have hm:=half_made hc hu (by simp;exact hb)
 obtain ⟨F,hF1,hF2,hF3⟩:=hm
 have HF1:=Lib.hid hF1
 have HF2:=Lib.hid hF2
 have HF3:=Lib.hid hF3
 clear hF1 hF2 hF3 hc hu
 go_wp2_with fail
 go_ret
 exact ⟨_,F,rfl,HF1.out,HF2.out,HF3.out⟩
end Go.Proofs.YtkbaaonchdeneaaGreat.HSp
namespace Go.Proofs.YtkbaaonchdeneaaGreat.PSp
open Go.RowKit
open Go.Proofs.YtkbaaonchdeneaaGreat.HSp (IsHalf HStep)
open Go.Proofs.YtkbaaonchdeneaaGreat.Nm (IsNm NmStep Disj pw_at pw_set mem_part flat_set)
open Go.Proofs.YtkbaaonchdeneaaGreat.Ps
abbrev PSS:=PS Sp
def partsP (q:Nat) (Fh Fd:List Nat) (av:Value):List (List Nat):=[[q],Fh,Fd,blk av]
structure PsAt (w:World) (q:Nat) (hv dv av:Value) (Fh Fd:List Nat) (S:PSS):Prop where
 head:HcC w q #[hv,dv,av] 84
 half:IsHalf w hv Fh S.H
 dir:IsNm w dv Fd S.N
 all:KSp.row w 0 av S.all
 apart:(partsP q Fh Fd av).Pairwise Disj
def IsPs (w:World) (tv:Value) (F:List Nat) (S:PSS):Prop:=∃q hv dv av Fh Fd,tv=.pointer (some ⟨q,0,none⟩)∧PsAt w q hv dv av Fh Fd S∧F=(partsP q Fh Fd av).flatten
variable {w w':World} {q:Nat} {hv dv av:Value} {Fh Fd:List Nat} {S:PSS}
theorem PsAt.lt (H:PsAt w q hv dv av Fh Fd S):∀P∈partsP q Fh Fd av,∀x∈P,x<w.heap.size:=by
 intro P hP x hx
 simp only [partsP,List.mem_cons,List.not_mem_nil,or_false] at hP
 rcases hP with rfl | rfl | rfl | rfl
 ·simp at hx;subst hx;exact H.head.lt
 ·exact H.half.lt x hx
 ·exact H.dir.lt x hx
 ·exact own_lt H.all x hx
theorem PsAt.upd (H:PsAt w q hv dv av Fh Fd S) {G:List Nat} (hu:Upd G w w') (hd:∀P∈partsP q Fh Fd av,Disj P G):PsAt w' q hv dv av Fh Fd S:=
 ⟨H.head.upd hu (hd [q] (by simp [partsP]) q (by simp)),H.half.upd hu (hd Fh (by simp [partsP])),H.dir.upd hu (hd Fd (by simp [partsP])),own_upd H.all hu (hd (blk av) (by simp [partsP])),H.apart⟩
theorem PsAt.dis (H:PsAt w q hv dv av Fh Fd S) {i j:Nat} {P Q:List Nat} (hi:(partsP q Fh Fd av)[i]? = some P) (hj:(partsP q Fh Fd av)[j]? = some Q) (hne:i≠j):Disj P Q:=pw_at H.apart hi hj hne
theorem IsPs.upd {tv:Value} {F G:List Nat} (H:IsPs w tv F S) (hu:Upd G w w') (hd:∀x∈F,x∉G):IsPs w' tv F S:=by
 obtain ⟨q,hv,dv,av,Fh,Fd,rfl,H,rfl⟩:=H
 exact ⟨q,hv,dv,av,Fh,Fd,rfl,H.upd hu fun P hP x hx=>hd x (List.mem_flatten.2 ⟨P,hP,hx⟩),rfl⟩
theorem IsPs.lt {tv:Value} {F:List Nat} (H:IsPs w tv F S):∀x∈F,x<w.heap.size:=by
 obtain ⟨q,hv,dv,av,Fh,Fd,rfl,H,rfl⟩:=H
 intro x hx
 obtain ⟨P,hP,hx⟩:=List.mem_flatten.1 hx
 exact H.lt P hP x hx
def PStep (w w':World) (tv:Value) (F:List Nat) (S:PSS):Prop:=∃F',IsPs w' tv F' S∧Upd F w w'∧∀x∈F',x∈F∨w.heap.size≤x
theorem PStep.ahead {w0:World} {tv:Value} {F:List Nat} (H:PStep w w' tv F S) (hu:Upd [] w0 w):PStep w0 w' tv F S:=by
 obtain ⟨F',h,h1,h2⟩:=H
 exact ⟨F',h,(hu.mono (by simp)).trans h1,fun x hx=>(h2 x hx).imp id fun g=>Nat.le_trans hu.size g⟩
theorem PsAt.halves (H:PsAt w q hv dv av Fh Fd S) {S':HS Sp} (hs:HStep w w' hv Fh S'):∃Fh',PsAt w' q hv dv av Fh' Fd { S with H:=S' }∧Upd Fh w w'∧∀x∈Fh',x∈Fh∨w.heap.size≤x:=by
 obtain ⟨F',h,hu,hF⟩:=hs
 have d:∀(j:Nat) (Q:List Nat),j≠1→(partsP q Fh Fd av)[j]? = some Q→Disj Q Fh:=fun j Q hne hj=>H.dis hj (j:=1) rfl hne
 exact ⟨F',⟨H.head.upd hu (d 0 [q] (by omega) rfl q (by simp)),h,H.dir.upd hu (d 2 _ (by omega) rfl),own_upd H.all hu (d 3 _ (by omega) rfl),pw_set (i:=1) H.apart H.lt rfl hF⟩,hu,hF⟩
theorem PsAt.dirs (H:PsAt w q hv dv av Fh Fd S) {S':Nm.NS} (hs:NmStep w w' dv Fd S'):∃Fd',PsAt w' q hv dv av Fh Fd' { S with N:=S' }∧Upd Fd w w'∧∀x∈Fd',x∈Fd∨w.heap.size≤x:=by
 obtain ⟨F',h,hu,hF⟩:=hs
 have d:∀(j:Nat) (Q:List Nat),j≠2→(partsP q Fh Fd av)[j]? = some Q→Disj Q Fd:=fun j Q hne hj=>H.dis hj (j:=2) rfl hne
 exact ⟨F',⟨H.head.upd hu (d 0 [q] (by omega) rfl q (by simp)),H.half.upd hu (d 1 _ (by omega) rfl),h,own_upd H.all hu (d 3 _ (by omega) rfl),pw_set (i:=2) H.apart H.lt rfl hF⟩,hu,hF⟩
theorem PsAt.kept (H:PsAt w q hv dv av Fh Fd S) {av':Value} {l:List Sp} (hu:Upd (q::blk av) w w') (hh:HcC w' q #[hv,dv,av'] 84) (hr:KSp.row w' 0 av' l) (hF:∀x∈blk av',x∈blk av∨w.heap.size≤x):PsAt w' q hv dv av' Fh Fd { S with all:=l }:=by
 have d:∀(j:Nat) (Q:List Nat),j≠0→j≠3→(partsP q Fh Fd av)[j]? = some Q→Disj Q (q::blk av):=by
  intro j Q h0 h3 hj x hx hc
  rcases List.mem_cons.1 hc with rfl | hc
  ·exact H.dis hj (j:=0) rfl h0 x hx (by simp)
  ·exact H.dis hj (j:=3) rfl h3 x hx hc
 exact ⟨hh,H.half.upd hu (d 1 _ (by omega) (by omega) rfl),H.dir.upd hu (d 2 _ (by omega) (by omega) rfl),hr,pw_set (i:=3) H.apart H.lt rfl hF⟩
theorem IsHalf.ptr {hv:Value} {F:List Nat} {S:HS Sp} (H:IsHalf w hv F S):∃b,hv=.pointer (some ⟨b,0,none⟩):=by
 obtain ⟨h,cb,mb,tv,av,lvv,ps,Fc,Fs,rfl,-⟩:=H
 exact ⟨h,rfl⟩
theorem IsNm.ptr {dv:Value} {F:List Nat} {S:Nm.NS} (H:IsNm w dv F S):∃b,dv=.pointer (some ⟨b,0,none⟩):=by
 obtain ⟨q,cb,vb,vp,va,vs,bk,Fc,rfl,-⟩:=H
 exact ⟨q,rfl⟩
theorem noneP (q h:Nat) (w:World) (h0:w.cell? ⟨q,0,none⟩=some (.pointer (some ⟨h,0,none⟩))) :
 Calls Tryz.prog 81 #[.pointer (some ⟨q,0,none⟩)] w fun e w'=>e=.returned (.bool false)∧w=w':=by
 go_enter Tryz.func81,Tryz.ntmps81
 go_wp2_with fail
 go_ret
 exact ⟨rfl,rfl⟩
theorem lenP (tv:Value) (F:List Nat) (S:PSS) (w:World) (H:IsPs w tv F S) (I:PInv Sp.id S) :
 Calls Tryz.prog 33 #[tv] w fun e w'=>e=.returned (.int .i64 ((lvs S).length:Nat))∧w=w':=by
 obtain ⟨q,hv,dv,av,Fh,Fd,rfl,H,hF⟩:=H
 obtain ⟨h,rfl⟩:=IsHalf.ptr H.half
 obtain ⟨h0,-⟩:=H.head.cells3
 have HN:=Lib.hid (noneP q h w h0)
 have hl:=HSp.lenH _ _ _ w H.half
 rw [lvs_len I] at hl
 have HL:=Lib.hid hl
 clear H hF hl I
 go_enter Tryz.func33,Tryz.ntmps33
 go_wp2_with fail
 (with_reducible refine HN.out.mono ?_)
 rintro e w' ⟨rfl,rfl⟩
 go_wp2_with fail
 (with_reducible refine HL.out.mono ?_)
 rintro e w' ⟨rfl,rfl⟩
 go_wp2_with fail
 go_ret
 exact ⟨rfl,rfl⟩
theorem storedP (tv:Value) (F:List Nat) (S:PSS) (w:World) (H:IsPs w tv F S) :
 Calls Tryz.prog 42 #[tv] w fun e w'=>e=.returned (.int .i64 (S.H.cs.length:Nat))∧w=w':=by
 obtain ⟨q,hv,dv,av,Fh,Fd,rfl,H,hF⟩:=H
 obtain ⟨h,rfl⟩:=IsHalf.ptr H.half
 obtain ⟨h0,-⟩:=H.head.cells3
 have HN:=Lib.hid (noneP q h w h0)
 have HL:=Lib.hid (HSp.storedH _ _ _ w H.half)
 clear H hF
 go_enter Tryz.func42,Tryz.ntmps42
 go_wp2_with fail
 (with_reducible refine HN.out.mono ?_)
 rintro e w' ⟨rfl,rfl⟩
 go_wp2_with fail
 (with_reducible refine HL.out.mono ?_)
 rintro e w' ⟨rfl,rfl⟩
 go_wp2_with fail
 go_ret
 exact ⟨rfl,rfl⟩
theorem workP (tv:Value) (F:List Nat) (S:PSS) (w:World) (H:IsPs w tv F S) :
 Calls Tryz.prog 41 #[tv] w fun e w'=>e=.returned (.int .i64 (S.H.wk:Nat))∧w=w':=by
 obtain ⟨q,hv,dv,av,Fh,Fd,rfl,H,hF⟩:=H
 obtain ⟨h,rfl⟩:=IsHalf.ptr H.half
 obtain ⟨h0,-⟩:=H.head.cells3
 have HN:=Lib.hid (noneP q h w h0)
 have HL:=Lib.hid (HSp.workH _ _ _ w H.half)
 clear H hF
 go_enter Tryz.func41,Tryz.ntmps41
 go_wp2_with fail
 (with_reducible refine HN.out.mono ?_)
 rintro e w' ⟨rfl,rfl⟩
 go_wp2_with fail
 (with_reducible refine HL.out.mono ?_)
 rintro e w' ⟨rfl,rfl⟩
 go_wp2_with fail
 go_ret
 exact ⟨rfl,rfl⟩
theorem newP (w:World) :
 Calls Tryz.prog 26 #[] w fun e w'=>∃tv F,e=.returned tv∧IsPs w' tv F P0∧(∀x∈F,w.heap.size≤x)∧Upd [] w w':=by
 have hh:=HSp.newH w
 unfold HSp.fnBuild HSp.fnDrop at hh
 have HH:=Lib.hid hh
 clear hh
 go_enter Tryz.func26,Tryz.ntmps26
 go_wp2_with fail
 (with_reducible refine HH.out.mono ?_)
 rintro e w1 ⟨b,Fh,rfl,h1,u1,g1⟩
 have H1:=Lib.hid (And.intro h1 (And.intro u1 g1))
 clear h1 u1 g1
 go_wp2_with fail
 (with_reducible refine (Nm.newN w1).mono ?_)
 rintro e w2 ⟨dv,Fd,rfl,h2,g2,u2⟩
 obtain ⟨d,rfl⟩:=IsNm.ptr h2
 have H2:=Lib.hid (And.intro h2 (And.intro u2 g2))
 clear h2 u2 g2
 go_wp2_with fail
 go_ret
 obtain ⟨h1,u1,g1⟩:=H1.out
 obtain ⟨h2,u2,g2⟩:=H2.out
 obtain ⟨W,hW,hu3,hq⟩:=one_newC w2 #[.pointer (some ⟨b,0,none⟩),.pointer (some ⟨d,0,none⟩),.slice none 0 0] 84
 rw [←hW]
 have l1:=(h1.upd u2 (by simp)).lt
 have l2:=h2.lt
 refine ⟨_,_,rfl,⟨w2.heap.size,_,_,.slice none 0 0,Fh,Fd,rfl,⟨hq,(h1.upd u2 (by simp)).upd hu3 (by simp),h2.upd hu3 (by simp),World.ownsRow_nil _ _ _ _,?_⟩,rfl⟩,?_,(u1.trans u2).trans hu3⟩
 ·simp only [partsP,blk,List.pairwise_cons,List.mem_cons,List.not_mem_nil,or_false,List.Pairwise.nil,and_true]
  refine ⟨?_,?_,?_,by simp⟩
  ·rintro P (rfl | rfl | rfl) x hx hc
   ·simp at hx;subst hx;have:=l1 _ hc;omega
   ·simp at hx;subst hx;have:=l2 _ hc;omega
   ·simp at hc
  ·rintro P (rfl | rfl) x hx hc
   ·have e1:=h1.lt x hx;have e2:=g2 x hc;omega
   ·simp at hc
  ·intro P hP x hx hc
   subst hP
   simp at hc
 ·intro x hx
  have s1:=u1.size
  have s2:=u2.size
  simp [partsP,blk] at hx
  rcases hx with rfl | hx | hx
  ·omega
  ·exact g1 x hx
  ·have:=g2 x hx;omega
end Go.Proofs.YtkbaaonchdeneaaGreat.PSp
