/- Half.Drop. -/
import Derived.Test.YtkhgglafnjfiaaaHalfN
import Derived.Deep.RegionLaw
import Derived.Deep.DrawnRows
import Derived.IntWalk
import Derived.StillTailTactics
namespace Go.Proofs.Ytkhgglafnjfiaaa
open Go.RowKit
attribute [local go_sem ↓] Go.wp_at_zero Go.wp_at_succ

set_option maxRecDepth 100000 in
set_option maxHeartbeats 1000000 in
theorem drop_none (hv : Value) (F : List Nat) (S : HS) (x : Int) (w : World) (H : IsHalf w hv F S) (hx : (Lit.int .i64 x).wf = true) (hk : S.mp.lookup x = none) :
    Calls Try.prog 39 #[hv, .int .i64 x] w fun e w' => e = .returned (.tuple #[.int .i64 0, .bool false]) ∧ w = w' := by
  have HO := Lib.hid H
  obtain ⟨h, cb, mb, tv, av, lvv, ps, Fc, Fs, rfl, H, hF⟩ := H
  obtain ⟨_, _, _, _, _, _, hc6, _⟩ := H.cell
  have hlook := H.mapp.look hx
  rw [hk] at hlook
  clear H hF
  go_enter Try.func39, Try.ntmps39
  go_wp2_with fail
  refine (none22 _ _ _ _ HO.out).mono ?_
  rintro e w' ⟨rfl, rfl⟩
  go_wp2_with fail
  go_ret2
  exact ⟨rfl, rfl⟩

/-- How many are placed by a Drop. -/
def dropN (S : HS) (x : Int) : Nat := if 2 * (mdel S.mp x).length < S.cs.length then (mdel S.mp x).length else 0

set_option maxRecDepth 100000 in
set_option maxHeartbeats 2000000 in
theorem drop_there (hv : Value) (F : List Nat) (S : HS) (x : Int) (k : Nat) (w : World) (H : IsHalf w hv F S) (I : HInv S) (hx : (Lit.int .i64 x).wf = true) (hk : S.mp.lookup x = some (k : Int)) (hl : S.cs.length < 100000) (hw : S.wk < 1099511627776) :
    Calls Try.prog 39 #[hv, .int .i64 x] w fun e w' =>
      e = .returned (.tuple #[.int .i64 (dropN S x : Nat), .bool true]) ∧ HStep w w' hv F (dropS S x k) := by
  have HO := Lib.hid H
  obtain ⟨h, cb, mb, tv, av, lvv, ps, Fc, Fs, rfl, H, hF⟩ := H
  obtain ⟨hc0, hc1, hc2, hc3, hc4, hc5, hc6, hfr⟩ := H.cell
  obtain ⟨Aa, Ca, hav⟩ : ∃ A C, av = .slice A S.al.length C := own_form H.arow
  subst hav
  obtain ⟨i, hi, hib, hlk, hak, htr⟩ := I.at hk
  have hyb : k < S.al.length := by
    obtain ⟨ya, hya, hyb⟩ := I.core.num hk
    omega
  have hgk : S.al[k]? = some true := by
    rw [List.getElem?_eq_getElem (by omega)]
    rw [List.getD_eq_getElem?_getD, List.getElem?_eq_getElem (by omega)] at hak
    simpa using hak
  obtain ⟨qa, rfl, hqa1, hqa2, hqa3, hqa4⟩ := own_at H.arow (k := k) (by omega) (u := .bool true) (by rw [List.getElem?_map, hgk]; rfl)
  have hlook := H.mapp.look hx
  rw [hk] at hlook
  have hhw : h < w.heap.size := lt_of_block H.head
  have HH := Lib.hid H
  have HI := Lib.hid I
  have HF := Lib.hid hF
  have HK := Lib.hid hk
  clear H hF I hk hfr
  go_enter Try.func39, Try.ntmps39
  go_wp2_with fail
  refine (none22 _ _ _ _ HO.out).mono ?_
  rintro e w' ⟨rfl, rfl⟩
  go_upto_region 6 with fail
  go_wp2_with (refine wpList_mdel _ rfl _ _ rfl mb S.mp x rfl rfl HH.out.mapp hx ?_; intro w1 hm1 hu1
               have g4 := (hu1.cell (p := ⟨h, 4, none⟩) hhw (by simp; exact fun e => HH.out.dis (i := 0) (j := 5) rfl rfl (by omega) h (by simp) (by simp [e]))).trans hc4
               have gqa := (hu1.cell (p := ⟨qa, k, none⟩) hqa4 (by simp; exact fun e => HH.out.dis (i := 3) (j := 5) rfl rfl (by omega) qa (by simp [blk]) (by simp [e]))).trans hqa1
               have gqf := (hu1.frozen (p := ⟨qa, k, none⟩) hqa4 (by simp; exact fun e => HH.out.dis (i := 3) (j := 5) rfl rfl (by omega) qa (by simp [blk]) (by simp [e]))).trans hqa2)
  have hmb : mb ∉ ([] : List Nat) := by simp
  have h2 := (HH.out.map hm1 hu1).dead rfl k false
  have hU : Upd F w (w1.setCell ⟨qa, k, none⟩ (.bool false)) := by
    have hFe := HF.out
    exact (hu1.mono (G := F) (fun y hy => .inl (by rw [hFe]; exact mem_part (i := 5) (P := [mb]) rfl hy))).setCell (p := ⟨qa, k, none⟩) (.inl (by rw [hFe]; exact mem_part (i := 3) (P := [qa]) rfl (by simp))) _
  have hI2 : IsHalf (w1.setCell ⟨qa, k, none⟩ (.bool false)) (.pointer (some ⟨h, 0, none⟩)) F (dropS1 S x k) := ⟨h, cb, mb, _, _, _, ps, Fc, Fs, rfl, h2, HF.out⟩
  obtain ⟨w2, hw2⟩ : ∃ w2, w1.setCell ⟨qa, k, none⟩ (.bool false) = w2 := ⟨_, rfl⟩
  rw [hw2] at h2 hU hI2 ⊢
  obtain ⟨hd0, hd1, hd2, hd3, hd4, hd5, hd6, hdr⟩ := h2.cell
  obtain ⟨Mn, hMn⟩ : ∃ n, (mdel S.mp x).length = n := ⟨_, rfl⟩
  have hmlen := h2.mapp.len
  have hml : Mn ≤ S.cs.length := by
    have e1 := (HI.out.core.drop1 HK.out).mpp.length_eq
    rw [List.length_map] at e1
    have e2 := liv_len (dropS1 S x k).al (dropS1 S x k).cs
    rw [← e1] at e2
    have e3 : (dropS1 S x k).mp.length = Mn := hMn
    have e4 : (dropS1 S x k).cs.length = S.cs.length := rfl
    omega
  have hlen : (Builtin.len_ #[66] 3 #[.map (some mb)]).run Try.prog w2.drew = .ok (.int .i64 (mdel S.mp x).length) w2.drew := h2.mapp.drew.len _
  have HC := Lib.hid h2.car
  have HMN := Lib.hid hMn
  have HU := Lib.hid hU
  have HI2 := Lib.hid hI2
  have HH2 := Lib.hid h2
  have HDR := Lib.hid hdr
  rw [hMn] at hlen
  clear hw2 hMn hU hI2 h2 hdr hmlen hm1 hu1 g4 gqa gqf hqa1 hqa2 hqa4 hc0 hc1 hc2 hc3 hc4 hc5 hc6 hlook hak hgk hmb
  go_upto_region 8 with fail
  have hwr : IntKind.i64.wrap (2 * (Mn : Int)) = 2 * (Mn : Int) := IntWalk.i64_in _ (by omega)
  go_region_held3 (fun w' => w'.cell? ⟨h, 2, none⟩ = some (.pointer (some ⟨cb, 0, none⟩)) ∧ w'.cell? ⟨h, 6, none⟩ = some (.map (some mb)) ∧ (Builtin.len_ #[66] 3 #[.map (some mb)]).run Try.prog w' = .ok (.int .i64 Mn) w')
    (first | go_keep | exact ⟨hd2, hd6, hlen⟩)
    ((go_at_call 63; refine (Cel.lenI _ _ _ _ _ _ (HC.out.upd ((Upd.refl [] w2).drew) (by simp))).mono ?_; rintro e w' ⟨rfl, rfl⟩))
  clear hwr
  have hmn2 : (liv (dropS1 S x k).al (dropS1 S x k).cs).length = Mn := by
    have e1 := (HI.out.core.drop1 HK.out).mpp.length_eq
    rw [List.length_map] at e1
    rw [← e1]
    exact HMN.out
  have HMN2 := Lib.hid hmn2
  have hI3 : IsHalf w2.drew (.pointer (some ⟨h, 0, none⟩)) F (dropS1 S x k) := HI2.out.upd ((Upd.refl [] w2).drew) (by simp)
  have hH3 : HalfAt w2.drew h cb mb tv (.slice (some ⟨qa, 0, none⟩) S.al.length Ca) lvv ps Fc Fs (dropS1 S x k) := HH2.out.upd ((Upd.refl [] w2).drew) (by intro P hP y hy; simp)
  have hU3 : Upd F w w2.drew := HU.out.drew
  have HI3 := Lib.hid hI3
  have HH3 := Lib.hid hH3
  have HU3 := Lib.hid hU3
  have hlk' : (dropS1 S x k).lv[k]? = some i := hlk
  have htr' : (dropS1 S x k).tr[i]? = some (some (sortI (live S.al (bucketOf S.cs i)))) := htr
  obtain ⟨pt, Ft, hpt, hFt, hbt⟩ := hH3.yes i _ htr'
  obtain ⟨At, Ct, htv⟩ : ∃ A C, tv = .slice A ps.length C := own_form hH3.trow
  obtain ⟨Al, Cl, hlv⟩ : ∃ A C, lvv = .slice A S.lv.length C := own_form hH3.lrow
  subst htv hlv
  have hil : i < ps.length := (List.getElem?_eq_some_iff.1 hpt).1
  have hkl : k < S.lv.length := (List.getElem?_eq_some_iff.1 hlk).1
  obtain ⟨qt, rfl, hqt1, hqt2, hqt3, hqt4⟩ := own_at hH3.trow (k := i) hil hpt
  obtain ⟨ql, rfl, hql1, hql2, hql3, hql4⟩ := own_at hH3.lrow (k := k) (by exact hkl) (u := .int .i64 (i : Int)) (by show ((S.lv.map fun (n : Nat) => Value.int .i64 (n : Int))[k]?) = _; rw [List.getElem?_map, hlk]; rfl)
  obtain ⟨he0, he1, he2, he3, he4, he5, he6, _⟩ := hH3.cell
  have hLL : (sortI (live S.al (bucketOf S.cs i))).length < 1000000 := by
    have e1 := sortI_len (live S.al (bucketOf S.cs i))
    have e2 := liv_len S.al (bucketOf S.cs i)
    have e3 : (bucketOf S.cs i).length ≤ S.cs.length := by
      rw [bucketOf_len]
      split
      · rename_i hb; exact Nat.ge_two_pow_of_testBit hb
      · omega
    unfold live at e1 ⊢
    rw [List.length_map] at e1
    omega
  obtain ⟨LL, hLe⟩ : ∃ L, sortI (live S.al (bucketOf S.cs i)) = L := ⟨_, rfl⟩
  rw [hLe] at hbt hLL
  obtain ⟨pa, pv, rfl, hpb, hpF⟩ := hbt
  have HBT := Lib.hid (⟨pa, pv, rfl, hpb, hpF⟩ : IsBag w2.drew (.pointer (some ⟨pa, 0, none⟩)) LL Ft)
  have HFT := Lib.hid hFt
  have HPT := Lib.hid hpt
  have HLK := Lib.hid hlk
  have HTR := Lib.hid htr
  have HLE := Lib.hid hLe
  clear hI3 hH3 hU3 hmn2 hlen hlk' htr' htr hlk hFt hpt hLe hpb hpF hd0 hd1 hd2 hd3 hd4 hd5 hd6 hi hib hyb
  by_cases hlt : 2 * Mn < S.cs.length
  · clear hqt1 hqt2 hqt3 hqt4 hql1 hql2 hql3 hql4 hil hkl
    go_wp2_with fail
    refine (anew22 _ F _ _ HI3.out (HI.out.core.drop1 HK.out) (by show S.cs.length < 100000; exact hl) hw).mono ?_
    rintro e w' ⟨rfl, hst⟩
    have hfin : HStep w w' (.pointer (some ⟨h, 0, none⟩)) F (dropS S x k) := by
      have e : dropS S x k = anewS (dropS1 S x k) := by unfold dropS; rw [HMN.out, if_pos hlt]
      rw [e]
      exact HStep.next HU3.out (fun y hy => .inl hy) hst
    have HFIN := Lib.hid hfin
    clear hst hfin
    go_wp2_with fail
    go_ret2
    refine ⟨?_, HFIN.out⟩
    unfold dropN
    rw [HMN.out, if_pos hlt, ← HMN2.out]
    rfl
  · unfold fnDrop at he1
    have hpi : (parts h Fc (.slice (some ⟨qt, 0, none⟩) ps.length Ct) (.slice (some ⟨qa, 0, none⟩) S.al.length Ca) (.slice (some ⟨ql, 0, none⟩) S.lv.length Cl) mb Fs)[i + 6]? = some Ft := by simpa [parts] using HFT.out
    have hnh : h ∉ Ft := fun hc => HH3.out.dis (i := 0) (j := i + 6) rfl hpi (by omega) h (by simp) hc
    have hnt : qt ∉ Ft := fun hc => HH3.out.dis (i := 2) (j := i + 6) rfl hpi (by omega) qt (by simp [blk]) hc
    have hnl : ql ∉ Ft := fun hc => HH3.out.dis (i := 4) (j := i + 6) rfl hpi (by omega) ql (by simp [blk]) hc
    have hhs : h < w2.drew.drew.heap.size := HH3.out.lt _ (List.mem_of_getElem? (i := 0) rfl) h (by simp)
    have HPI := Lib.hid hpi
    clear hpi
    go_upto_region 10 with fail
    go_region_held3 (fun w' => w'.cell? ⟨h, 1, none⟩ = some (.func (.func 38) #[] #[]) ∧ w'.cell? ⟨h, 3, none⟩ = some (.slice (some ⟨qt, 0, none⟩) ps.length Ct) ∧ w'.cell? ⟨h, 5, none⟩ = some (.slice (some ⟨ql, 0, none⟩) S.lv.length Cl) ∧ w'.cell? ⟨ql, k, none⟩ = some (.int .i64 (i : Int)) ∧ w'.cell? ⟨qt, i, none⟩ = some (.pointer (some ⟨pa, 0, none⟩)))
      (first | go_keep | (exact ⟨(hu'.cell (p := ⟨h, 1, none⟩) hhs hnh).trans he1, (hu'.cell (p := ⟨h, 3, none⟩) hhs hnh).trans he3, (hu'.cell (p := ⟨h, 5, none⟩) hhs hnh).trans he5, (hu'.cell (p := ⟨ql, k, none⟩) hql4 hnl).trans hql1, (hu'.cell (p := ⟨qt, i, none⟩) hqt4 hnt).trans hqt1⟩))
      ((go_at_call 38; refine (drop22 _ x LL Ft _ (IsBag.upd HBT.out ((Upd.refl [] w2.drew).drew) (by simp)) hLL).mono ?_; rintro e w' ⟨F', rfl, hb', hu', hF'⟩; have HB' := Lib.hid hb'; have HF' := Lib.hid hF'; clear hb' hF'))
    have hfin : HStep w w' (.pointer (some ⟨h, 0, none⟩)) F (dropS S x k) := by
      have e : dropS S x k = strike (dropS1 S x k) k x := by unfold dropS; rw [HMN.out, if_neg hlt]
      have e2 : strike (dropS1 S x k) k x = { dropS1 S x k with tr := (dropS1 S x k).tr.set i (some (LL.erase x)) } := by
        unfold strike
        have e3 : (dropS1 S x k).lv.getD k 0 = i := by rw [List.getD_eq_getElem?_getD]; show (S.lv[k]?).getD 0 = i; rw [HLK.out]; rfl
        have e4 : (dropS1 S x k).tr.getD i none = some LL := by rw [List.getD_eq_getElem?_getD]; show (S.tr[i]?).getD none = _; rw [HTR.out, HLE.out]; rfl
        rw [e3, e4]; rfl
      rw [e, e2]
      have hu2 : Upd Ft w2.drew w' := ((Upd.refl Ft w2.drew).drew).trans hu'
      have hb := HH3.out.bag HPT.out HFT.out HB'.out hu2 HF'.out
      have hFi : ∀ y ∈ Ft, y ∈ F := fun y hy => by rw [HF.out]; exact mem_part (i := i + 6) HPI.out hy
      refine HStep.next HU3.out (F1 := F) (fun y hy => .inl hy) ⟨_, ⟨h, cb, mb, _, _, _, ps, Fc, _, rfl, hb, rfl⟩, hu2.mono (fun y hy => .inl (hFi y hy)), fun y hy => ?_⟩
      have e5 : parts h Fc (.slice (some ⟨qt, 0, none⟩) ps.length Ct) (.slice (some ⟨qa, 0, none⟩) S.al.length Ca) (.slice (some ⟨ql, 0, none⟩) S.lv.length Cl) mb (Fs.set i F') = (parts h Fc (.slice (some ⟨qt, 0, none⟩) ps.length Ct) (.slice (some ⟨qa, 0, none⟩) S.al.length Ca) (.slice (some ⟨ql, 0, none⟩) S.lv.length Cl) mb Fs).set (i + 6) F' := by simp [parts]
      rw [e5] at hy
      rcases flat_set hy with hy | hy
      · exact .inl (by rw [HF.out]; exact hy)
      · exact (HF'.out y hy).imp (hFi y) id
    have HFIN := Lib.hid hfin
    clear hfin hu'
    go_wp2_with fail
    go_ret2
    refine ⟨?_, HFIN.out⟩
    unfold dropN
    rw [HMN.out, if_neg hlt]
    rfl
end Go.Proofs.Ytkhgglafnjfiaaa
