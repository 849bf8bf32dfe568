/- The walk of HalfTells. Printed by mkhtells.py. -/
import Derived.Test.YtkhgglafnjfiaaaRefDr
import Derived.IntWalk
namespace Go.Proofs.Ytkhgglafnjfiaaa
open Go.RowKit

theorem CelH.kept {w w' : World} {q : Nat} {a b c : Value} {G : List Nat} (h : CelH w q a b c) (hk : Kept G w w') (hq : q ∈ G) : CelH w' q a b c := (hk.2 q hq).trans h

theorem Kept.sees {w w' : World} {G : List Nat} {size n : Nat} {v : Value} {xs : List Value} (hk : Kept G w w') (h : Sees w size v n xs) (hb : ∀ k ∈ blk v, k ∈ G) : Sees w' size v n xs := by
  refine ⟨h.1, ?_⟩
  rcases h.2 with g | ⟨b, o, s, cap, rfl, g2, g3, g4, g5⟩
  · exact .inl g
  · exact .inr ⟨b, o, s, cap, rfl, g2, g3, g4, fun j u hu => (hk.cell (p := ⟨b, o + j, none⟩) (hb b (by simp [blk]))).trans (g5 j u hu)⟩

theorem RefAt.kept {w w' : World} {vL vA : Value} {V : List (Int × Bool)} {G : List Nat} (h : RefAt w vL vA V) (hk : Kept G w w') (h1 : ∀ k ∈ blk vL, k ∈ G) (h2 : ∀ k ∈ blk vA, k ∈ G) : RefAt w' vL vA V := ⟨hk.sees h.1 h1, hk.sees h.2 h2⟩

theorem putS_wk {S : HS} {m : Nat} (O : HOk S m) (x : Int) : (putS S x).wk = S.wk + (if (x, true) ∈ view S then 0 else 2 ^ firstE (setB S.cs)) := by
  unfold putS
  have hh := O.has x
  by_cases hx : (x, true) ∈ view S
  · rw [if_pos (by rw [hh, decide_eq_true hx]), if_pos hx]; rfl
  · rw [if_neg (by rw [hh, decide_eq_false hx]; simp), if_neg hx]; rfl

theorem putN_eq {S : HS} {m : Nat} (O : HOk S m) (x : Int) : putN S x = if (x, true) ∈ view S then 0 else 2 ^ firstE (setB S.cs) := by
  unfold putN
  have hh := O.has x
  by_cases hx : (x, true) ∈ view S
  · rw [if_pos (by rw [hh, decide_eq_true hx]), if_pos hx]
  · rw [if_neg (by rw [hh, decide_eq_false hx]; simp), if_neg hx]

theorem lessN_eq {S : HS} {m : Nat} (O : HOk S m) (x : Int) : lessN S x = (if (x, true) ∈ view S then lessV (view S) x else 0) ∧ (lessS S x).wk = S.wk + (if (x, true) ∈ view S then lessV (view S) x else 0) := by
  have hh := O.has x
  by_cases hx : (x, true) ∈ view S
  · have ht : has S x = true := by rw [hh, decide_eq_true hx]
    obtain ⟨k, hk⟩ := O.look ht
    have e1 : (mdel S.mp x).length = (vAll (vKill (view S) x)).length := by
      have := (O.inv.core.drop1 hk).mp_len
      rw [view_drop1 O.inv.core hk] at this
      exact this
    have hl : lessS S x = dropS S x k := by unfold lessS; rw [if_pos ht, hk]; rfl
    rw [if_pos hx, hl, wk_drop O.inv hk]
    refine ⟨?_, rfl⟩
    unfold lessN lessV
    rw [if_pos ht, e1, view_len]
  · have ht : ¬ has S x = true := by rw [hh, decide_eq_false hx]; simp
    unfold lessN lessS
    rw [if_neg hx, if_neg ht, if_neg ht]
    exact ⟨rfl, rfl⟩

theorem vTrees_few (V : List (Int × Bool)) (h : V.length < 10000) : (vTrees V).length < 1000000 := by
  have := vTreesFrom_len V 0
  have h2 := bitsN_le V.length 20 (by omega)
  unfold vTrees
  omega

theorem vTrees_small (V : List (Int × Bool)) (h : V.length < 10000) : ∀ l ∈ vTrees V, l.length < 1000000 := by
  intro l hl
  unfold vTrees vTreesFrom at hl
  obtain ⟨i, -, rfl⟩ := List.mem_map.1 hl
  rw [sortI_len]
  have h1 := vAll_len (bucketOf V i)
  have h2 := bucket_leV V i
  omega

set_option maxRecDepth 100000 in
set_option maxHeartbeats 16000000 in
theorem halfTells_walk (v : Value) (l : List (Bool × Int)) (w : World) (h : IsOps w v l) (hwf : ∀ o ∈ l, (Lit.int .i64 o.2).wf = true) (hl : l.length ≤ 9223372036854775807) :
    Calls Try.prog 9 #[v] w fun e w' => e = .returned (.bool true) ∧ Below w.heap.size w w' := by
  obtain ⟨Ao, Co, rfl⟩ := h.form
  obtain ⟨i1, hi1, hy0, hy1, hy2⟩ := info_parts info_op
  obtain ⟨n, hn⟩ : ∃ n, min l.length 150 = n := ⟨_, rfl⟩
  have hmn : Value.int .i64 (min (l.length : Int) 150) = Value.int .i64 (n : Int) := by rw [← hn]; congr 1; omega
  obtain ⟨A1, C1, hrun1, hsee1, hblk1⟩ := cut_to (P := Try.prog) Try.underlying55 hi1 hy1 h n (by omega)
  have hs1 : IsOps w (.slice A1 n C1) (l.take n) := by
    have := hsee1 w h
    unfold IsOps
    rw [opEnc_take, List.length_take, Nat.min_eq_left (by omega)]
    exact this
  have hwf1 : ∀ o ∈ l.take n, (Lit.int .i64 o.2).wf = true := fun o ho => hwf o (List.mem_of_mem_take ho)
  have hln : (l.take n).length = n := by rw [List.length_take]; omega
  have hn150 : n ≤ 150 := by omega
  generalize l.take n = os at *
  have HS1 := Lib.hid hs1
  have HWF := Lib.hid hwf1
  have HLN := Lib.hid hln
  have hnew := newW w
  unfold fnBuild fnDrop at hnew
  have HNEW := Lib.hid hnew
  clear hnew h hwf hs1 hwf1 hln hsee1 hblk1 hn
  go_enter Try.func9, Try.ntmps9
  go_wp2_with fail
  refine HNEW.out.mono ?_
  rintro e w1 ⟨b, F, rfl, hH, hu1, hF⟩
  have hL0 := HG.start hH hu1 (fun x hx => (hF x hx).1)
  have hc1 := CelH.new w1 (.slice none 0 0) (.slice none 0 0) (.int .i64 0)
  have hL1 : HG w (w1.alloc (.cells #[.slice none 0 0, .slice none 0 0, .int .i64 0] 74)) (.pointer (some ⟨b, 0, none⟩)) S00 [w1.heap.size] := hL0.write (P := []) ((Upd.refl _ _).alloc _) (by simp) (fun x hx => by simp at hx; subst hx; exact .inr ⟨Nat.le_refl _, by simp⟩)
  have HL1 := Lib.hid (And.intro hL1 hc1)
  clear hL0 hL1 hc1 hH hu1 hF
  go_upto_region 3 with fail
  generalize w1.alloc (.cells #[.slice none 0 0, .slice none 0 0, .int .i64 0] 74) = w2 at HL1 ⊢
  obtain ⟨mp, hmp⟩ : ∃ q, w1.heap.size = q := ⟨_, rfl⟩
  rw [hmp] at HL1 ⊢
  clear hmp
  go_wp2_with fail
  go_loopg [19] n (fun g i wr => ∃ (k : Nat) (S : HS) (vL vA : Value), g + k = n ∧ i = .int .i64 (k : Int) ∧ HG w wr (.pointer (some ⟨b, 0, none⟩)) S (mp :: (blk vL ++ blk vA)) ∧ HOk S k ∧ CelH wr mp vL vA (.int .i64 (S.wk : Int)) ∧ RefAt wr vL vA (view S) ∧ mp ∉ blk vL ∧ mp ∉ blk vA)
  case atStart => exact ⟨0, S00, .slice none 0 0, .slice none 0 0, rfl, rfl, HL1.out.1, ok00, HL1.out.2, ⟨⟨rfl, .inl ⟨rfl, rfl⟩⟩, ⟨rfl, .inl ⟨rfl, rfl⟩⟩⟩, by simp [blk], by simp [blk]⟩
  case round =>
    obtain ⟨k, S, vL, vA, hk, rfl, hL, hO, hC, hR, hM1, hM2⟩ := hrel
    have hkn : k ≤ n := by omega
    have k0 : (0 : Int) ≤ (k : Int) := Int.natCast_nonneg _
    have HK := Lib.hid hk
    have HO := Lib.hid hO
    have HL0 := Lib.hid (And.intro hL (And.intro hC (And.intro hR (And.intro hM1 hM2))))
    clear hk hL hO hC hR hM1 hM2
    by_cases hlt : k < n
    · have hop := HS1.out.upd HL0.out.1.up
      obtain ⟨q, oq, hA1, hcell1, hcell2⟩ := hop.at (k := k) (by rw [HLN.out]; exact hlt)
      subst hA1
      obtain ⟨o, ho⟩ : ∃ o, os[k]'(by rw [HLN.out]; exact hlt) = o := ⟨_, rfl⟩
      have hx : (Lit.int .i64 o.2).wf = true := HWF.out o (by rw [← ho]; exact List.getElem_mem _)
      rw [ho] at hcell1 hcell2
      obtain ⟨d, x⟩ := o
      simp only at hcell1 hcell2 hx
      have b1 : (k : Int) < (n : Int) := by omega
      have HX := Lib.hid hx
      have hua : Upd [] wr (wr.alloc (.cells #[.bool d, .int .i64 x] 62)) := (Upd.refl _ _).alloc _
      have hoc0 : (wr.alloc (.cells #[.bool d, .int .i64 x] 62)).cell? ⟨wr.heap.size, 0, none⟩ = some (.bool d) := by rw [World.cell?_alloc_at _ _ _ _ rfl]; rfl
      have hoc1 : (wr.alloc (.cells #[.bool d, .int .i64 x] 62)).cell? ⟨wr.heap.size, 1, none⟩ = some (.int .i64 x) := by rw [World.cell?_alloc_at _ _ _ _ rfl]; rfl
      have hgq : HG w (wr.alloc (.cells #[.bool d, .int .i64 x] 62)) (.pointer (some ⟨b, 0, none⟩)) S (wr.heap.size :: mp :: (blk vL ++ blk vA)) := HL0.out.1.write (P := []) hua (by simp) (fun y hy => by
        rcases List.mem_cons.1 hy with rfl | hy
        · exact .inr ⟨Nat.le_refl _, by simp⟩
        · exact .inl hy)
      have hcq := HL0.out.2.1.upd0 hua
      have hrq := HL0.out.2.2.1.upd hua
      clear hop ho hx hua
      go_upto_region 6 with fail
      generalize wr.alloc (.cells #[.bool d, .int .i64 x] 62) = wq at hoc0 hoc1 hgq hcq hrq ⊢
      generalize wr.heap.size = ob at hoc0 hoc1 hgq ⊢
      have HGQ := Lib.hid (And.intro hgq (And.intro hcq hrq))
      have hcs := HO.out.cs
      have hvl : (view S).length < 10000 := by rw [view_len]; omega
      have hwk : S.wk < 10000000 := by have := HO.out.wk; omega
      clear hgq hcq hrq hcs
      go_upto_if 24 with fail
      go_cut [7, 8, 9, 10] (fun s7 s8 s9 s10 wc => ∃ (nn : Nat) (did : Bool) (vL' vA' : Value), s7 = .int .i64 (nn : Int) ∧ s8 = .int .i64 (nn : Int) ∧ s9 = .bool did ∧ s10 = .bool did ∧ HG w wc (.pointer (some ⟨b, 0, none⟩)) (opS S d x) (mp :: (blk vL' ++ blk vA')) ∧ CelH wc mp vL' vA' (.int .i64 ((opS S d x).wk : Int)) ∧ RefAt wc vL' vA' (view (opS S d x)) ∧ mp ∉ blk vL' ∧ mp ∉ blk vA')
      case first =>
        cases d
        · go_wp2_with fail
          refine (addG HGQ.out.1 HO.out (by omega) x HX.out).mono ?_
          rintro e w3 ⟨rfl, hg3, hk3⟩
          have hoc1 := (hk3.cell (p := ⟨ob, 1, none⟩) (by simp)).trans hoc1
          have hc3 := HGQ.out.2.1.kept hk3 (by simp)
          have hr3 := HGQ.out.2.2.kept hk3 (fun k hk => by simp [hk]) (fun k hk => by simp [hk])
          obtain ⟨-, hp3, hp1, hp2⟩ := gath_last S.cs (x, S.al.length)
          have hrf := addRef vL vA (view S) S.wk (firstE (setB S.cs)) x w3 hr3 hvl hwk (by rw [view_len]; exact hp1) (by rw [view_len]; exact hp2) (by rw [view_len]; exact hp3)
          obtain ⟨c0, c1, c2, cf⟩ := hc3.cells
          obtain ⟨nn, hnn⟩ : ∃ nn, putN S x = nn := ⟨_, rfl⟩
          obtain ⟨did, hdid⟩ : ∃ did : Bool, (!has S x) = did := ⟨_, rfl⟩
          rw [hnn, hdid]
          have HRF := Lib.hid hrf
          have HG3 := Lib.hid (And.intro hg3 (And.intro hc3 (And.intro hnn hdid)))
          have mpl := hc3.lt
          clear hg3 hc3 hr3 hrf hk3 hoc0 cf hnn hdid
          go_wp2_with fail
          (with_reducible refine HRF.out.mono ?_)
          rintro e w4 ⟨u4, vL', vA', hr4, hn1, hn2, rfl⟩
          have en : (if (x, true) ∈ view S then 0 else 2 ^ firstE (setB S.cs)) = nn := by rw [← HG3.out.2.2.1]; exact (putN_eq HO.out x).symm
          rw [en]
          have ed : (!decide ((x, true) ∈ view S)) = did := by rw [← HG3.out.2.2.2, HO.out.has]
          rw [ed]
          obtain ⟨nv, hnv⟩ : ∃ nv, (vPut (view S) x).length = nv := ⟨_, rfl⟩
          obtain ⟨AL, CL, AA, CA, e1, e2⟩ := hr4.form
          rw [hnv] at e1 e2
          subst e1 e2
          have hg4 : HG w w4 (.pointer (some ⟨b, 0, none⟩)) (putS S x) (mp :: (blk (.slice AL nv CL) ++ blk (.slice AA nv CA))) := HG3.out.1.write (P := []) u4 (by simp) (fun y hy => by
            rcases List.mem_cons.1 hy with rfl | hy
            · exact .inl (by simp)
            · rcases List.mem_append.1 hy with hy | hy
              · rcases hn1 y hy with h1 | h1
                · exact .inl (by simp [h1])
                · exact .inr h1
              · rcases hn2 y hy with h1 | h1
                · exact .inl (by simp [h1])
                · exact .inr h1)
          have hc4 := HG3.out.2.1.upd0 u4
          obtain ⟨-, -, -, g0⟩ := hc4.cells
          obtain ⟨r0, r1, r2, -⟩ := hc4.cells
          have g1 := g0 1
          have g2 := g0 2
          have g0 := g0 0
          have hwke : ((S.wk + nn : Nat) : Int) = ((putS S x).wk : Int) := by rw [putS_wk HO.out x, ← HG3.out.2.2.1, putN_eq HO.out x]
          rw [hwke]
          obtain ⟨Wk, hWk⟩ : ∃ W : Nat, (putS S x).wk = W := ⟨_, rfl⟩
          rw [hWk]
          have hm1 : mp ∉ blk (.slice AL nv CL) := fun hc => by
            rcases hn1 mp hc with h1 | h1
            · exact HL0.out.2.2.2.1 h1
            · omega
          have hm2 : mp ∉ blk (.slice AA nv CA) := fun hc => by
            rcases hn2 mp hc with h1 | h1
            · exact HL0.out.2.2.2.2 h1
            · omega
          have hp5 := hc4.put (.slice AL nv CL) (.slice AA nv CA) (.int .i64 (Wk : Int))
          have hu5 := celH_put (q := mp) (Upd.refl [mp] w4) (.inl (by simp)) (.slice AL nv CL) (.slice AA nv CA) (.int .i64 (Wk : Int))
          have hg5 := hg4.write (G' := mp :: (blk (.slice AL nv CL) ++ blk (.slice AA nv CA))) hu5 (by simp) (fun y hy => .inl hy)
          have hr5 : RefAt (((w4.setCell ⟨mp, 0, none⟩ (.slice AL nv CL)).setCell ⟨mp, 1, none⟩ (.slice AA nv CA)).setCell ⟨mp, 2, none⟩ (.int .i64 (Wk : Int))) (.slice AL nv CL) (.slice AA nv CA) (vPut (view S) x) :=
            ⟨sees_upd hr4.1 hu5 (fun _ k hk _ hc => by simp at hc; subst hc; exact hm1 hk), sees_upd hr4.2 hu5 (fun _ k hk _ hc => by simp at hc; subst hc; exact hm2 hk)⟩
          have H5 := Lib.hid (And.intro hg5 (And.intro hp5 (And.intro hr5 (And.intro hm1 (And.intro hm2 hWk)))))
          clear hg4 hc4 hp5 hu5 hg5 hr5 hm1 hm2 hr4 hn1 hn2 u4 hwke hWk c0 c1 c2 en ed
          go_wp2_with fail
          go_meet
          case rel =>
            refine ⟨nn, did, .slice AL nv CL, .slice AA nv CA, rfl, rfl, rfl, rfl, H5.out.1, ?_, ?_, H5.out.2.2.2.1, H5.out.2.2.2.2.1⟩
            · show CelH _ mp _ _ (.int .i64 ((putS S x).wk : Int))
              rw [H5.out.2.2.2.2.2]
              exact H5.out.2.1
            · show RefAt _ _ _ (view (putS S x))
              rw [HO.out.vput x]
              exact H5.out.2.2.1
        · go_wp2_with fail
          refine (dropG HGQ.out.1 HO.out (by omega) x HX.out).mono ?_
          rintro e w3 ⟨rfl, hg3, hk3⟩
          have hoc1 := (hk3.cell (p := ⟨ob, 1, none⟩) (by simp)).trans hoc1
          have hc3 := HGQ.out.2.1.kept hk3 (by simp)
          have hr3 := HGQ.out.2.2.kept hk3 (fun k hk => by simp [hk]) (fun k hk => by simp [hk])
          have hrf := dropRef vL vA (view S) S.wk x w3 hr3 hvl hwk HO.out.nodup
          obtain ⟨c0, c1, c2, cf⟩ := hc3.cells
          obtain ⟨nn, hnn⟩ : ∃ nn, lessN S x = nn := ⟨_, rfl⟩
          obtain ⟨did, hdid⟩ : ∃ did : Bool, (has S x) = did := ⟨_, rfl⟩
          rw [hnn, hdid]
          have HRF := Lib.hid hrf
          have HG3 := Lib.hid (And.intro hg3 (And.intro hc3 (And.intro hnn hdid)))
          have mpl := hc3.lt
          clear hg3 hc3 hr3 hrf hk3 hoc0 cf hnn hdid
          go_wp2_with fail
          (with_reducible refine HRF.out.mono ?_)
          rintro e w4 ⟨u4, vL', vA', hr4, hn1, hn2, rfl⟩
          have en : (if (x, true) ∈ view S then lessV (view S) x else 0) = nn := by rw [← HG3.out.2.2.1]; exact (lessN_eq HO.out x).1.symm
          rw [en]
          have ed : (decide ((x, true) ∈ view S)) = did := by rw [← HG3.out.2.2.2, HO.out.has]
          rw [ed]
          obtain ⟨nv, hnv⟩ : ∃ nv, (vLess (view S) x).length = nv := ⟨_, rfl⟩
          obtain ⟨AL, CL, AA, CA, e1, e2⟩ := hr4.form
          rw [hnv] at e1 e2
          subst e1 e2
          have hg4 : HG w w4 (.pointer (some ⟨b, 0, none⟩)) (lessS S x) (mp :: (blk (.slice AL nv CL) ++ blk (.slice AA nv CA))) := HG3.out.1.write (P := []) u4 (by simp) (fun y hy => by
            rcases List.mem_cons.1 hy with rfl | hy
            · exact .inl (by simp)
            · rcases List.mem_append.1 hy with hy | hy
              · rcases hn1 y hy with h1 | h1
                · exact .inl (by simp [h1])
                · exact .inr h1
              · rcases hn2 y hy with h1 | h1
                · exact .inl (by simp [h1])
                · exact .inr h1)
          have hc4 := HG3.out.2.1.upd0 u4
          obtain ⟨-, -, -, g0⟩ := hc4.cells
          obtain ⟨r0, r1, r2, -⟩ := hc4.cells
          have g1 := g0 1
          have g2 := g0 2
          have g0 := g0 0
          have hwke : ((S.wk + nn : Nat) : Int) = ((lessS S x).wk : Int) := by rw [(lessN_eq HO.out x).2, ← HG3.out.2.2.1, (lessN_eq HO.out x).1]
          rw [hwke]
          obtain ⟨Wk, hWk⟩ : ∃ W : Nat, (lessS S x).wk = W := ⟨_, rfl⟩
          rw [hWk]
          have hm1 : mp ∉ blk (.slice AL nv CL) := fun hc => by
            rcases hn1 mp hc with h1 | h1
            · exact HL0.out.2.2.2.1 h1
            · omega
          have hm2 : mp ∉ blk (.slice AA nv CA) := fun hc => by
            rcases hn2 mp hc with h1 | h1
            · exact HL0.out.2.2.2.2 h1
            · omega
          have hp5 := hc4.put (.slice AL nv CL) (.slice AA nv CA) (.int .i64 (Wk : Int))
          have hu5 := celH_put (q := mp) (Upd.refl [mp] w4) (.inl (by simp)) (.slice AL nv CL) (.slice AA nv CA) (.int .i64 (Wk : Int))
          have hg5 := hg4.write (G' := mp :: (blk (.slice AL nv CL) ++ blk (.slice AA nv CA))) hu5 (by simp) (fun y hy => .inl hy)
          have hr5 : RefAt (((w4.setCell ⟨mp, 0, none⟩ (.slice AL nv CL)).setCell ⟨mp, 1, none⟩ (.slice AA nv CA)).setCell ⟨mp, 2, none⟩ (.int .i64 (Wk : Int))) (.slice AL nv CL) (.slice AA nv CA) (vLess (view S) x) :=
            ⟨sees_upd hr4.1 hu5 (fun _ k hk _ hc => by simp at hc; subst hc; exact hm1 hk), sees_upd hr4.2 hu5 (fun _ k hk _ hc => by simp at hc; subst hc; exact hm2 hk)⟩
          have H5 := Lib.hid (And.intro hg5 (And.intro hp5 (And.intro hr5 (And.intro hm1 (And.intro hm2 hWk)))))
          clear hg4 hc4 hp5 hu5 hg5 hr5 hm1 hm2 hr4 hn1 hn2 u4 hwke hWk c0 c1 c2 en ed
          go_wp2_with fail
          go_meet
          case rel =>
            refine ⟨nn, did, .slice AL nv CL, .slice AA nv CA, rfl, rfl, rfl, rfl, H5.out.1, ?_, ?_, H5.out.2.2.2.1, H5.out.2.2.2.2.1⟩
            · show CelH _ mp _ _ (.int .i64 ((lessS S x).wk : Int))
              rw [H5.out.2.2.2.2.2]
              exact H5.out.2.1
            · show RefAt _ _ _ (view (lessS S x))
              rw [HO.out.vless x]
              exact H5.out.2.2.1
      case rest =>
        obtain ⟨nn, did, vL', vA', rfl, rfl, rfl, rfl, hg3, hc3, hr3, hm1, hm2⟩ := hcut
        have hO3 := HO.out.op (by omega) d x
        generalize opS S d x = S3 at hg3 hc3 hr3 hO3
        obtain ⟨nv, hnv⟩ : ∃ nv, (view S3).length = nv := ⟨_, rfl⟩
        have hcs3 := hO3.cs
        have hwk3 := hO3.wk
        have hnvb : nv ≤ 151 := by rw [← hnv, view_len]; omega
        have hal := all_ref _ _ (view S3) (S3.wk : Int) wc hr3 (by omega)
        obtain ⟨AL, CL, AA, CA, e1, e2⟩ := hr3.form
        rw [hnv] at e1 e2
        subst e1 e2
        obtain ⟨na, hna⟩ : ∃ na, (vAll (view S3)).length = na := ⟨_, rfl⟩
        have hnab : na ≤ 151 := by rw [← hna]; have := vAll_len (view S3); omega
        rw [hna] at hal
        obtain ⟨Wk, hWk⟩ : ∃ W : Nat, S3.wk = W := ⟨_, rfl⟩
        rw [hWk] at hal hc3 hwk3
        obtain ⟨c0, c1, c2, -⟩ := hc3.cells
        have HAL := Lib.hid hal
        have H3 := Lib.hid (And.intro hg3 (And.intro hc3 (And.intro hr3 (And.intro hO3 (And.intro hnv (And.intro hna (And.intro hWk (And.intro hm1 hm2))))))))
        clear hal hg3 hc3 hr3 hO3 hnv hna hWk hm1 hm2 hoc0 hoc1 hcs3 hcell1 hcell2 hvl hwk
        go_wp2_with fail
        (with_reducible refine HAL.out.mono ?_)
        rintro e w5 ⟨Ar, Cr, rfl, hrow, u5⟩
        obtain ⟨z0, z1, z2, -⟩ := (H3.out.2.1.upd0 u5).cells
        have hg5 := H3.out.1.quiet u5
        have hr5 := H3.out.2.2.1.upd u5
        have hlen := fun w' (hu : Upd [] w5 w') => lenG (hg5.quiet hu) H3.out.2.2.2.1
        have hsto := fun w' (hu : Upd [] w5 w') => storedG (hg5.quiet hu)
        have hwrk := fun w' (hu : Upd [] w5 w') => workG (hg5.quiet hu)
        have hall := fun w' (hu : Upd [] w5 w') => allG (hg5.quiet hu) H3.out.2.2.2.1 (by omega)
        have hsam := fun a b w' (h1 : Ints w' a (vAll (view S3))) (h2 : Ints w' b (vAll (view S3))) => same22 a b _ _ w' h1 h2 (by rw [H3.out.2.2.2.2.2.1]; omega) (by rw [H3.out.2.2.2.2.2.1]; omega)
        simp only [decide_true] at hsam
        have htr := fun w' (hu : Upd [] w5 w') => treesRef (.slice AL nv CL) (.slice AA nv CA) (view S3) (Wk : Int) w' (hr5.upd hu) (by rw [H3.out.2.2.2.2.1]; omega)
        have hteq := fun v w' (hu : Upd [] w5 w') (hs : RowsSee w' v (vTrees (view S3))) => treesEqG (hg5.quiet hu) H3.out.2.2.2.1 (by omega) v _ hs (vTrees_few _ (by rw [H3.out.2.2.2.2.1]; omega)) (vTrees_small _ (by rw [H3.out.2.2.2.2.1]; omega))
        simp only [vTrees_view, decide_true] at hteq
        simp only [vTrees_view] at htr
        simp only [H3.out.2.2.2.2.2.1] at hlen hall
        simp only [H3.out.2.2.2.2.1] at hsto
        simp only [H3.out.2.2.2.2.2.2.1] at hwrk
        have HLEN := Lib.hid hlen
        have HSTO := Lib.hid hsto
        have HWRK := Lib.hid hwrk
        have HALL := Lib.hid hall
        have HSAM := Lib.hid hsam
        have HTR := Lib.hid htr
        have HTEQ := Lib.hid hteq
        have HRW := Lib.hid hrow
        have H5 := Lib.hid (And.intro hg5 (And.intro (H3.out.2.1.upd0 u5) hr5))
        obtain ⟨nT, hnT⟩ : ∃ n, (treesL S3).length = n := ⟨_, rfl⟩
        simp only [hnT] at HTR
        have t1 : ((nn : Int) != (nn : Int)) = false := by simp
        have t2 : (did != did) = false := by simp
        have t3 : ((na : Int) != (na : Int)) = false := by simp
        have t4 : ((nv : Int) != (nv : Int)) = false := by simp
        have t5 : ((Wk : Int) != (Wk : Int)) = false := by simp
        clear hlen hsto hwrk hall hsam htr hteq hrow hg5 hr5 u5 hnT c0 c1 c2
        go_upto_region 14 with fail
        obtain ⟨Wd, hWd⟩ : ∃ Wd, Wd = w5.drew := ⟨_, rfl⟩
        have HD0 := Lib.hid (show Upd [] w5 Wd by rw [hWd]; exact (Upd.refl _ _).drew)
        -- region 14: T waits for all loads; fuel 1
        refine GoT.start [] (fun w' => Upd [] w5 w') (by kernel_rfl) ?_ fun hS => ?_
        · exact (Upd.refl [] w5).drew
        rw [← hWd] at hS ⊢
        clear hWd
        refine' GoT.move (i := 0) (oi := ⟨some 57, _, _, _, _, _⟩) (v := _) rfl (by kernel_rfl) (by kernel_rfl) (by kernel_rfl) (fun _ _ _ h => h) (Or.inl ⟨by rfl, ?y14_0⟩) ?r14_0
        case y14_0 => intro w; go_simp <;> with_reducible rfl
        simp only [Act.put, List.setIfInBounds_toArray, List.set_cons_zero, List.set_cons_succ]
        refine' GoT.move (i := 1) (oi := ⟨some 58, _, _, _, _, _⟩) (v := _) rfl (by kernel_rfl) (by kernel_rfl) (by kernel_rfl) (fun _ _ _ h => h) (Or.inl ⟨by rfl, ?y14_1⟩) ?r14_1
        case y14_1 => intro w; go_simp <;> with_reducible rfl
        simp only [Act.put, List.setIfInBounds_toArray, List.set_cons_zero, List.set_cons_succ]
        refine' GoT.move (i := 2) (oi := ⟨some 59, _, _, _, _, _⟩) (v := _) rfl (by kernel_rfl) (by kernel_rfl) (by kernel_rfl) (fun _ _ _ h => h) (Or.inl ⟨by rfl, ?y14_2⟩) ?r14_2
        case y14_2 => intro w; go_simp <;> with_reducible rfl
        simp only [Act.put, List.setIfInBounds_toArray, List.set_cons_zero, List.set_cons_succ]
        refine' GoT.move (i := 3) (oi := ⟨some 60, _, _, _, _, _⟩) (v := _) rfl (by kernel_rfl) (by kernel_rfl) (by kernel_rfl) (fun _ _ _ h => h) (Or.inl ⟨by rfl, ?y14_3⟩) ?r14_3
        case y14_3 => intro w; go_simp <;> with_reducible rfl
        simp only [Act.put, List.setIfInBounds_toArray, List.set_cons_zero, List.set_cons_succ]
        refine' GoT.move (i := 4) (oi := ⟨some 61, _, _, _, _, _⟩) (v := _) rfl (by kernel_rfl) (by kernel_rfl) (by kernel_rfl) (fun _ _ _ h => h) (Or.inl ⟨by rfl, ?y14_4⟩) ?r14_4
        case y14_4 => intro w; go_simp <;> with_reducible rfl
        simp only [Act.put, List.setIfInBounds_toArray, List.set_cons_zero, List.set_cons_succ]
        refine' GoT.move (i := 5) (oi := ⟨some 62, _, _, _, _, _⟩) (v := _) rfl (by kernel_rfl) (by kernel_rfl) (by kernel_rfl) (fun _ _ _ h => h) (Or.inl ⟨by rfl, ?y14_5⟩) ?r14_5
        case y14_5 => intro w; go_simp <;> with_reducible rfl
        simp only [Act.put, List.setIfInBounds_toArray, List.set_cons_zero, List.set_cons_succ]
        refine' GoT.move (i := 6) (oi := ⟨some 63, _, _, _, _, _⟩) (v := _) rfl (by kernel_rfl) (by kernel_rfl) (by kernel_rfl) (fun _ _ _ h => h) (Or.inl ⟨by rfl, ?y14_6⟩) ?r14_6
        case y14_6 => intro w; go_simp <;> with_reducible rfl
        simp only [Act.put, List.setIfInBounds_toArray, List.set_cons_zero, List.set_cons_succ]
        refine' GoT.move (i := 7) (oi := ⟨some 64, _, _, _, _, _⟩) (v := _) rfl (by kernel_rfl) (by kernel_rfl) (by kernel_rfl) (fun _ _ _ h => h) (Or.inl ⟨by rfl, ?y14_7⟩) ?r14_7
        case y14_7 => intro w; go_simp <;> with_reducible rfl
        simp only [Act.put, List.setIfInBounds_toArray, List.set_cons_zero, List.set_cons_succ]
        refine' GoT.move (i := 8) (oi := ⟨some 65, _, _, _, _, _⟩) (v := _) rfl (by kernel_rfl) (by kernel_rfl) (by kernel_rfl) (fun _ _ _ h => h) (Or.inl ⟨by rfl, ?y14_8⟩) ?r14_8
        case y14_8 => intro w; go_simp <;> with_reducible rfl
        simp only [Act.put, List.setIfInBounds_toArray, List.set_cons_zero, List.set_cons_succ]
        refine' GoT.move (i := 9) (oi := ⟨some 66, _, _, _, _, _⟩) (v := _) rfl (by kernel_rfl) (by kernel_rfl) (by kernel_rfl) (fun _ _ _ h => h) (Or.inl ⟨by rfl, ?y14_9⟩) ?r14_9
        case y14_9 => intro w; go_simp <;> with_reducible rfl
        simp only [Act.put, List.setIfInBounds_toArray, List.set_cons_zero, List.set_cons_succ]
        refine' GoT.move (i := 11) (oi := ⟨some 68, _, _, _, _, _⟩) (v := _) rfl (by kernel_rfl) (by kernel_rfl) (by kernel_rfl) (fun _ _ _ h => h) (Or.inl ⟨by rfl, ?y14_11⟩) ?r14_11
        case y14_11 => intro w; go_simp <;> with_reducible rfl
        simp only [Act.put, List.setIfInBounds_toArray, List.set_cons_zero, List.set_cons_succ]
        refine' GoT.move (i := 12) (oi := ⟨some 69, _, _, _, _, _⟩) (v := _) rfl (by kernel_rfl) (by kernel_rfl) (by kernel_rfl) (fun _ _ _ h => h) (Or.inl ⟨by rfl, ?y14_12⟩) ?r14_12
        case y14_12 => intro w; go_simp <;> with_reducible rfl
        simp only [Act.put, List.setIfInBounds_toArray, List.set_cons_zero, List.set_cons_succ]
        -- 10: Go.Op.call { callee := Go.Callee.value (Go.Operand.func 48), args := #[Go.Operand.tmp 66], argTypes := #[56] }
        refine GoT.one (i := 10) (o := ⟨some 67, _, _, _, _, _⟩) rfl (by kernel_rfl) fun K hK => ?_
        have HC := Lib.hid (HLEN.out Wd HD0.out)
        go_simp
        go_at_call 48
        (with_reducible refine HC.out.mono ?_)
        rintro e wa ⟨rfl, rfl⟩
        refine hK.out _ _ (fun _ h => h) ?_
        clear hK K
        try simp only [Act.put, List.setIfInBounds_toArray, List.set_cons_zero, List.set_cons_succ]
        refine' GoT.move (i := 13) (oi := ⟨some 70, _, _, _, _, _⟩) (v := _) rfl (by kernel_rfl) (by kernel_rfl) (by kernel_rfl) (fun _ _ _ h => h) (Or.inl ⟨by rfl, ?y14_13⟩) ?r14_13
        case y14_13 => intro w; go_simp <;> with_reducible rfl
        simp only [Act.put, List.setIfInBounds_toArray, List.set_cons_zero, List.set_cons_succ]
        refine' GoT.move (i := 14) (oi := ⟨some 71, _, _, _, _, _⟩) (v := _) rfl (by kernel_rfl) (by kernel_rfl) (by kernel_rfl) (fun _ _ _ h => h) (Or.inl ⟨by rfl, ?y14_14⟩) ?r14_14
        case y14_14 => intro w; go_simp <;> with_reducible rfl
        simp only [Act.put, List.setIfInBounds_toArray, List.set_cons_zero, List.set_cons_succ]
        refine' GoT.move (i := 15) (oi := ⟨some 72, _, _, _, _, _⟩) (v := _) rfl (by kernel_rfl) (by kernel_rfl) (by kernel_rfl) (fun _ _ _ h => h) (Or.inl ⟨by rfl, ?y14_15⟩) ?r14_15
        case y14_15 => intro w; go_simp <;> with_reducible rfl
        simp only [Act.put, List.setIfInBounds_toArray, List.set_cons_zero, List.set_cons_succ]
        refine' GoT.move (i := 16) (oi := ⟨some 73, _, _, _, _, _⟩) (v := _) rfl (by kernel_rfl) (by kernel_rfl) (by kernel_rfl) (fun _ _ _ h => h) (Or.inl ⟨by rfl, ?y14_16⟩) ?r14_16
        case y14_16 => intro w; go_simp <;> with_reducible rfl
        simp only [Act.put, List.setIfInBounds_toArray, List.set_cons_zero, List.set_cons_succ]
        refine' GoT.move (i := 18) (oi := ⟨some 75, _, _, _, _, _⟩) (v := _) rfl (by kernel_rfl) (by kernel_rfl) (by kernel_rfl) (fun _ _ _ h => h) (Or.inl ⟨by rfl, ?y14_18⟩) ?r14_18
        case y14_18 => intro w; go_simp <;> with_reducible rfl
        simp only [Act.put, List.setIfInBounds_toArray, List.set_cons_zero, List.set_cons_succ]
        refine' GoT.take 1 (i := 19) (oi := ⟨some 76, _, _, _, _, _⟩) (v := _) rfl (by kernel_rfl) (by kernel_rfl) (by kernel_rfl) (by kernel_rfl) (fun _ _ _ h => h) (Or.inl ⟨by rfl, ?y14_19⟩) (by assumption) ?r14_19
        case y14_19 => intro w hSw; have e0 := (hSw.cell (World.block_lt_of_cell? _ _ z0) (by simp)).trans z0; go_simp <;> with_reducible rfl
        simp only [Act.put, List.setIfInBounds_toArray, List.set_cons_zero, List.set_cons_succ]
        refine' GoT.move (i := 20) (oi := ⟨some 77, _, _, _, _, _⟩) (v := _) rfl (by kernel_rfl) (by kernel_rfl) (by kernel_rfl) (fun _ _ _ h => h) (Or.inl ⟨by rfl, ?y14_20⟩) ?r14_20
        case y14_20 => intro w; go_simp <;> with_reducible rfl
        simp only [Act.put, List.setIfInBounds_toArray, List.set_cons_zero, List.set_cons_succ]
        -- 17: Go.Op.call { callee := Go.Callee.value (Go.Operand.func 49), args := #[Go.Operand.tmp 73], argTypes := #[56] }
        refine GoT.one (i := 17) (o := ⟨some 74, _, _, _, _, _⟩) rfl (by kernel_rfl) fun K hK => ?_
        have HC := Lib.hid (HSTO.out Wd HD0.out)
        go_simp
        go_at_call 49
        (with_reducible refine HC.out.mono ?_)
        rintro e wa ⟨rfl, rfl⟩
        refine hK.out _ _ (fun _ h => h) ?_
        clear hK K
        try simp only [Act.put, List.setIfInBounds_toArray, List.set_cons_zero, List.set_cons_succ]
        refine' GoT.move (i := 21) (oi := ⟨some 78, _, _, _, _, _⟩) (v := _) rfl (by kernel_rfl) (by kernel_rfl) (by kernel_rfl) (fun _ _ _ h => h) (Or.inl ⟨by rfl, ?y14_21⟩) ?r14_21
        case y14_21 => intro w; go_simp <;> with_reducible rfl
        simp only [Act.put, List.setIfInBounds_toArray, List.set_cons_zero, List.set_cons_succ]
        refine' GoT.move (i := 22) (oi := ⟨some 79, _, _, _, _, _⟩) (v := _) rfl (by kernel_rfl) (by kernel_rfl) (by kernel_rfl) (fun _ _ _ h => h) (Or.inl ⟨by rfl, ?y14_22⟩) ?r14_22
        case y14_22 => intro w; go_simp <;> with_reducible rfl
        simp only [Act.put, List.setIfInBounds_toArray, List.set_cons_zero, List.set_cons_succ]
        refine' GoT.move (i := 23) (oi := ⟨some 80, _, _, _, _, _⟩) (v := _) rfl (by kernel_rfl) (by kernel_rfl) (by kernel_rfl) (fun _ _ _ h => h) (Or.inl ⟨by rfl, ?y14_23⟩) ?r14_23
        case y14_23 => intro w; go_simp <;> with_reducible rfl
        simp only [Act.put, List.setIfInBounds_toArray, List.set_cons_zero, List.set_cons_succ]
        refine' GoT.move (i := 24) (oi := ⟨some 81, _, _, _, _, _⟩) (v := _) rfl (by kernel_rfl) (by kernel_rfl) (by kernel_rfl) (fun _ _ _ h => h) (Or.inl ⟨by rfl, ?y14_24⟩) ?r14_24
        case y14_24 => intro w; go_simp <;> with_reducible rfl
        simp only [Act.put, List.setIfInBounds_toArray, List.set_cons_zero, List.set_cons_succ]
        refine' GoT.move (i := 26) (oi := ⟨some 83, _, _, _, _, _⟩) (v := _) rfl (by kernel_rfl) (by kernel_rfl) (by kernel_rfl) (fun _ _ _ h => h) (Or.inl ⟨by rfl, ?y14_26⟩) ?r14_26
        case y14_26 => intro w; go_simp <;> with_reducible rfl
        simp only [Act.put, List.setIfInBounds_toArray, List.set_cons_zero, List.set_cons_succ]
        refine' GoT.take 1 (i := 27) (oi := ⟨some 84, _, _, _, _, _⟩) (v := _) rfl (by kernel_rfl) (by kernel_rfl) (by kernel_rfl) (by kernel_rfl) (fun _ _ _ h => h) (Or.inl ⟨by rfl, ?y14_27⟩) (by assumption) ?r14_27
        case y14_27 => intro w hSw; have e2 := (hSw.cell (World.block_lt_of_cell? _ _ z2) (by simp)).trans z2; go_simp <;> with_reducible rfl
        simp only [Act.put, List.setIfInBounds_toArray, List.set_cons_zero, List.set_cons_succ]
        -- 25: Go.Op.call { callee := Go.Callee.value (Go.Operand.func 50), args := #[Go.Operand.tmp 81], argTypes := #[56] }
        refine GoT.one (i := 25) (o := ⟨some 82, _, _, _, _, _⟩) rfl (by kernel_rfl) fun K hK => ?_
        have HC := Lib.hid (HWRK.out Wd HD0.out)
        go_simp
        go_at_call 50
        (with_reducible refine HC.out.mono ?_)
        rintro e wa ⟨rfl, rfl⟩
        refine hK.out _ _ (fun _ h => h) ?_
        clear hK K
        try simp only [Act.put, List.setIfInBounds_toArray, List.set_cons_zero, List.set_cons_succ]
        refine' GoT.move (i := 28) (oi := ⟨some 85, _, _, _, _, _⟩) (v := _) rfl (by kernel_rfl) (by kernel_rfl) (by kernel_rfl) (fun _ _ _ h => h) (Or.inl ⟨by rfl, ?y14_28⟩) ?r14_28
        case y14_28 => intro w; go_simp <;> with_reducible rfl
        simp only [Act.put, List.setIfInBounds_toArray, List.set_cons_zero, List.set_cons_succ]
        refine' GoT.move (i := 29) (oi := ⟨some 86, _, _, _, _, _⟩) (v := _) rfl (by kernel_rfl) (by kernel_rfl) (by kernel_rfl) (fun _ _ _ h => h) (Or.inl ⟨by rfl, ?y14_29⟩) ?r14_29
        case y14_29 => intro w; go_simp <;> with_reducible rfl
        simp only [Act.put, List.setIfInBounds_toArray, List.set_cons_zero, List.set_cons_succ]
        refine' GoT.move (i := 30) (oi := ⟨some 87, _, _, _, _, _⟩) (v := _) rfl (by kernel_rfl) (by kernel_rfl) (by kernel_rfl) (fun _ _ _ h => h) (Or.inl ⟨by rfl, ?y14_30⟩) ?r14_30
        case y14_30 => intro w; go_simp <;> with_reducible rfl
        simp only [Act.put, List.setIfInBounds_toArray, List.set_cons_zero, List.set_cons_succ]
        refine' GoT.move (i := 31) (oi := ⟨some 88, _, _, _, _, _⟩) (v := _) rfl (by kernel_rfl) (by kernel_rfl) (by kernel_rfl) (fun _ _ _ h => h) (Or.inl ⟨by rfl, ?y14_31⟩) ?r14_31
        case y14_31 => intro w; go_simp <;> with_reducible rfl
        simp only [Act.put, List.setIfInBounds_toArray, List.set_cons_zero, List.set_cons_succ]
        refine' GoT.move (i := 33) (oi := ⟨some 90, _, _, _, _, _⟩) (v := _) rfl (by kernel_rfl) (by kernel_rfl) (by kernel_rfl) (fun _ _ _ h => h) (Or.inl ⟨by rfl, ?y14_33⟩) ?r14_33
        case y14_33 => intro w; go_simp <;> with_reducible rfl
        simp only [Act.put, List.setIfInBounds_toArray, List.set_cons_zero, List.set_cons_succ]
        -- 32: Go.Op.call { callee := Go.Callee.value (Go.Operand.func 42), args := #[Go.Operand.tmp 88], argTypes := #[56] }
        refine GoT.one (i := 32) (o := ⟨some 89, _, _, _, _, _⟩) rfl (by kernel_rfl) fun K hK => ?_
        have HC := Lib.hid (HALL.out Wd HD0.out)
        go_simp
        go_at_call 42
        (with_reducible refine HC.out.mono ?_)
        rintro e wa ⟨Aa, Ca, rfl, ra, ua⟩
        refine hK.out _ _ (fun _ h => h.trans ua) ?_
        have HWA := Lib.hid (And.intro ra (HD0.out.trans ua))
        clear ra ua
        clear hK K
        try simp only [Act.put, List.setIfInBounds_toArray, List.set_cons_zero, List.set_cons_succ]
        -- 34: Go.Op.call { callee := Go.Callee.value (Go.Operand.func 41), args := #[Go.Operand.tmp 89, Go.Operand.tmp 90], argTypes := #[22, 22] }
        refine GoT.one (i := 34) (o := ⟨some 91, _, _, _, _, _⟩) rfl (by kernel_rfl) fun K hK => ?_
        have HC := Lib.hid (HSAM.out _ _ wa (Ints.of_row HWA.out.1) (Ints.of_row (own_upd HRW.out HWA.out.2 (by simp))))
        go_simp
        go_at_call 41
        (with_reducible refine HC.out.mono ?_)
        rintro e wb ⟨rfl, ub⟩
        refine hK.out _ _ (fun _ h => h.trans ub) ?_
        have HWB := Lib.hid (HWA.out.2.trans ub)
        clear ub
        clear hK K
        try simp only [Act.put, List.setIfInBounds_toArray, List.set_cons_zero, List.set_cons_succ]
        refine' GoT.move (i := 35) (oi := ⟨some 92, _, _, _, _, _⟩) (v := _) rfl (by kernel_rfl) (by kernel_rfl) (by kernel_rfl) (fun _ _ _ h => h) (Or.inl ⟨by rfl, ?y14_35⟩) ?r14_35
        case y14_35 => intro w; go_simp <;> with_reducible rfl
        simp only [Act.put, List.setIfInBounds_toArray, List.set_cons_zero, List.set_cons_succ]
        refine' GoT.move (i := 36) (oi := ⟨some 93, _, _, _, _, _⟩) (v := _) rfl (by kernel_rfl) (by kernel_rfl) (by kernel_rfl) (fun _ _ _ h => h) (Or.inl ⟨by rfl, ?y14_36⟩) ?r14_36
        case y14_36 => intro w; go_simp <;> with_reducible rfl
        simp only [Act.put, List.setIfInBounds_toArray, List.set_cons_zero, List.set_cons_succ]
        refine' GoT.move (i := 37) (oi := ⟨some 94, _, _, _, _, _⟩) (v := _) rfl (by kernel_rfl) (by kernel_rfl) (by kernel_rfl) (fun _ _ _ h => h) (Or.inl ⟨by rfl, ?y14_37⟩) ?r14_37
        case y14_37 => intro w; go_simp <;> with_reducible rfl
        simp only [Act.put, List.setIfInBounds_toArray, List.set_cons_zero, List.set_cons_succ]
        refine' GoT.move (i := 38) (oi := ⟨some 95, _, _, _, _, _⟩) (v := _) rfl (by kernel_rfl) (by kernel_rfl) (by kernel_rfl) (fun _ _ _ h => h) (Or.inl ⟨by rfl, ?y14_38⟩) ?r14_38
        case y14_38 => intro w; go_simp <;> with_reducible rfl
        simp only [Act.put, List.setIfInBounds_toArray, List.set_cons_zero, List.set_cons_succ]
        refine' GoT.take 1 (i := 39) (oi := ⟨some 96, _, _, _, _, _⟩) (v := _) rfl (by kernel_rfl) (by kernel_rfl) (by kernel_rfl) (by kernel_rfl) (fun _ _ _ h => h) (Or.inl ⟨by rfl, ?y14_39⟩) (by assumption) ?r14_39
        case y14_39 => intro w hSw; have e0 := (hSw.cell (World.block_lt_of_cell? _ _ z0) (by simp)).trans z0; have e1 := (hSw.cell (World.block_lt_of_cell? _ _ z1) (by simp)).trans z1; have e2 := (hSw.cell (World.block_lt_of_cell? _ _ z2) (by simp)).trans z2; go_simp <;> with_reducible rfl
        simp only [Act.put, List.setIfInBounds_toArray, List.set_cons_zero, List.set_cons_succ]
        -- 40: Go.Op.call { callee := Go.Callee.value (Go.Operand.func 52), args := #[Go.Operand.tmp 96], argTypes := #[74] }
        refine GoT.one (i := 40) (o := ⟨some 97, _, _, _, _, _⟩) rfl (by kernel_rfl) fun K hK => ?_
        have HC := Lib.hid (HTR.out wb HWB.out)
        go_simp
        go_at_call 52
        (with_reducible refine HC.out.mono ?_)
        rintro e wc' ⟨Ac, Cc, rfl, rc, uc⟩
        refine hK.out _ _ (fun _ h => h.trans uc) ?_
        have HWC := Lib.hid (And.intro rc (HWB.out.trans uc))
        clear rc uc
        clear hK K
        try simp only [Act.put, List.setIfInBounds_toArray, List.set_cons_zero, List.set_cons_succ]
        -- 41: Go.Op.call { callee := Go.Callee.value (Go.Operand.func 51), args := #[Go.Operand.tmp 95, Go.Operand.tmp 97], argTypes := #[56, 78] }
        refine GoT.one (i := 41) (o := ⟨some 98, _, _, _, _, _⟩) rfl (by kernel_rfl) fun K hK => ?_
        have HC := Lib.hid (HTEQ.out _ wc' HWC.out.2 HWC.out.1)
        go_simp
        go_at_call 51
        (with_reducible refine HC.out.mono ?_)
        rintro e wd ⟨rfl, ud⟩
        refine hK.out _ _ (fun _ h => h.trans ud) ?_
        have HWF := Lib.hid (HWC.out.2.trans ud)
        clear ud
        clear hK K
        try simp only [Act.put, List.setIfInBounds_toArray, List.set_cons_zero, List.set_cons_succ]
        refine' GoT.move (i := 42) (oi := ⟨some 99, _, _, _, _, _⟩) (v := _) rfl (by kernel_rfl) (by kernel_rfl) (by kernel_rfl) (fun _ _ _ h => h) (Or.inl ⟨by rfl, ?y14_42⟩) ?r14_42
        case y14_42 => intro w; go_simp <;> with_reducible rfl
        simp only [Act.put, List.setIfInBounds_toArray, List.set_cons_zero, List.set_cons_succ]
        refine' GoT.move (i := 43) (oi := ⟨some 100, _, _, _, _, _⟩) (v := _) rfl (by kernel_rfl) (by kernel_rfl) (by kernel_rfl) (fun _ _ _ h => h) (Or.inl ⟨by rfl, ?y14_43⟩) ?r14_43
        case y14_43 => intro w; go_simp <;> with_reducible rfl
        simp only [Act.put, List.setIfInBounds_toArray, List.set_cons_zero, List.set_cons_succ]
        refine GoT.done (by kernel_rfl) ?_
        go_wp2_with fail
        go_roundg (n - (k + 1))
        case measure => have := HK.out; omega
        case rel =>
          refine ⟨k + 1, S3, .slice AL nv CL, .slice AA nv CA, by have := HK.out; omega, by go_num, H5.out.1.quiet HWF.out, H3.out.2.2.2.1, ?_, H5.out.2.2.upd HWF.out, H3.out.2.2.2.2.2.2.2.1, H3.out.2.2.2.2.2.2.2.2⟩
          rw [H3.out.2.2.2.2.2.2.1]
          exact H5.out.2.1.upd0 HWF.out
    · have HAW := Lib.hid (awake22 wr)
      go_wp2_with fail
      (with_reducible refine HAW.out.mono ?_)
      rintro e w5 ⟨rfl, u5⟩
      have HU5 := Lib.hid u5
      clear u5
      go_wp2_with fail
      go_ret
      exact ⟨rfl, (HL0.out.1.up.trans HU5.out).below⟩
end Go.Proofs.Ytkhgglafnjfiaaa
