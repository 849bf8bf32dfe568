/- rim.right and rim.up: the boxes that count, as a sweep sees them. -/
import Derived.Test.YtokpdocabmaagaaGreatRimSt
import Derived.Test.YtokpdocabmaagaaGreatItem
import Derived.Test.YtokpdocabmaagaaGreatVarB
import Derived.Deep.MidRow
namespace Go.Proofs.YtokpdocabmaagaaGreat
open Go.RowKit

/-- What a sweep sees of a box. -/
def KFl : Kind Bx := { T := 0, sT := 87, eT := 141, sz := 4, enc := fun b => [.int .i64 b.x1, .int .i64 b.x2, .int .i64 b.y1, .int .i64 b.y2], len := fun _ => rfl, one := fun b u hu => by simp at hu; rcases hu with rfl | rfl | rfl | rfl <;> rfl }

theorem KFl.at {w : World} {A : Option Addr} {n C : Nat} {l : List Bx} (h : See KFl w (.slice A n C) l) {k : Nat} {x : Bx} (hx : l[k]? = some x) :
    ∃ b o, A = some ⟨b, o, none⟩ ∧ n ≤ C ∧ C ≤ maxLen ∧ w.cell? ⟨b, o + k * 4, none⟩ = some (.int .i64 x.x1) ∧ w.cell? ⟨b, o + k * 4 + 1, none⟩ = some (.int .i64 x.x2) ∧ w.cell? ⟨b, o + k * 4 + 2, none⟩ = some (.int .i64 x.y1) ∧ w.cell? ⟨b, o + k * 4 + 3, none⟩ = some (.int .i64 x.y2) := by
  obtain ⟨b, o, h1, h2, h3, h4⟩ := h.at hx
  exact ⟨b, o, h1, h2, h3, h4 0 _ rfl, h4 1 _ rfl, h4 2 _ rfl, h4 3 _ rfl⟩

theorem flats_take (l : List Bx) {k : Nat} {b : Bx} (hb : l[k]? = some b) : flats (l.take (k + 1)) = flats (l.take k) ++ (if b.counts = true then [flB b] else []) := by
  unfold flats
  rw [List.take_add_one, hb]
  by_cases h : b.counts = true <;> simp [List.filter_append, h]

theorem info_flat : (Tryz.prog.info? 141).map (fun i => (i.zero, i.size, i.bytes)) = some (some (.agg #[.int .i64 0, .int .i64 0, .int .i64 0, .int .i64 0]), 4, 32) := by kernel_rfl

/-- A row, a cell of which is written. -/
theorem own_set {w : World} {base : Nat} {e : TypeId} {size g n C : Nat} {xs : List Value} (h : w.ownsRow base e size (.slice (some ⟨g, 0, none⟩) n C) n xs) (j : Nat) (u : Value) :
    (w.setCell ⟨g, j, none⟩ u).ownsRow base e size (.slice (some ⟨g, 0, none⟩) n C) n (xs.set j u) := by
  obtain ⟨hl, h⟩ := h
  refine ⟨by rw [List.length_set]; exact hl, ?_⟩
  rcases h with ⟨h, -⟩ | ⟨g', cap, cur, h1, h2, h3, h4, h5, h6, h7⟩
  · cases h
  · cases h1
    refine .inr ⟨g, C, cur.setIfInBounds j u, rfl, h2, heap_set h3 j u, h4, h5, by simpa using h6, ?_⟩
    rw [← h7, Array.toList_setIfInBounds, List.take_set]

theorem own_there {w : World} {base : Nat} {e : TypeId} {size g n C : Nat} {xs : List Value} (h : w.ownsRow base e size (.slice (some ⟨g, 0, none⟩) n C) n xs) {o m : Nat} (hj : o + m ≤ n * size) : w.there g o m := by
  obtain ⟨hl, h⟩ := h
  rcases h with ⟨h, -⟩ | ⟨g', cap, cur, h1, h2, h3, h4, h5, h6, h7⟩
  · cases h
  · cases h1
    intro j hj'
    have hlt : o + j < cur.size := by
      rw [h6]
      exact Nat.lt_of_lt_of_le (by omega) (Nat.mul_le_mul_right size h4)
    exact ⟨by simp [World.cell?, h3, hlt], by simp [World.frozen?, h3]⟩

theorem KFl.all_set : ∀ (l : List Bx) (k : Nat) (x : Bx), k < l.length → ((((KFl.all l).set (k * 4) (.int .i64 x.x1)).set (k * 4 + 1) (.int .i64 x.x2)).set (k * 4 + 1 + 1) (.int .i64 x.y1)).set (k * 4 + 1 + 1 + 1) (.int .i64 x.y2) = KFl.all (l.set k x)
  | [], k, x, h => by simp at h
  | y :: r, 0, x, _ => by simp [Kind.all, KFl]
  | y :: r, k + 1, x, h => by
    have e := KFl.all_set r k x (by simpa using h)
    rw [List.set_cons_succ]
    unfold Kind.all at e ⊢
    rw [List.flatMap_cons, List.flatMap_cons, ← e]
    have e1 : (k + 1) * 4 = (KFl.enc y).length + k * 4 := by rw [Nat.add_mul, show (KFl.enc y).length = 4 from rfl]; omega
    rw [e1]
    have hs : ∀ (A : List Value) (j : Nat) (u : Value), (KFl.enc y ++ A).set ((KFl.enc y).length + j) u = KFl.enc y ++ A.set j u := fun A j u => by
      rw [List.set_append_right _ _ (by omega), Nat.add_sub_cancel_left]
    rw [hs, Nat.add_assoc, hs, Nat.add_assoc, Nat.add_assoc, hs, Nat.add_assoc, Nat.add_assoc, Nat.add_assoc, hs]

/-- A flat of a row is written. -/
theorem KFl.put {w : World} {base g n C : Nat} {l : List Bx} (h : KFl.row w base (.slice (some ⟨g, 0, none⟩) n C) l) (hn : l.length = n) {k : Nat} (hk : k < n) (x : Bx) :
    KFl.row (w.setCells g (k * 4) [.int .i64 x.x1, .int .i64 x.x2, .int .i64 x.y1, .int .i64 x.y2]) base (.slice (some ⟨g, 0, none⟩) n C) (l.set k x) := by
  unfold Kind.row at *
  rw [List.length_set]
  rw [hn] at h ⊢
  rw [← KFl.all_set l k x (by omega)]
  have e : KFl.sz = 4 := rfl
  rw [e] at h ⊢
  exact own_set (own_set (own_set (own_set h _ _) _ _) _ _) _ _

set_option maxRecDepth 100000 in
set_option maxHeartbeats 8000000 in
theorem rightF (v : Value) (l : List Bx) (w : World) (hs : See KBx w v l) (hl : l.length < 400000) :
    Calls Tryz.prog 56 #[v] w fun e w' => ∃ A C, e = .returned (.slice A (flats l).length C) ∧ KFl.row w' w.heap.size (.slice A (flats l).length C) (flats l) ∧ Upd [] w w' := by
  obtain ⟨iT, hiT, hT0, hT1, hT2⟩ := info_parts info_flat
  obtain ⟨A, C, rfl⟩ := hs.form
  obtain ⟨B, hB⟩ : ∃ B, w.heap.size = B := ⟨_, rfl⟩
  rw [hB]
  have HS := Lib.hid hs
  have HL := Lib.hid hl
  have HBB := Lib.hid hB
  have hll : (l.length : Int) < 400000 := by omega
  clear hs hl hB
  go_enter Tryz.func56, Tryz.ntmps56
  go_wp2_with fail
  go_loopg [3, 8] l.length (fun m s3 s8 wr => ∃ k At Ct, m + k = l.length ∧ s3 = .slice At (flats (l.take k)).length Ct ∧ s8 = .int .i64 (k : Int) ∧ KFl.row wr B (.slice At (flats (l.take k)).length Ct) (flats (l.take k)) ∧ Upd [] w wr)
  case atStart => exact ⟨0, none, 0, rfl, rfl, rfl, World.ownsRow_nil _ _ _ _, Upd.refl _ _⟩
  case round =>
    obtain ⟨k, At, Ct, hk, rfl, rfl, ht, hu⟩ := hrel
    have b0 : (0 : Int) ≤ (k : Int) := Int.natCast_nonneg _
    by_cases hlt : k < l.length
    · obtain ⟨b, hb⟩ : ∃ b, l[k]? = some b := ⟨_, List.getElem?_eq_getElem hlt⟩
      obtain ⟨bl, ol, hA, -, -, l0, l1, l2, l3, l4⟩ := KBx.at (HS.out.upd0 hu) hb
      subst hA
      have htt := flats_take l hb
      have hlen := flats_len (l.take k)
      have htl : (l.take k).length ≤ l.length := by rw [List.length_take]; omega
      obtain ⟨T, hT⟩ : ∃ T, flats (l.take k) = T := ⟨_, rfl⟩
      rw [hT] at htt ht hlen ⊢
      obtain ⟨x1, x2, y1, y2, bi⟩ := b
      dsimp only at l0 l1 l2 l3 l4 htt
      have b1 : (k : Int) < (l.length : Int) := by omega
      have HT := Lib.hid ht
      have HTT := Lib.hid htt
      have HLN := Lib.hid (show T.length < 900000 by have := HL.out; omega)
      have HU := Lib.hid hu
      have HK := Lib.hid hk
      have HLT := Lib.hid hlt
      have hua : Upd [] wr (wr.alloc (.cells #[.int .i64 x1, .int .i64 x2, .int .i64 y1, .int .i64 y2, .int .u32 (bi : Int)] 34)) := (Upd.refl _ _).alloc _
      have hbx : (wr.alloc (.cells #[.int .i64 x1, .int .i64 x2, .int .i64 y1, .int .i64 y2, .int .u32 (bi : Int)] 34)).heap[wr.heap.size]? = some (.cells #[.int .i64 x1, .int .i64 x2, .int .i64 y1, .int .i64 y2, .int .u32 (bi : Int)] 34 (0, 0)) := heap_alloc_new _ _
      have HUA := Lib.hid hua
      have HBX := Lib.hid hbx
      clear ht htt hlen htl hu hk hlt hT hua hbx hb
      by_cases hx : x1 < x2
      · have g1 : decide (x1 < x2) = true := decide_eq_true hx
        by_cases hy : y1 < y2
        · have g2 : decide (y1 < y2) = true := decide_eq_true hy
          have hcnt : (⟨x1, x2, y1, y2, bi⟩ : Bx).counts = true := by unfold Bx.counts; simp; omega
          rw [hcnt, if_pos rfl] at HTT
          clear hx hy hcnt
          go_upto_region 6 with fail
          have HTb := Lib.hid (show KFl.row _ B _ T from own_upd HT.out HUA.out (by simp))
          have HUb := Lib.hid (HU.out.trans HUA.out)
          generalize (wr.alloc (.cells #[.int .i64 x1, .int .i64 x2, .int .i64 y1, .int .i64 y2, .int .u32 (bi : Int)] 34)) = Wb at HBX HTb HUb HUA ⊢
          generalize wr.heap.size = q at HBX ⊢
          have c0 : Wb.cell? ⟨q, 0, none⟩ = some (.int .i64 x1) := by have := HBX.out; simp [World.cell?, this]
          have c1 : Wb.cell? ⟨q, 1, none⟩ = some (.int .i64 x2) := by have := HBX.out; simp [World.cell?, this]
          have c2 : Wb.cell? ⟨q, 2, none⟩ = some (.int .i64 y1) := by have := HBX.out; simp [World.cell?, this]
          have c3 : Wb.cell? ⟨q, 3, none⟩ = some (.int .i64 y2) := by have := HBX.out; simp [World.cell?, this]
          have HBw := Lib.hid (show B ≤ Wb.heap.size by have := HUb.out.size; rw [HBB.out] at this; exact this)
          go_wp2_with (at_builtin; refine wpList_app _ rfl _ _ 87 rfl B 141 iT (.agg #[.int .i64 0, .int .i64 0, .int .i64 0, .int .i64 0]) 4 32 Tryz.underlying87 hiT hT0 hT1 hT2 rfl (by decide) _ _ _ rfl (own_upd HTb.out ((Upd.refl [] _).alloc _) (by simp)) _ 1 [.int .i64 x1, .int .i64 x2, .int .i64 y1, .int .i64 y2] rfl (sees_lit Wb #[.int .i64 x1, .int .i64 x2, .int .i64 y1, .int .i64 y2] 141 4 1 rfl (by decide)) (by simp [Value.oneCell']) (by have := HLN.out; unfold maxLen; omega) (by have := HLN.out; omega) (by have := HBw.out; simp; omega) ?_)
          intro A6 C6 w6 HP
          have u6 : Upd (blk (.slice At T.length Ct)) Wb w6 := ((Upd.refl _ _).alloc _).trans HP.upd
          have r6 : KFl.row w6 B (.slice A6 (T.length + 1) C6) (T ++ [flB ⟨x1, x2, y1, y2, bi⟩]) := by
            have := HP.own
            unfold Kind.row
            rw [Kind.all_app, List.length_append]
            exact this
          have HU6 := Lib.hid (show Upd [] w w6 from HUb.out.trans' u6 (fun j hj => .inr (by rw [HBB.out]; exact own_ge HTb.out j hj)))
          have HR6 := Lib.hid r6
          clear HP u6 r6 c0 c1 c2 c3
          go_wp2_with fail
          go_roundg (l.length - (k + 1))
          case measure => have := HK.out; have := HLT.out; omega
          case rel =>
            refine ⟨k + 1, A6, C6, by have := HK.out; have := HLT.out; omega, ?_, by go_num, ?_, HU6.out⟩
            · rw [HTT.out, List.length_append]; rfl
            · rw [HTT.out, List.length_append]; exact HR6.out
        · have g2 : decide (y1 < y2) = false := decide_eq_false hy
          have hcnt : (⟨x1, x2, y1, y2, bi⟩ : Bx).counts = false := by unfold Bx.counts; simp; omega
          rw [hcnt] at HTT
          clear hx hy hcnt
          go_wp2_with fail
          go_roundg (l.length - (k + 1))
          case measure => have := HK.out; have := HLT.out; omega
          case rel =>
            refine ⟨k + 1, At, Ct, by have := HK.out; have := HLT.out; omega, ?_, by go_num, ?_, HU.out.trans HUA.out⟩ <;> rw [HTT.out, if_neg (by simp), List.append_nil]
            exact own_upd HT.out HUA.out (by simp)
      · have g1 : decide (x1 < x2) = false := decide_eq_false hx
        have hcnt : (⟨x1, x2, y1, y2, bi⟩ : Bx).counts = false := by unfold Bx.counts; simp; omega
        rw [hcnt] at HTT
        clear hx hcnt
        go_wp2_with fail
        go_roundg (l.length - (k + 1))
        case measure => have := HK.out; have := HLT.out; omega
        case rel =>
          refine ⟨k + 1, At, Ct, by have := HK.out; have := HLT.out; omega, ?_, by go_num, ?_, HU.out.trans HUA.out⟩ <;> rw [HTT.out, if_neg (by simp), List.append_nil]
          exact own_upd HT.out HUA.out (by simp)
    · have hke : l.take k = l := List.take_of_length_le (by omega)
      rw [hke] at ht ⊢
      have HR := Lib.hid (And.intro ht hu)
      clear ht hu hk hke
      go_wp2_with fail
      go_ret
      exact ⟨_, _, rfl, HR.out.1, HR.out.2⟩

set_option maxRecDepth 100000 in
set_option maxHeartbeats 8000000 in
theorem upF (v : Value) (l : List Bx) (w : World) (hs : See KBx w v l) (hl : l.length < 400000) :
    Calls Tryz.prog 57 #[v] w fun e w' => ∃ A C, e = .returned (.slice A (flats l).length C) ∧ KFl.row w' w.heap.size (.slice A (flats l).length C) ((flats l).map tuB) ∧ Upd [] w w' := by
  have hr := rightF v l w hs hl
  have hlen := flats_len l
  obtain ⟨T, hT⟩ : ∃ T, flats l = T := ⟨_, rfl⟩
  rw [hT] at hr hlen ⊢
  obtain ⟨n, hn⟩ : ∃ n, T.length = n := ⟨_, rfl⟩
  rw [hn] at hr hlen ⊢
  have HR := Lib.hid hr
  have hnb : (n : Int) < 400000 := by omega
  have HN := Lib.hid hn
  obtain ⟨B, hB⟩ : ∃ B, w.heap.size = B := ⟨_, rfl⟩
  rw [hB] at HR ⊢
  have HBB := Lib.hid hB
  clear hs hr hl hlen hT hn hB
  go_enter Tryz.func57, Tryz.ntmps57
  go_wp2_with fail
  (with_reducible refine HR.out.mono ?_)
  rintro e w1 ⟨A, C, rfl, hrow, hu1⟩
  have HROW := Lib.hid hrow
  have HU1 := Lib.hid hu1
  clear hrow hu1
  go_wp2_with fail
  go_loopg [10] n (fun m s10 wr => ∃ k, m + k = n ∧ s10 = .int .i64 (k : Int) ∧ KFl.row wr B (.slice A n C) ((T.take k).map tuB ++ T.drop k) ∧ Upd [] w wr)
  case atStart => exact ⟨0, rfl, rfl, by simpa using HROW.out, HU1.out⟩
  case round =>
    obtain ⟨k, hk, rfl, ht, hu⟩ := hrel
    have b0 : (0 : Int) ≤ (k : Int) := Int.natCast_nonneg _
    by_cases hlt : k < n
    · obtain ⟨b, hb⟩ : ∃ b, T[k]? = some b := ⟨_, List.getElem?_eq_getElem (by have := HN.out; omega)⟩
      obtain ⟨R, hR⟩ : ∃ R, (T.take k).map tuB ++ T.drop k = R := ⟨_, rfl⟩
      have hlk : ((T.take k).map tuB).length = k := by rw [List.length_map, List.length_take]; have := HN.out; omega
      have hdk : T.drop k = b :: T.drop (k + 1) := by
        have hk' : k < T.length := by have := HN.out; omega
        rw [List.drop_eq_getElem_cons hk']
        have := List.getElem?_eq_getElem hk'
        rw [hb] at this
        cases this
        rfl
      have hRk : R[k]? = some b := by
        rw [← hR, List.getElem?_append_right (by omega), hlk, Nat.sub_self, hdk]; rfl
      have hRn : (T.take (k + 1)).map tuB ++ T.drop (k + 1) = R.set k (tuB b) := by
        rw [← hR, hdk, List.set_append_right _ _ (by omega), hlk, Nat.sub_self, List.set_cons_zero, List.take_add_one, hb, List.map_append, List.append_assoc]
        rfl
      have hRl : R.length = n := by
        rw [← hR, List.length_append, hlk, List.length_drop]; have := HN.out; omega
      rw [hR] at ht
      obtain ⟨g, o, hA, -, -, l0, l1, l2, l3⟩ := KFl.at (See.of_row ht) hRk
      obtain ⟨g', rfl⟩ : ∃ g', A = some ⟨g', 0, none⟩ := by
        rcases ht.2 with ⟨h, -⟩ | ⟨g', cap, cur, h1, -⟩
        · cases h; simp at hA
        · cases h1; exact ⟨g', rfl⟩
      cases hA
      rw [Nat.zero_add] at l0 l1 l2 l3
      obtain ⟨x1, x2, y1, y2, bi⟩ := b
      dsimp only at l0 l1 l2 l3
      have b1 : (k : Int) < (n : Int) := by omega
      have hrow : KFl.row wr B (.slice (some ⟨g, 0, none⟩) n C) R := ht
      have hua : Upd [] wr (wr.alloc (.cells #[.int .i64 x1, .int .i64 x2, .int .i64 y1, .int .i64 y2] 141)) := (Upd.refl _ _).alloc _
      have hbx : (wr.alloc (.cells #[.int .i64 x1, .int .i64 x2, .int .i64 y1, .int .i64 y2] 141)).heap[wr.heap.size]? = some (.cells #[.int .i64 x1, .int .i64 x2, .int .i64 y1, .int .i64 y2] 141 (0, 0)) := heap_alloc_new _ _
      have HUA := Lib.hid hua
      have HBX := Lib.hid hbx
      have HROWk := Lib.hid hrow
      have HRN := Lib.hid (And.intro hRn hRl)
      have HU := Lib.hid hu
      have HK := Lib.hid (And.intro hk hlt)
      clear ht hb hR hlk hdk hRk hRn hRl hrow hua hbx hu hk hlt
      go_upto_region 5 with fail
      have HTb := Lib.hid (show KFl.row _ B _ R from own_upd HROWk.out HUA.out (by simp))
      have HUb := Lib.hid (HU.out.trans HUA.out)
      generalize (wr.alloc (.cells #[.int .i64 x1, .int .i64 x2, .int .i64 y1, .int .i64 y2] 141)) = Wb at HBX HTb HUb HUA ⊢
      generalize wr.heap.size = q at HBX ⊢
      have c0 : Wb.cell? ⟨q, 0, none⟩ = some (.int .i64 x1) := by have := HBX.out; simp [World.cell?, this]
      have c1 : Wb.cell? ⟨q, 1, none⟩ = some (.int .i64 x2) := by have := HBX.out; simp [World.cell?, this]
      have c2 : Wb.cell? ⟨q, 2, none⟩ = some (.int .i64 y1) := by have := HBX.out; simp [World.cell?, this]
      have c3 : Wb.cell? ⟨q, 3, none⟩ = some (.int .i64 y2) := by have := HBX.out; simp [World.cell?, this]
      have HTH := Lib.hid (own_there (o := k * 4) (m := 4) (show Wb.ownsRow B 141 4 (.slice (some ⟨g, 0, none⟩) n C) n (KFl.all R) by have := HTb.out; unfold Kind.row at this; rw [HRN.out.2] at this; exact this) (by have := HK.out.2; omega))
      have HPUT := Lib.hid (KFl.put HTb.out HRN.out.2 HK.out.2 ⟨y1, y2, x1, x2, 0⟩)
      have HUP := Lib.hid (HUb.out.trans' (upd_puts g [.int .i64 y1, .int .i64 y2, .int .i64 x1, .int .i64 x2] (k * 4) Wb) (fun j hj => .inr (by rw [HBB.out]; simp at hj; rw [hj]; exact own_ge HTb.out g (by simp [blk]))))
      iterate 37 go_step
      refine wpList_store_mid (P := Tryz.prog) (x := .tmp 26) (y := .tmp 25) rfl 141 rfl g (k * 4) #[.int .i64 y1, .int .i64 y2, .int .i64 x1, .int .i64 x2] (by simp [Act.eval]) (by simp [Act.eval]) HTH.out (by kernel_rfl) (all_oneCell_toArray (by simp [Value.oneCell'])) ?_
      simp only [Act.put]
      go_wp2_with fail
      go_roundg (n - (k + 1))
      case measure => have := HK.out; omega
      case rel =>
        refine ⟨k + 1, by have := HK.out; omega, by go_num, ?_, HUP.out⟩
        rw [HRN.out.1]
        exact HPUT.out
    · have hke : T.take k = T := List.take_of_length_le (by have := HN.out; omega)
      have hkd : T.drop k = [] := List.drop_eq_nil_of_le (by have := HN.out; omega)
      rw [hke, hkd, List.append_nil] at ht
      have HR := Lib.hid (And.intro ht hu)
      clear ht hu hk hke hkd
      go_wp2_with fail
      go_ret
      exact ⟨_, _, rfl, HR.out.1, HR.out.2⟩
end Go.Proofs.YtokpdocabmaagaaGreat
