/- gridironlaw17.Boxes: small boxes as boxes. -/
import Derived.Test.YtokpdocabmaagaaGreatSmallB
import Derived.Test.YtokpdocabmaagaaGreatLaw17
namespace Go.Proofs.YtokpdocabmaagaaGreat
open Go.RowKit

set_option maxRecDepth 100000 in
set_option maxHeartbeats 4000000 in
theorem boxesC (v : Value) (l : List Sm) (w : World) (hs : See KSm w v l) (hok : ∀ s ∈ l, s.ok) (hl : l.length ≤ 30) :
    Calls Tryz.prog 27 #[v] w (BoxesPost w l) := by
  obtain ⟨A, C, rfl⟩ := hs.form
  obtain ⟨iB, hiB, hB0, hB1, hB2⟩ := info_parts info_bxS
  unfold BoxesPost
  obtain ⟨n, hn⟩ : ∃ n, l.length = n := ⟨_, rfl⟩
  have hs' : See KSm w (.slice A n C) l := by rw [← hn]; exact hs
  have hnb : (n : Int) ≤ 30 := by omega
  rw [hn]
  obtain ⟨B, hB⟩ : ∃ B, w.heap.size = B := ⟨_, rfl⟩
  have HN := Lib.hid hn
  have HS := Lib.hid hs'
  have HOK := Lib.hid hok
  have HBB := Lib.hid hB
  clear hs hok hl hs' hn hB
  go_enter Tryz.func27, Tryz.ntmps27
  go_wp2_with fail
  go_loopg [3, 8] n (fun m s3 s8 wr => ∃ k A3 C3, m + k = n ∧ s3 = .slice A3 k C3 ∧ s8 = .int .i64 (k : Int) ∧ KBx.row wr B (.slice A3 k C3) ((l.take k).map smB) ∧ Upd [] w wr)
  case atStart => exact ⟨0, none, 0, rfl, rfl, rfl, World.ownsRow_nil _ _ _ _, Upd.refl _ _⟩
  case round =>
    obtain ⟨k, A3, C3, hk, rfl, rfl, hrow, hu⟩ := hrel
    have b0 : (0 : Int) ≤ (k : Int) := Int.natCast_nonneg _
    by_cases hlt : k < n
    · obtain ⟨s, hsi⟩ : ∃ s, l[k]? = some s := ⟨_, List.getElem?_eq_getElem (by have := HN.out; omega)⟩
      have hso := HOK.out s (List.mem_of_getElem? hsi)
      obtain ⟨bl, ol, hA, l0, l1, l2, l3⟩ := KSm.at (HS.out.upd0 hu) hsi
      subst hA
      have b1 : (k : Int) < (n : Int) := by omega
      have htk : (l.take (k + 1)).map smB = (l.take k).map smB ++ [smB s] := by rw [List.take_add_one, hsi, List.map_append]; rfl
      obtain ⟨R, hR⟩ : ∃ R, (l.take k).map smB = R := ⟨_, rfl⟩
      have hRl : R.length = k := by rw [← hR, List.length_map, List.length_take, HN.out]; omega
      rw [hR] at hrow htk
      have hrow' : wr.ownsRow B 34 5 (.slice A3 k C3) k (KBx.all R) := by have := hrow; unfold Kind.row at this; rw [hRl] at this; exact this
      have HROW := Lib.hid hrow'
      have HTK := Lib.hid htk
      have HRL := Lib.hid hRl
      have HU := Lib.hid hu
      have HK := Lib.hid (And.intro hk hlt)
      have HSO := Lib.hid hso
      have hua : Upd [] wr (wr.alloc (.cells #[.int .u8 (s.x1 : Int), .int .u8 (s.x2 : Int), .int .u8 (s.y1 : Int), .int .u8 (s.y2 : Int)] 83)) := (Upd.refl _ _).alloc _
      have hbx : (wr.alloc (.cells #[.int .u8 (s.x1 : Int), .int .u8 (s.x2 : Int), .int .u8 (s.y1 : Int), .int .u8 (s.y2 : Int)] 83)).heap[wr.heap.size]? = some (.cells #[.int .u8 (s.x1 : Int), .int .u8 (s.x2 : Int), .int .u8 (s.y1 : Int), .int .u8 (s.y2 : Int)] 83 (0, 0)) := heap_alloc_new _ _
      have HUA := Lib.hid hua
      have HBX := Lib.hid hbx
      clear hrow hrow' htk hRl hu hk hlt hso hua hbx hsi hR
      go_upto_region 5 with fail
      generalize (wr.alloc (.cells #[.int .u8 (s.x1 : Int), .int .u8 (s.x2 : Int), .int .u8 (s.y1 : Int), .int .u8 (s.y2 : Int)] 83)) = Wb at HBX HUA ⊢
      generalize wr.heap.size = q at HBX ⊢
      have c0 : Wb.cell? ⟨q, 0, none⟩ = some (.int .u8 (s.x1 : Int)) := by have := HBX.out; simp [World.cell?, this]
      have c1 : Wb.cell? ⟨q, 1, none⟩ = some (.int .u8 (s.x2 : Int)) := by have := HBX.out; simp [World.cell?, this]
      have c2 : Wb.cell? ⟨q, 2, none⟩ = some (.int .u8 (s.y1 : Int)) := by have := HBX.out; simp [World.cell?, this]
      have c3 : Wb.cell? ⟨q, 3, none⟩ = some (.int .u8 (s.y2 : Int)) := by have := HBX.out; simp [World.cell?, this]
      go_wp2_with fail
      clear c0 c1 c2 c3
      (with_reducible refine (boxC17 _ _ _ _ _).mono ?_)
      rintro e w1 ⟨rfl, hu1⟩
      have U1 := Lib.hid (show Upd [] wr (w1.alloc (.cells #[.int .i64 ((s.x1 : Int) % 16), .int .i64 ((s.x2 : Int) % 16), .int .i64 ((s.y1 : Int) % 16), .int .i64 ((s.y2 : Int) % 16), .int .u32 0] 34)) from HUA.out.trans (hu1.alloc _))
      have T1 := Lib.hid (own_upd HROW.out U1.out (by simp))
      have HW1 := Lib.hid (show B ≤ w1.heap.size from by have := (HU.out.trans (HUA.out.trans hu1)).size; rw [HBB.out] at this; exact this)
      clear hu1
      go_wp2_with (at_builtin; refine wpList_app _ rfl _ _ 22 rfl B 34 iB (.agg #[.int .i64 0, .int .i64 0, .int .i64 0, .int .i64 0, .int .u32 0]) 5 40 Tryz.underlying22 hiB hB0 hB1 hB2 rfl (by decide) _ _ _ rfl T1.out _ 1 [.int .i64 ((s.x1 : Int) % 16), .int .i64 ((s.x2 : Int) % 16), .int .i64 ((s.y1 : Int) % 16), .int .i64 ((s.y2 : Int) % 16), .int .u32 0] rfl (sees_lit w1 #[.int .i64 ((s.x1 : Int) % 16), .int .i64 ((s.x2 : Int) % 16), .int .i64 ((s.y1 : Int) % 16), .int .i64 ((s.y2 : Int) % 16), .int .u32 0] 34 5 1 rfl (by decide)) (by simp [Value.oneCell']) (by have := HK.out; unfold maxLen; omega) (by have := HK.out; omega) (by have := HW1.out; simp; omega) ?_)
      intro A6 C6 w6 HP
      have r6 : KBx.row w6 B (.slice A6 (k + 1) C6) (R ++ [smB s]) := by
        have := HP.own
        unfold Kind.row
        rw [Kind.all_app, List.length_append, HRL.out]
        exact this
      have HR6 := Lib.hid (And.intro r6 (show Upd [] w w6 from (HU.out.trans U1.out).trans' HP.upd (fun j hj => .inr (by rw [HBB.out]; exact own_ge T1.out j hj))))
      clear HP r6
      go_wp2_with fail
      go_roundg (n - (k + 1))
      case measure => have := HK.out; omega
      case rel => exact ⟨k + 1, A6, C6, by have := HK.out; omega, rfl, by go_num, by rw [HTK.out]; exact HR6.out.1, HR6.out.2⟩
    · have hkn : k = n := by omega
      have htk : l.take k = l := List.take_of_length_le (by have := HN.out; omega)
      rw [htk, hkn] at hrow
      rw [hkn]
      have HR := Lib.hid (And.intro hrow hu)
      clear hrow hu htk hkn hk hlt
      have hnn : ¬ (n : Int) < (n : Int) := by omega
      go_wp2_with fail
      go_ret
      refine ⟨_, _, rfl, ?_, HR.out.2⟩
      rw [HBB.out]
      exact HR.out.1
end Go.Proofs.YtokpdocabmaagaaGreat
