/- gridironlaw18.boxes, covered: small boxes as boxes; is a cell covered? -/
import Derived.Test.YtokpdocabmaagaaGreatOpenBx
import Derived.Test.YtokpdocabmaagaaGreatVarB
import Derived.WalkKit
import Derived.LoopTactic
import Derived.Deep.Cut
import Derived.Deep.LoopGhost
import Derived.IntWalk
import Derived.Test.YtokpdocabmaagaaGreatAw18
namespace Go.Proofs.YtokpdocabmaagaaGreat
open Go.RowKit

/-- A small box: four numbers of 8 bits. -/
structure Sm where
  x1 : Nat
  x2 : Nat
  y1 : Nat
  y2 : Nat
def Sm.ok (s : Sm) : Prop := s.x1 < 256 ∧ s.x2 < 256 ∧ s.y1 < 256 ∧ s.y2 < 256
def smB (s : Sm) : Bx := ⟨(s.x1 : Int) % 16, (s.x2 : Int) % 16, (s.y1 : Int) % 16, (s.y2 : Int) % 16, 0⟩

def KSm : Kind Sm := { T := 0, sT := 51, eT := 96, sz := 4, enc := fun s => [.int .u8 (s.x1 : Int), .int .u8 (s.x2 : Int), .int .u8 (s.y1 : Int), .int .u8 (s.y2 : Int)], len := fun _ => rfl, one := fun x u hu => by simp at hu; rcases hu with rfl | rfl | rfl | rfl <;> rfl }

theorem KSm.at {w : World} {A : Option Addr} {n C : Nat} {l : List Sm} (h : See KSm w (.slice A n C) l) {k : Nat} {s : Sm} (hx : l[k]? = some s) :
    ∃ b o, A = some ⟨b, o, none⟩ ∧ w.cell? ⟨b, o + k * 4, none⟩ = some (.int .u8 (s.x1 : Int)) ∧ w.cell? ⟨b, o + k * 4 + 1, none⟩ = some (.int .u8 (s.x2 : Int)) ∧ w.cell? ⟨b, o + k * 4 + 2, none⟩ = some (.int .u8 (s.y1 : Int)) ∧ w.cell? ⟨b, o + k * 4 + 3, none⟩ = some (.int .u8 (s.y2 : Int)) := by
  obtain ⟨b, o, h1, h2, h3, h4⟩ := h.at hx
  exact ⟨b, o, h1, h4 0 _ rfl, h4 1 _ rfl, h4 2 _ rfl, h4 3 _ rfl⟩

def IsSms (w : World) (v : Value) (l : List Sm) : Prop := See KSm w v l

theorem u8_nat {x : Int} (h : (Lit.int .u8 x).wf = true) : ∃ n : Nat, x = (n : Int) ∧ n < 256 := by
  simp [Lit.wf, IntKind.min, IntKind.max, IntKind.signed, IntKind.bits] at h
  exact ⟨x.toNat, by omega, by omega⟩

theorem sms_of_rows {w : World} {v : Value} {rows : List (List Value)} (h : SeesRows w 4 v rows) (hr : ∀ r ∈ rows, ∃ s : Sm, r = KSm.enc s ∧ s.ok) :
    ∃ l : List Sm, l.length = rows.length ∧ IsSms w v l ∧ ∀ s ∈ l, s.ok := by
  have : ∃ l : List Sm, rows = l.map KSm.enc ∧ ∀ s ∈ l, s.ok := by
    clear h
    induction rows with
    | nil => exact ⟨[], rfl, by simp⟩
    | cons a rows ih =>
      obtain ⟨l, e, hl⟩ := ih fun r h => hr r (by simp [h])
      obtain ⟨b, e1, e2⟩ := hr a (by simp)
      refine ⟨b :: l, by rw [e, e1]; rfl, fun o ho => ?_⟩
      rcases List.mem_cons.1 ho with rfl | ho
      · exact e2
      · exact hl o ho
  obtain ⟨l, rfl, hl⟩ := this
  refine ⟨l, by simp, ?_, hl⟩
  have := h.2
  rw [List.length_map] at this
  unfold IsSms See Kind.all
  rw [List.flatMap]
  exact this

/-- What Boxes leaves. -/
def BoxesPost (w : World) (l : List Sm) (e : Ending) (w' : World) : Prop := ∃ A C, e = .returned (.slice A l.length C) ∧ KBx.row w' w.heap.size (.slice A l.length C) (l.map smB) ∧ Upd [] w w'

theorem info_bxS : (Tryz.prog.info? 34).map (fun i => (i.zero, i.size, i.bytes)) = some (some (.agg #[.int .i64 0, .int .i64 0, .int .i64 0, .int .i64 0, .int .u32 0]), 5, 40) := by kernel_rfl
end Go.Proofs.YtokpdocabmaagaaGreat

namespace Go.Proofs.YtokpdocabmaagaaGreat
open Go.ChangeShapes Go.WideShapes Go.Deep Go.RowKit

theorem sms_opened {H : Type} {enc : TypeId × Value → H} {w : World} {base : Nat} {held : Bool} {fuel : Nat} {v : Value} {x : DataW H × List MemPlace}
    (h : DataW.trod enc Tryz.prog w base (fun _ => true) held fuel 51 [v] = some x) :
    ∃ l : List Sm, IsSms w v l ∧ (∀ s ∈ l, s.ok) ∧ l.length ≤ maxLen := by
  obtain ⟨rows, h1, h2, h3⟩ := structs_of_arg Tryz.underlying51 Tryz.underlying96 (by kernel_rfl) (by kernel_rfl) (by decide) (fun _ => rfl) h
  obtain ⟨l, e, h4, h5⟩ := sms_of_rows (rows := rows) h1 (fun r hr => by
    obtain ⟨i, hi⟩ := List.mem_iff_getElem?.1 hr
    obtain ⟨u0, y0, n0, g0, t0⟩ := h3 i r hi 0 _ rfl
    obtain ⟨u1, y1, n1, g1, t1⟩ := h3 i r hi 1 _ rfl
    obtain ⟨u2, y2, n2, g2, t2⟩ := h3 i r hi 2 _ rfl
    obtain ⟨u3, y3, n3, g3, t3⟩ := h3 i r hi 3 _ rfl
    obtain ⟨a0, e0, _, w0⟩ := DataW.trod_int Tryz.underlying5 t0
    obtain ⟨a1, e1, _, w1⟩ := DataW.trod_int Tryz.underlying5 t1
    obtain ⟨a2, e2, _, w2⟩ := DataW.trod_int Tryz.underlying5 t2
    obtain ⟨a3, e3, _, w3⟩ := DataW.trod_int Tryz.underlying5 t3
    have hl : r.length = 4 := h1.1 r hr
    injection e0 with e0 _
    injection e1 with e1 _
    injection e2 with e2 _
    injection e3 with e3 _
    subst e0 e1 e2 e3
    obtain ⟨m0, rfl, k0⟩ := u8_nat w0
    obtain ⟨m1, rfl, k1⟩ := u8_nat w1
    obtain ⟨m2, rfl, k2⟩ := u8_nat w2
    obtain ⟨m3, rfl, k3⟩ := u8_nat w3
    refine ⟨⟨m0, m1, m2, m3⟩, ?_, k0, k1, k2, k3⟩
    match r, hl with
    | [c0, c1, c2, c3], _ =>
      simp at g0 g1 g2 g3
      rw [g0, g1, g2, g3]
      rfl)
  exact ⟨l, h4, h5, by rw [e]; exact h2⟩
end Go.Proofs.YtokpdocabmaagaaGreat

namespace Go.Proofs.YtokpdocabmaagaaGreat
open Go.RowKit

set_option maxRecDepth 100000 in
set_option maxHeartbeats 4000000 in
theorem boxesC (v : Value) (l : List Sm) (w : World) (hs : See KSm w v l) (hok : ∀ s ∈ l, s.ok) (hl : l.length ≤ 30) :
    Calls Tryz.prog 34 #[v] w (BoxesPost w l) := by
  obtain ⟨A, C, rfl⟩ := hs.form
  obtain ⟨iB, hiB, hB0, hB1, hB2⟩ := info_parts info_bxS
  unfold BoxesPost
  obtain ⟨n, hn⟩ : ∃ n, l.length = n := ⟨_, rfl⟩
  have hs' : See KSm w (.slice A n C) l := by rw [← hn]; exact hs
  have hnb : (n : Int) ≤ 30 := by omega
  rw [hn]
  obtain ⟨B, hB⟩ : ∃ B, w.heap.size = B := ⟨_, rfl⟩
  have HN := Lib.hid hn
  have HS := Lib.hid hs'
  have HOK := Lib.hid hok
  have HBB := Lib.hid hB
  clear hs hok hl hs' hn hB
  go_enter Tryz.func34, Tryz.ntmps34
  go_wp2_with fail
  go_loopg [3, 8] n (fun m s3 s8 wr => ∃ k A3 C3, m + k = n ∧ s3 = .slice A3 k C3 ∧ s8 = .int .i64 (k : Int) ∧ KBx.row wr B (.slice A3 k C3) ((l.take k).map smB) ∧ Upd [] w wr)
  case atStart => exact ⟨0, none, 0, rfl, rfl, rfl, World.ownsRow_nil _ _ _ _, Upd.refl _ _⟩
  case round =>
    obtain ⟨k, A3, C3, hk, rfl, rfl, hrow, hu⟩ := hrel
    have b0 : (0 : Int) ≤ (k : Int) := Int.natCast_nonneg _
    by_cases hlt : k < n
    · obtain ⟨s, hsi⟩ : ∃ s, l[k]? = some s := ⟨_, List.getElem?_eq_getElem (by have := HN.out; omega)⟩
      have hso := HOK.out s (List.mem_of_getElem? hsi)
      obtain ⟨bl, ol, hA, l0, l1, l2, l3⟩ := KSm.at (HS.out.upd0 hu) hsi
      subst hA
      have b1 : (k : Int) < (n : Int) := by omega
      have htk : (l.take (k + 1)).map smB = (l.take k).map smB ++ [smB s] := by rw [List.take_add_one, hsi, List.map_append]; rfl
      obtain ⟨R, hR⟩ : ∃ R, (l.take k).map smB = R := ⟨_, rfl⟩
      have hRl : R.length = k := by rw [← hR, List.length_map, List.length_take, HN.out]; omega
      rw [hR] at hrow htk
      have hrow' : wr.ownsRow B 34 5 (.slice A3 k C3) k (KBx.all R) := by have := hrow; unfold Kind.row at this; rw [hRl] at this; exact this
      have HROW := Lib.hid hrow'
      have HTK := Lib.hid htk
      have HRL := Lib.hid hRl
      have HU := Lib.hid hu
      have HK := Lib.hid (And.intro hk hlt)
      have HSO := Lib.hid hso
      have hua : Upd [] wr (wr.alloc (.cells #[.int .u8 (s.x1 : Int), .int .u8 (s.x2 : Int), .int .u8 (s.y1 : Int), .int .u8 (s.y2 : Int)] 96)) := (Upd.refl _ _).alloc _
      have hbx : (wr.alloc (.cells #[.int .u8 (s.x1 : Int), .int .u8 (s.x2 : Int), .int .u8 (s.y1 : Int), .int .u8 (s.y2 : Int)] 96)).heap[wr.heap.size]? = some (.cells #[.int .u8 (s.x1 : Int), .int .u8 (s.x2 : Int), .int .u8 (s.y1 : Int), .int .u8 (s.y2 : Int)] 96 (0, 0)) := heap_alloc_new _ _
      have HUA := Lib.hid hua
      have HBX := Lib.hid hbx
      clear hrow hrow' htk hRl hu hk hlt hso hua hbx hsi hR
      go_upto_region 5 with fail
      generalize (wr.alloc (.cells #[.int .u8 (s.x1 : Int), .int .u8 (s.x2 : Int), .int .u8 (s.y1 : Int), .int .u8 (s.y2 : Int)] 96)) = Wb at HBX HUA ⊢
      generalize wr.heap.size = q at HBX ⊢
      have c0 : Wb.cell? ⟨q, 0, none⟩ = some (.int .u8 (s.x1 : Int)) := by have := HBX.out; simp [World.cell?, this]
      have c1 : Wb.cell? ⟨q, 1, none⟩ = some (.int .u8 (s.x2 : Int)) := by have := HBX.out; simp [World.cell?, this]
      have c2 : Wb.cell? ⟨q, 2, none⟩ = some (.int .u8 (s.y1 : Int)) := by have := HBX.out; simp [World.cell?, this]
      have c3 : Wb.cell? ⟨q, 3, none⟩ = some (.int .u8 (s.y2 : Int)) := by have := HBX.out; simp [World.cell?, this]
      go_wp2_with fail
      clear c0 c1 c2 c3
      (with_reducible refine (boxC18 _ _ _ _ _).mono ?_)
      rintro e w1 ⟨rfl, hu1⟩
      have U1 := Lib.hid (show Upd [] wr (w1.alloc (.cells #[.int .i64 ((s.x1 : Int) % 16), .int .i64 ((s.x2 : Int) % 16), .int .i64 ((s.y1 : Int) % 16), .int .i64 ((s.y2 : Int) % 16), .int .u32 0] 34)) from HUA.out.trans (hu1.alloc _))
      have T1 := Lib.hid (own_upd HROW.out U1.out (by simp))
      have HW1 := Lib.hid (show B ≤ w1.heap.size from by have := (HU.out.trans (HUA.out.trans hu1)).size; rw [HBB.out] at this; exact this)
      clear hu1
      go_wp2_with (at_builtin; refine wpList_app _ rfl _ _ 22 rfl B 34 iB (.agg #[.int .i64 0, .int .i64 0, .int .i64 0, .int .i64 0, .int .u32 0]) 5 40 Tryz.underlying22 hiB hB0 hB1 hB2 rfl (by decide) _ _ _ rfl T1.out _ 1 [.int .i64 ((s.x1 : Int) % 16), .int .i64 ((s.x2 : Int) % 16), .int .i64 ((s.y1 : Int) % 16), .int .i64 ((s.y2 : Int) % 16), .int .u32 0] rfl (sees_lit w1 #[.int .i64 ((s.x1 : Int) % 16), .int .i64 ((s.x2 : Int) % 16), .int .i64 ((s.y1 : Int) % 16), .int .i64 ((s.y2 : Int) % 16), .int .u32 0] 34 5 1 rfl (by decide)) (by simp [Value.oneCell']) (by have := HK.out; unfold maxLen; omega) (by have := HK.out; omega) (by have := HW1.out; simp; omega) ?_)
      intro A6 C6 w6 HP
      have r6 : KBx.row w6 B (.slice A6 (k + 1) C6) (R ++ [smB s]) := by
        have := HP.own
        unfold Kind.row
        rw [Kind.all_app, List.length_append, HRL.out]
        exact this
      have HR6 := Lib.hid (And.intro r6 (show Upd [] w w6 from (HU.out.trans U1.out).trans' HP.upd (fun j hj => .inr (by rw [HBB.out]; exact own_ge T1.out j hj))))
      clear HP r6
      go_wp2_with fail
      go_roundg (n - (k + 1))
      case measure => have := HK.out; omega
      case rel => exact ⟨k + 1, A6, C6, by have := HK.out; omega, rfl, by go_num, by rw [HTK.out]; exact HR6.out.1, HR6.out.2⟩
    · have hkn : k = n := by omega
      have htk : l.take k = l := List.take_of_length_le (by have := HN.out; omega)
      rw [htk, hkn] at hrow
      rw [hkn]
      have HR := Lib.hid (And.intro hrow hu)
      clear hrow hu htk hkn hk hlt
      have hnn : ¬ (n : Int) < (n : Int) := by omega
      go_wp2_with fail
      go_ret
      refine ⟨_, _, rfl, ?_, HR.out.2⟩
      rw [HBB.out]
      exact HR.out.1
end Go.Proofs.YtokpdocabmaagaaGreat

namespace Go.Proofs.YtokpdocabmaagaaGreat
open Go.RowKit

theorem take_cov18 {L : List Bx} {j : Nat} {b : Bx} (h : L[j]? = some b) (x y : Int) : covB (L.take (j + 1)) x y = (covB (L.take j) x y || b.cell x y) := by
  unfold covB
  rw [List.take_add_one, h]
  simp [List.any_append]

set_option maxRecDepth 100000 in
set_option maxHeartbeats 2000000 in
theorem covered18 (v : Value) (L : List Bx) (x y : Int) (w : World) (hs : See KBx w v L) (hl : L.length < 1000000) :
    Calls Tryz.prog 38 #[v, .int .i64 x, .int .i64 y] w fun e w' => e = .returned (.bool (covB L x y)) ∧ Upd [] w w' := by
  obtain ⟨A, C, rfl⟩ := hs.form
  obtain ⟨n, hn⟩ : ∃ n, L.length = n := ⟨_, rfl⟩
  have hs' : See KBx w (.slice A n C) L := by rw [← hn]; exact hs
  rw [hn]
  have HS := Lib.hid hs'
  have HN := Lib.hid hn
  have hnb : (n : Int) < 1000000 := by omega
  clear hs hl hs' hn
  go_enter Tryz.func38, Tryz.ntmps38
  go_wp2_with fail
  go_loopg [11] n (fun m s25 wr => ∃ j : Nat, m + j = n ∧ s25 = .int .i64 (j : Int) ∧ covB (L.take j) x y = false ∧ Upd [] w wr)
  case atStart => exact ⟨0, rfl, rfl, rfl, Upd.refl _ _⟩
  case round =>
    obtain ⟨j, hj, rfl, hcv, huj⟩ := hrel
    have j0 : (0 : Int) ≤ (j : Int) := Int.natCast_nonneg _
    by_cases hltj : j < n
    · have j1 : (j : Int) < (n : Int) := by omega
      obtain ⟨b, hbi⟩ : ∃ b, L[j]? = some b := ⟨_, List.getElem?_eq_getElem (by have := HN.out; omega)⟩
      obtain ⟨bl, ol, hA, -, -, l0, l1, l2, l3, l4⟩ := KBx.at (HS.out.upd0 huj) hbi
      subst hA
      have htk := take_cov18 hbi x y
      rw [hcv, Bool.false_or] at htk
      have hall : b.cell x y = true → covB L x y = true := fun h => by
        unfold covB
        rw [List.any_eq_true]
        exact ⟨b, List.mem_of_getElem? hbi, h⟩
      have hcell := fun W => cellC b x y W
      obtain ⟨t, ht⟩ : ∃ t, b.cell x y = t := ⟨_, rfl⟩
      rw [ht] at hcell htk hall
      unfold bxV at hcell
      have HJ := Lib.hid (And.intro hj hltj)
      have HUJ := Lib.hid (huj.trans ((Upd.refl [] wr).alloc (.cells #[.int .i64 b.x1, .int .i64 b.x2, .int .i64 b.y1, .int .i64 b.y2, .int .u32 (b.id : Int)] 34)))
      have HBN := Lib.hid (BAt.new wr b)
      have HCELL := Lib.hid hcell
      have HTK := Lib.hid htk
      have HALL := Lib.hid hall
      clear hj hltj huj hcv hbi htk hall hcell ht
      go_upto_region 4 with fail
      generalize (wr.alloc (.cells #[.int .i64 b.x1, .int .i64 b.x2, .int .i64 b.y1, .int .i64 b.y2, .int .u32 (b.id : Int)] 34)) = Wb at HBN HUJ ⊢
      generalize wr.heap.size = r at HBN ⊢
      obtain ⟨c0, c1, c2, c3, c4⟩ := HBN.out.cells
      go_wp2_with fail
      clear c0 c1 c2 c3 c4
      (with_reducible refine (HCELL.out _).mono ?_)
      rintro e w4 ⟨rfl, hu4⟩
      have HU4 := Lib.hid (HUJ.out.trans hu4)
      clear hu4
      cases t
      · go_wp2_with fail
        go_roundg (n - (j + 1))
        case measure => have := HJ.out; omega
        case rel => exact ⟨j + 1, by have := HJ.out; omega, by go_num, HTK.out, HU4.out⟩
      · go_wp2_with fail
        go_ret
        exact ⟨by rw [HALL.out (by trivial)]; rfl, HU4.out⟩
    · have htk : L.take j = L := List.take_of_length_le (by have := HN.out; omega)
      rw [htk] at hcv
      have HCV := Lib.hid hcv
      have HUJ := Lib.hid huj
      have nj : ¬ (j : Int) < (n : Int) := by omega
      clear hcv huj htk hj hltj
      go_wp2_with fail
      go_ret
      exact ⟨by rw [HCV.out]; rfl, HUJ.out⟩
end Go.Proofs.YtokpdocabmaagaaGreat
