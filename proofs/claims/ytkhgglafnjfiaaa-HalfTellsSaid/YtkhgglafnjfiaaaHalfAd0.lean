/- Half.Add: what the two appends make. -/
import Derived.Test.YtkhgglafnjfiaaaHalfN
import Derived.Deep.RegionLaw
import Derived.Deep.DrawnRows
namespace Go.Proofs.Ytkhgglafnjfiaaa
open Go.RowKit
attribute [local go_sem ↓] Go.wp_at_zero Go.wp_at_succ

def addS0 (S : HS) (x : Int) (t p : Nat) : HS := { cs := S.cs ++ [(x, S.al.length)], al := S.al ++ [true], lv := S.lv ++ [t], tr := S.tr, mp := mput S.mp x S.al.length, wk := S.wk + p }

theorem app_out {w wb w4 : World} {e n m A C : _} {xs news : List Value} {v : Value} (hb : Upd [] w wb) (HP : AppPost wb w4 0 e 1 v n xs m news A C) :
    Upd (blk v) w w4 ∧ w4.ownsRow 0 e 1 (.slice A (n + m) C) (n + m) (xs ++ news) ∧ ∀ x ∈ blk (.slice A (n + m) C), x ∈ blk v ∨ w.heap.size ≤ x := by
  refine ⟨(hb.mono (by simp)).trans HP.upd, HP.own, fun x hx => ?_⟩
  rcases HP.at with h | h
  · rw [h] at hx; exact .inl hx
  · rw [h] at hx; simp at hx; rw [hx]; exact .inr hb.size

theorem HalfAt.pushed {w w4 w5 wf : World} {h cb mb : Nat} {tv av lvv : Value} {ps : List Value} {Fc : List Nat} {Fs : List (List Nat)} {S : HS} (H : HalfAt w h cb mb tv av lvv ps Fc Fs S) {A4 A5 : Option Addr} {C4 C5 t : Nat}
    (hu4 : Upd (blk av) w w4) (ho4 : w4.ownsRow 0 4 1 (.slice A4 (S.al.length + 1) C4) (S.al.length + 1) (S.al.map .bool ++ [.bool true])) (hb4 : ∀ x ∈ blk (.slice A4 (S.al.length + 1) C4), x ∈ blk av ∨ w.heap.size ≤ x)
    (hu5 : Upd (blk lvv) w4 w5) (ho5 : w5.ownsRow 0 3 1 (.slice A5 (S.lv.length + 1) C5) (S.lv.length + 1) ((S.lv.map fun (n : Nat) => .int .i64 (n : Int)) ++ [.int .i64 (t : Int)])) (hb5 : ∀ x ∈ blk (.slice A5 (S.lv.length + 1) C5), x ∈ blk lvv ∨ w4.heap.size ≤ x)
    (hwf : wf = (w5.setCell ⟨h, 4, none⟩ (.slice A4 (S.al.length + 1) C4)).setCell ⟨h, 5, none⟩ (.slice A5 (S.lv.length + 1) C5) ∨ wf = (w5.setCell ⟨h, 5, none⟩ (.slice A5 (S.lv.length + 1) C5)).setCell ⟨h, 4, none⟩ (.slice A4 (S.al.length + 1) C4)) :
    HStep w wf (.pointer (some ⟨h, 0, none⟩)) (parts h Fc tv av lvv mb Fs).flatten { S with al := S.al ++ [true], lv := S.lv ++ [t] } := by
  have hha : h ∉ blk av := fun hc => H.dis (i := 0) (j := 3) rfl rfl (by omega) h (by simp) hc
  have hhl : h ∉ blk lvv := fun hc => H.dis (i := 0) (j := 4) rfl rfl (by omega) h (by simp) hc
  have hlt := lt_of_block H.head
  have hlt4 := Nat.lt_of_lt_of_le hlt hu4.size
  have hh5 := (hu5.block h hlt4 hhl).trans ((hu4.block h hlt hha).trans H.head)
  have hu45 : Upd (h :: (blk av ++ blk lvv)) w w5 := (hu4.mono (by intro x hx; left; simp [hx])).trans (hu5.mono (by intro x hx; left; simp [hx]))
  have hl4 := own_lt H.lrow
  have n4 : ∀ x ∈ blk (.slice A4 (S.al.length + 1) C4), x ≠ h := by
    intro x hx e; subst e
    rcases hb4 x hx with g | g
    · exact hha g
    · omega
  have n5 : ∀ x ∈ blk (.slice A5 (S.lv.length + 1) C5), x ≠ h := by
    intro x hx e; subst e
    rcases hb5 x hx with g | g
    · exact hhl g
    · omega
  have d45 : ∀ x ∈ blk (.slice A4 (S.al.length + 1) C4), x ∉ blk lvv := by
    intro x hx hc
    rcases hb4 x hx with g | g
    · exact H.dis (i := 3) (j := 4) rfl rfl (by omega) x g hc
    · have := hl4 x hc; omega
  have ho4' := own_upd ho4 hu5 d45
  have huf : Upd [h] w5 wf := by
    rcases hwf with rfl | rfl
    · exact ((Upd.refl _ _).setCell (p := ⟨h, 4, none⟩) (.inl (by simp)) _).setCell (p := ⟨h, 5, none⟩) (.inl (by simp)) _
    · exact ((Upd.refl _ _).setCell (p := ⟨h, 5, none⟩) (.inl (by simp)) _).setCell (p := ⟨h, 4, none⟩) (.inl (by simp)) _
  have hhf : wf.heap[h]? = some (.cells #[fnBuild, fnDrop, .pointer (some ⟨cb, 0, none⟩), tv, .slice A4 (S.al.length + 1) C4, .slice A5 (S.lv.length + 1) C5, .map (some mb)] 83 (0, 0)) := by
    rcases hwf with rfl | rfl
    · have g1 := heap_setCell_same w5 h 4 _ _ (.slice A4 (S.al.length + 1) C4) hh5
      have g2 := heap_setCell_same _ h 5 _ _ (.slice A5 (S.lv.length + 1) C5) g1
      simpa using g2
    · have g1 := heap_setCell_same w5 h 5 _ _ (.slice A5 (S.lv.length + 1) C5) hh5
      have g2 := heap_setCell_same _ h 4 _ _ (.slice A4 (S.al.length + 1) C4) g1
      simpa using g2
  have hu : Upd (h :: (blk av ++ blk lvv)) w wf := hu45.trans (huf.mono (by intro x hx; left; simp at hx; simp [hx]))
  have hb5' : ∀ x ∈ blk (.slice A5 (S.lv.length + 1) C5), x ∈ blk lvv ∨ w.heap.size ≤ x := fun x hx => (hb5 x hx).imp id fun g => Nat.le_trans hu4.size g
  have hr := H.rows (al := S.al ++ [true]) (lv := S.lv ++ [t]) hu hhf
    (by have := own_upd ho4' huf (fun x hx => by simpa using n4 x hx); unfold boolRow; simpa using this)
    (by have := own_upd ho5 huf (fun x hx => by simpa using n5 x hx); unfold natRow; simpa using this) hb4 hb5'
  refine ⟨_, ⟨h, cb, mb, _, _, _, ps, Fc, Fs, rfl, hr, rfl⟩, hu.mono fun x hx => .inl ?_, fun x hx => ?_⟩
  · rcases List.mem_cons.1 hx with rfl | hx
    · exact mem_part (i := 0) (P := [x]) rfl (by simp)
    · rcases List.mem_append.1 hx with hx | hx
      · exact mem_part (i := 3) rfl hx
      · exact mem_part (i := 4) rfl hx
  · obtain ⟨P, hP, hxP⟩ := List.mem_flatten.1 hx
    simp only [parts, List.mem_cons] at hP
    rcases hP with rfl | rfl | rfl | rfl | rfl | rfl | hP
    · exact .inl (mem_part (i := 0) (P := [h]) rfl hxP)
    · exact .inl (mem_part (i := 1) rfl hxP)
    · exact .inl (mem_part (i := 2) rfl hxP)
    · exact (hb4 x hxP).imp (mem_part (i := 3) rfl) id
    · exact (hb5' x hxP).imp (mem_part (i := 4) rfl) id
    · exact .inl (mem_part (i := 5) (P := [mb]) rfl hxP)
    · exact .inl (List.mem_flatten.2 ⟨P, by simp [parts, hP], hxP⟩)

theorem info_bool : (Try.prog.info? 4).map (fun i => (i.zero, i.size, i.bytes)) = some (some (.bool false), 1, 1) := by kernel_rfl
theorem info_int : (Try.prog.info? 3).map (fun i => (i.zero, i.size, i.bytes)) = some (some (.int .i64 0), 1, 8) := by kernel_rfl

end Go.Proofs.Ytkhgglafnjfiaaa
