/- gridironlaw26.ModelCounts: its closure asks with another code. -/
import Derived.Test.YthnbgfnclpkdjaaGreatOpnM
import Derived.Test.YthnbgfnclpkdjaaGreatWithM
import Derived.Test.YthnbgfnclpkdjaaGreatAwkM
namespace Go.Proofs.YthnbgfnclpkdjaaGreat
open Go.RowKit

set_option maxRecDepth 100000 in
set_option maxHeartbeats 4000000 in
theorem askC {A R : List Bx → Nat} (ar : AR A R) {w : World} {h p s x N : Nat} {M : Md} (g : MM w h p s x M N) (hN : N < 1000000) (bo bm : Nat) (o : OpP) (hbo : CelB w bo (opL o)) (hbm : CelB w bm [.pointer (some ⟨h, 0, none⟩)]) (k : Nat) (hk : 7 ≤ k ∧ k ≤ 20) (ho : o.in64) :
    Calls Tryz.prog 12 #[.int .u8 (k : Int), .pointer (some ⟨bo, 0, none⟩), .pointer (some ⟨bm, 0, none⟩)] w fun e w' => (∃ v, e = .returned v ∧ RepAt w' v (doM A R M ⟨k, o.a, o.b, o.c, o.d, o.id⟩).2) ∧ MM w' h p s x M N ∧ Upd [p, s, x] w w' := by
  have hdo := fun (w9 : World) (hu : Upd [] w w9) => doAsk ar (g.upd0 hu) hN ⟨k, o.a, o.b, o.c, o.d, o.id⟩ ⟨ho.1, ho.2.1, by show k < 256; omega⟩ hk.1
  have HL := Lib.hid (And.intro g.at'.ps.lt (And.intro g.at'.ss.lt g.at'.bs.lt))
  have HG := Lib.hid g.at'
  obtain ⟨z, hz⟩ : ∃ z, (doM A R M ⟨k, o.a, o.b, o.c, o.d, o.id⟩).2 = z := ⟨_, rfl⟩
  simp only [hz] at hdo ⊢
  obtain ⟨c, hc⟩ : ∃ c : Int, (k : Int) = c := ⟨_, rfl⟩
  unfold opV at hdo
  dsimp only at hdo
  rw [hc] at hdo ⊢
  have HDO := Lib.hid hdo
  have hO := hbo.lt rfl
  have hM := hbm.lt rfl
  have o0 := hbo 0 _ rfl
  have o1 := hbo 1 _ rfl
  have o2 := hbo 2 _ rfl
  have o3 := hbo 3 _ rfl
  have o4 := hbo 4 _ rfl
  have o5 := hbo 5 _ rfl
  have b0 := hbm 0 _ rfl
  have HBM := Lib.hid hbm
  clear g hN hbo hbm hk ho hdo hz hc
  go_enter Tryz.func12, Tryz.ntmps12
  go_upto_region 3 with fail
  have hrp : RpAt ((w.alloc (.cells repZ 34)).alloc (.cells #[.int .u8 c, .int .i64 o.a, .int .i64 o.b, .int .i64 o.c, .int .i64 o.d, .int .u32 (o.id : Int)] 25)) w.heap.size repZ := RpAt.upd (heap_alloc_new w _) ((Upd.refl [] _).alloc _) (by simp)
  have hcl : CelB ((w.alloc (.cells repZ 34)).alloc (.cells #[.int .u8 c, .int .i64 o.a, .int .i64 o.b, .int .i64 o.c, .int .i64 o.d, .int .u32 (o.id : Int)] 25)) (w.heap.size + 1) [.int .u8 c, .int .i64 o.a, .int .i64 o.b, .int .i64 o.c, .int .i64 o.d, .int .u32 (o.id : Int)] := CelB.of_heap (by have := heap_alloc_new (w.alloc (.cells repZ 34)) (.cells #[.int .u8 c, .int .i64 o.a, .int .i64 o.b, .int .i64 o.c, .int .i64 o.d, .int .u32 (o.id : Int)] 25); simpa using this)
  have hu : Upd [] w ((w.alloc (.cells repZ 34)).alloc (.cells #[.int .u8 c, .int .i64 o.a, .int .i64 o.b, .int .i64 o.c, .int .i64 o.d, .int .u32 (o.id : Int)] 25)) := ((Upd.refl [] _).alloc _).alloc _
  generalize ((w.alloc (.cells repZ 34)).alloc (.cells #[.int .u8 c, .int .i64 o.a, .int .i64 o.b, .int .i64 o.c, .int .i64 o.d, .int .u32 (o.id : Int)] 25)) = W at hrp hcl hu ⊢
  have HF := Lib.hid (And.intro hrp (And.intro hcl hu))
  clear o0 o1 o2 o3 o4 o5 b0 hrp
  have o0 := hcl 0 _ rfl
  have o1 := hcl 1 _ rfl
  have o2 := hcl 2 _ rfl
  have o3 := hcl 3 _ rfl
  have o4 := hcl 4 _ rfl
  have o5 := hcl 5 _ rfl
  have b0 := (HBM.out.upd0 hu) 0 _ rfl
  clear hcl hu
  go_wp2_with fail
  (with_reducible refine (HDO.out _ HF.out.2.2).mono ?_)
  rintro e w8 ⟨⟨v, rfl, hre⟩, hmm, hup⟩
  have HV := Lib.hid (And.intro hre (And.intro hmm hup))
  clear hre hmm hup o0 o1 o2 o3 o4 o5 b0
  obtain ⟨Av, Cv, hv, lv, hve, hrest⟩ := HV.out.1
  clear hrest
  unfold repV at hve
  subst hve
  have HRP := Lib.hid (RpAt.upd HF.out.1 HV.out.2.2 (by have := HL.out; simp only [List.mem_cons, List.not_mem_nil, or_false]; omega))
  have f0 : w8.frozen? ⟨w.heap.size, 0, none⟩ = false := HRP.out.frozen 0
  have f1 : w8.frozen? ⟨w.heap.size, 1, none⟩ = false := HRP.out.frozen 1
  have f2 : w8.frozen? ⟨w.heap.size, 2, none⟩ = false := HRP.out.frozen 2
  have f3 : w8.frozen? ⟨w.heap.size, 3, none⟩ = false := HRP.out.frozen 3
  have f4 : w8.frozen? ⟨w.heap.size, 4, none⟩ = false := HRP.out.frozen 4
  have f5 : w8.frozen? ⟨w.heap.size, 5, none⟩ = false := HRP.out.frozen 5
  have c0 : w8.cell? ⟨w.heap.size, 0, none⟩ = some (.int .i64 0) := HRP.out.cell 0
  have c1 : w8.cell? ⟨w.heap.size, 1, none⟩ = some (.slice none 0 0) := HRP.out.cell 1
  have c2 : w8.cell? ⟨w.heap.size, 2, none⟩ = some (.int .i64 0) := HRP.out.cell 2
  have c3 : w8.cell? ⟨w.heap.size, 3, none⟩ = some (.bool false) := HRP.out.cell 3
  have c4 : w8.cell? ⟨w.heap.size, 4, none⟩ = some (.int .u64 0) := HRP.out.cell 4
  have c5 : w8.cell? ⟨w.heap.size, 5, none⟩ = some (.int .u64 0) := HRP.out.cell 5
  have HP := Lib.hid (And.intro (HRP.out.put (.int .i64 (z.err : Int)) (.slice Av z.ids.length Cv) (.int .i64 (z.cnt : Int)) (.bool z.yes) (.int .u64 (hv : Int)) (.int .u64 (lv : Int))) (upd_put (q := w.heap.size) (Upd.refl [w.heap.size] w8) (.inl (by simp)) (.int .i64 (z.err : Int)) (.slice Av z.ids.length Cv) (.int .i64 (z.cnt : Int)) (.bool z.yes) (.int .u64 (hv : Int)) (.int .u64 (lv : Int))))
  go_wp2_with fail
  have y0 := HP.out.1.cell 0
  have y1 := HP.out.1.cell 1
  have y2 := HP.out.1.cell 2
  have y3 := HP.out.1.cell 3
  have y4 := HP.out.1.cell 4
  have y5 := HP.out.1.cell 5
  simp only [List.getElem?_toArray, List.getElem?_cons_zero, List.getElem?_cons_succ] at y0 y1 y2 y3 y4 y5
  refine bodyPost_ret (v := repV z.err z.cnt z.yes (.slice Av z.ids.length Cv) hv lv) ?_ rfl ⟨⟨_, rfl, HV.out.1.updQ HRP.out HP.out.2⟩, ?_, ?_⟩
  · simp [repV, results, Tryz.results12, go_sem, y0, y1, y2, y3, y4, y5]
  · have h0 := lt_of_block HG.out.head
    exact HV.out.2.1.upd HP.out.2 (by simp; omega) (by have := HL.out; simp; omega) (by have := HL.out; simp; omega) (by have := HL.out; simp; omega)
  · exact (((HF.out.2.2).mono (by simp)).trans HV.out.2.2).trans' HP.out.2 (fun y hy => .inr (by simp at hy; omega))
end Go.Proofs.YthnbgfnclpkdjaaGreat
