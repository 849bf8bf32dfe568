/- cover.New: what lies in memory behind its last statement. cover.New. -/
import Derived.Deep.LoopGhost
import Derived.Deep.DeepCutAuto
import Derived.Deep.CutBlock
import Derived.Laws.OwnMore
import Derived.Test.YtkmnbodlciepaaaGreatPk45
import Derived.Test.YtkmnbodlciepaaaGreatPk3
set_option maxHeartbeats 8000000
set_option maxRecDepth 100000
namespace Go.Proofs.YtkmnbodlciepaaaGreat
open Go.RowKit
theorem zeroCells (N:Nat):(madeCells #[.int .u64 0,.int .i64 0,.bool false,.bool false] (N*4)).toList=KP.all (List.replicate N ⟨0,0,false,false⟩):=by
 apply List.ext_getElem?
 intro j
 by_cases hj:j<N*4
 ·have h1:(madeCells #[.int .u64 0,.int .i64 0,.bool false,.bool false] (N*4)).toList[j]? = #[Value.int .u64 0,.int .i64 0,.bool false,.bool false][j % 4]?:=by
   have h4:j % 4<4:=Nat.mod_lt _ (by omega)
   simp [madeCells,hj]
   rcases (by omega:j % 4=0∨j % 4=1∨j % 4=2∨j % 4=3) with h | h | h | h<;>simp [h]
  have hk:j / 4<(List.replicate N (⟨0,0,false,false⟩:Part)).length:=by rw [List.length_replicate];omega
  have h4:j % 4<4:=Nat.mod_lt _ (by omega)
  obtain ⟨u,hu⟩:∃u,(KP.enc ((List.replicate N (⟨0,0,false,false⟩:Part))[j / 4]'hk))[j % 4]? = some u:=by
   rw [List.getElem_replicate]
   rcases (by omega:j % 4=0∨j % 4=1∨j % 4=2∨j % 4=3) with h | h | h | h<;>rw [h]<;>exact ⟨_,rfl⟩
  have h2:=KP.all_get _ (j / 4) (j % 4) hk u hu
  rw [show j / 4*KP.sz+j % 4=j by show j / 4*4+j % 4=j;omega] at h2
  rw [h1,h2,←hu,List.getElem_replicate]
  rcases (by omega:j % 4=0∨j % 4=1∨j % 4=2∨j % 4=3) with h | h | h | h<;>rw [h]<;>rfl
 ·rw [List.getElem?_eq_none (by simp [madeCells];omega),List.getElem?_eq_none (by rw [KP.all_len,List.length_replicate];show N*4≤j;omega)]
theorem rowO (W:World) (N:Nat) (hN:N<1000000):KC.row (W.alloc (.cells (madeCells #[.int .i64 0] (N*1)) 3)) W.heap.size (.slice (some ⟨W.heap.size,0,none⟩) N N) (List.replicate N 0):=by
 have:=World.ownsRow_lit (e:=3) (size:=1) (base:=W.heap.size) W (madeCells #[.int .i64 0] (N*1)) N (Nat.le_refl _) (by unfold maxLen;omega) (size_madeCells _ _)
 unfold Kind.row
 rw [List.length_replicate,KC.all_eq,List.map_replicate]
 rw [Nat.mul_one,toList_madeCells_one] at this
 rw [Nat.mul_one]
 exact this
theorem rowP (W:World) (N:Nat) (hN:N<1000000):KP.row (W.alloc (.cells (madeCells #[.int .u64 0,.int .i64 0,.bool false,.bool false] (N*4)) 160)) W.heap.size (.slice (some ⟨W.heap.size,0,none⟩) N N) (List.replicate N ⟨0,0,false,false⟩):=by
 have:=World.ownsRow_lit (e:=160) (size:=4) (base:=W.heap.size) W (madeCells #[.int .u64 0,.int .i64 0,.bool false,.bool false] (N*4)) N (Nat.le_refl _) (by unfold maxLen;omega) (size_madeCells _ _)
 unfold Kind.row
 rw [List.length_replicate,←zeroCells]
 exact this
structure Fin7 (W0 W':World) (b N:Nat) (mv nv:Value) (R:Int) (hb g1 g2:Nat):Prop where
 upd:Upd [b] W0 W'
 head:W'.heap[b]? = some (.cells #[mv,.int .i64 R,nv,.slice (some ⟨g1,0,none⟩) N N,.slice (some ⟨g2,0,none⟩) N N,.map (some hb),.int .i64 0] 151 (0,0))
 ro:KC.row W' W0.heap.size (.slice (some ⟨g1,0,none⟩) N N) (List.replicate N 0)
 rp:KP.row W' W0.heap.size (.slice (some ⟨g2,0,none⟩) N N) (List.replicate N ⟨0,0,false,false⟩)
 ne:g1≠g2
section
variable {W0:World} {b N:Nat} {mv nv:Value} {R:Int} {hb:Nat} (hN:N<1000000) (h:W0.heap[b]? = some (.cells #[mv,.int .i64 R,nv,.slice none 0 0,.slice none 0 0,.map (some hb),.int .i64 0] 151 (0,0)))
include hN h
theorem endA:Fin7 W0 ((((W0.alloc (.cells (madeCells #[.int .i64 0] (N*1)) 3)).alloc (.cells (madeCells #[.int .u64 0,.int .i64 0,.bool false,.bool false] (N*4)) 160)).setCell ⟨b,3,none⟩ (.slice (some ⟨W0.heap.size,0,none⟩) N N)).setCell ⟨b,4,none⟩ (.slice (some ⟨W0.heap.size+1,0,none⟩) N N)).drew b N mv nv R hb W0.heap.size (W0.heap.size+1):=by
 have hbw:=lt_of_block h
 have e1:(W0.alloc (.cells (madeCells #[.int .i64 0] (N*1)) 3)).heap.size=W0.heap.size+1:=by simp
 have r1:=rowO W0 N hN
 have r2:=rowP (W0.alloc (.cells (madeCells #[.int .i64 0] (N*1)) 3)) N hN
 rw [e1] at r2
 have r1':=own_upd r1 ((Upd.refl [] _).alloc (.cells (madeCells #[.int .u64 0,.int .i64 0,.bool false,.bool false] (N*4)) 160)) (by simp)
 refine ⟨((((Upd.refl [b] W0).alloc _).alloc _).setCell (.inl (by simp)) _).setCell (.inl (by simp)) _ |>.drew,?_,?_,?_,by omega⟩
 ·have hh:((W0.alloc (.cells (madeCells #[.int .i64 0] (N*1)) 3)).alloc (.cells (madeCells #[.int .u64 0,.int .i64 0,.bool false,.bool false] (N*4)) 160)).heap[b]? = some (.cells #[mv,.int .i64 R,nv,.slice none 0 0,.slice none 0 0,.map (some hb),.int .i64 0] 151 (0,0)):=by
   rw [Below.heap_alloc _ _ _ (by rw [e1];omega),Below.heap_alloc _ _ _ hbw]
   exact h
  exact heap_set (heap_set hh 3 _) 4 _
 ·exact row_set_other (row_set_other r1' (by simp [blk];omega) _) (by simp [blk];omega) _
 ·exact own_base (row_set_other (row_set_other r2 (by simp [blk];omega) _) (by simp [blk];omega) _) (by omega)
theorem endC:Fin7 W0 ((((W0.alloc (.cells (madeCells #[.int .u64 0,.int .i64 0,.bool false,.bool false] (N*4)) 160)).alloc (.cells (madeCells #[.int .i64 0] (N*1)) 3)).setCell ⟨b,3,none⟩ (.slice (some ⟨W0.heap.size+1,0,none⟩) N N)).setCell ⟨b,4,none⟩ (.slice (some ⟨W0.heap.size,0,none⟩) N N)).drew b N mv nv R hb (W0.heap.size+1) W0.heap.size:=by
 have hbw:=lt_of_block h
 have e1:(W0.alloc (.cells (madeCells #[.int .u64 0,.int .i64 0,.bool false,.bool false] (N*4)) 160)).heap.size=W0.heap.size+1:=by simp
 have r1:=rowP W0 N hN
 have r2:=rowO (W0.alloc (.cells (madeCells #[.int .u64 0,.int .i64 0,.bool false,.bool false] (N*4)) 160)) N hN
 rw [e1] at r2
 have r1':=own_upd r1 ((Upd.refl [] _).alloc (.cells (madeCells #[.int .i64 0] (N*1)) 3)) (by simp)
 refine ⟨((((Upd.refl [b] W0).alloc _).alloc _).setCell (.inl (by simp)) _).setCell (.inl (by simp)) _ |>.drew,?_,?_,?_,by omega⟩
 ·have hh:((W0.alloc (.cells (madeCells #[.int .u64 0,.int .i64 0,.bool false,.bool false] (N*4)) 160)).alloc (.cells (madeCells #[.int .i64 0] (N*1)) 3)).heap[b]? = some (.cells #[mv,.int .i64 R,nv,.slice none 0 0,.slice none 0 0,.map (some hb),.int .i64 0] 151 (0,0)):=by
   rw [Below.heap_alloc _ _ _ (by rw [e1];omega),Below.heap_alloc _ _ _ hbw]
   exact h
  exact heap_set (heap_set hh 3 _) 4 _
 ·exact own_base (row_set_other (row_set_other r2 (by simp [blk];omega) _) (by simp [blk];omega) _) (by omega)
 ·exact row_set_other (row_set_other r1' (by simp [blk];omega) _) (by simp [blk];omega) _
theorem endB:Fin7 W0 ((((W0.setCell ⟨b,3,none⟩ (.slice (some ⟨W0.heap.size,0,none⟩) N N)).alloc (.cells (madeCells #[.int .i64 0] (N*1)) 3)).alloc (.cells (madeCells #[.int .u64 0,.int .i64 0,.bool false,.bool false] (N*4)) 160)).setCell ⟨b,4,none⟩ (.slice (some ⟨W0.heap.size+1,0,none⟩) N N)).drew b N mv nv R hb W0.heap.size (W0.heap.size+1):=by
 have hbw:=lt_of_block h
 have e0:(W0.setCell ⟨b,3,none⟩ (.slice (some ⟨W0.heap.size,0,none⟩) N N)).heap.size=W0.heap.size:=by simp [World.setCell]
 have e1:((W0.setCell ⟨b,3,none⟩ (.slice (some ⟨W0.heap.size,0,none⟩) N N)).alloc (.cells (madeCells #[.int .i64 0] (N*1)) 3)).heap.size=W0.heap.size+1:=by rw [World.size_alloc,e0]
 have r1:=rowO (W0.setCell ⟨b,3,none⟩ (.slice (some ⟨W0.heap.size,0,none⟩) N N)) N hN
 have r2:=rowP ((W0.setCell ⟨b,3,none⟩ (.slice (some ⟨W0.heap.size,0,none⟩) N N)).alloc (.cells (madeCells #[.int .i64 0] (N*1)) 3)) N hN
 rw [e0] at r1
 rw [e1] at r2
 have r1':=own_upd r1 ((Upd.refl [] _).alloc (.cells (madeCells #[.int .u64 0,.int .i64 0,.bool false,.bool false] (N*4)) 160)) (by simp)
 refine ⟨((((Upd.refl [b] W0).setCell (.inl (by simp)) _).alloc _).alloc _).setCell (.inl (by simp)) _ |>.drew,?_,?_,?_,by omega⟩
 ·have h3:=heap_set h 3 (.slice (some ⟨W0.heap.size,0,none⟩) N N)
  have hh:=(Below.heap_alloc ((W0.setCell ⟨b,3,none⟩ (.slice (some ⟨W0.heap.size,0,none⟩) N N)).alloc (.cells (madeCells #[.int .i64 0] (N*1)) 3)) (.cells (madeCells #[.int .u64 0,.int .i64 0,.bool false,.bool false] (N*4)) 160) b (by rw [e1];omega)).trans ((Below.heap_alloc (W0.setCell ⟨b,3,none⟩ (.slice (some ⟨W0.heap.size,0,none⟩) N N)) (.cells (madeCells #[.int .i64 0] (N*1)) 3) b (by rw [e0];exact hbw)).trans h3)
  exact heap_set hh 4 _
 ·exact row_set_other r1' (by simp [blk];omega) _
 ·exact own_base (row_set_other r2 (by simp [blk];omega) _) (by omega)
end
theorem postL_const {α:Type} (a:α):∀(d f t pf pt o:Nat),t - f≤d→f<t→postL (fun _ _ _ _ _=>a) f t pf pt o=List.replicate (2*(t - f) - 1) a:=by
 intro d
 induction d with
 |zero=>intro f t pf pt o h1 h2;omega
 |succ d ih=>
  intro f t pf pt o h1 h2
  by_cases h:f+1<t
  ·have hm:=mid_in h
   rw [postL_node _ pf pt o h,ih _ _ _ _ _ (by omega) hm.1,ih _ _ _ _ _ (by omega) hm.2]
   rw [show ([a]:List α)=List.replicate 1 a from rfl,List.replicate_append_replicate,List.replicate_append_replicate]
   congr 1;omega
  ·rw [postL_leaf _ pf pt o h,show 2*(t - f) - 1=1 by omega];rfl
theorem part_nil (M:Nat→Int):∀(d f t pf pt:Nat),t - f≤d→partV (cntH []) M f t pf pt=⟨0,0,false,false⟩:=by
 intro d
 induction d with
 |zero=>intro f t pf pt h1;rw [partV_leaf (by simp [cntH]) (by omega)]
 |succ d ih=>
  intro f t pf pt h1
  by_cases h:f+1<t
  ·have hm:=mid_in h
   rw [partV_node (by simp [cntH]) h,ih _ _ _ _ (by omega),ih _ _ _ _ (by omega)]
   rfl
  ·rw [partV_leaf (by simp [cntH]) h]
theorem oN_nil (n:Nat):oN (cntH []) n=List.replicate (2*n - 1) 0:=by
 unfold oN
 split
 ·rename_i h;subst h;rfl
 ·unfold oL
  have:=postL_const (0:Int) n 0 n 0 (n+1) 0 (by omega) (by omega)
  rw [Nat.sub_zero] at this
  rw [←this]
  rfl
theorem pN_nil (M:List Int) (n:Nat):pN (cntH []) M n=List.replicate (2*n - 1) ⟨0,0,false,false⟩:=by
 unfold pN
 split
 ·rename_i h;subst h;rfl
 ·unfold pL
  have:=postL_const (⟨0,0,false,false⟩:Part) n 0 n 0 (n+1) 0 (by omega) (by omega)
  rw [Nat.sub_zero] at this
  rw [←this]
  exact postL_congr _ _ n 0 n 0 (n+1) 0 (by omega) (by omega) (fun _=>part_nil _ n _ _ _ _ (by omega)) (fun f' t' pf' pt' _ _ _ _ _ _=>part_nil _ (t' - f') _ _ _ _ (by omega))
def NewCPost (w:World) (M:List Int) (e:Ending) (w':World):Prop:=
 ∃b F,e=.returned (.tuple #[.pointer (some ⟨b,0,none⟩),.int .i64 0])∧IsCov w' b F M [] 0∧Upd [] w w'∧∀y∈F,w.heap.size≤y
theorem newEnd {w w1 w2 w3 W0 W':World} {M:List Int} {n N:Nat} {mv nv:Value} {R:Int} {fb g1 g2:Nat} (hn:n=M.length - 1) (hR:rootI n=R) (hN:(nodesN n).length=N)
 (h1:w.heap.size≤fb) (h2:fb<w1.heap.size) (h3:w1.heap.size≤w2.heap.size) (hmr:KL.row w2 w1.heap.size mv M) (hu2:Upd [] w w2) (hnr:KD.row w3 w2.heap.size nv (nodesN n)) (hu3:Upd [fb] w2 w3)
 (hW:Upd [] w3 W0) (hq:HeldAt W0 w3.heap.size 0 (fun _=>0)) (hs:W0.heap.size=w3.heap.size+2) (hf:Fin7 W0 W' (w3.heap.size+1) N mv nv R w3.heap.size g1 g2) :
 NewCPost w M (.returned (.tuple #[.pointer (some ⟨w3.heap.size+1,0,none⟩),.int .i64 0])) W':=by
 have hz3:=hu3.size
 have hU3:Upd [] w w3:=hu2.trans' hu3 (fun x hx=>by simp at hx;subst hx;exact .inr h1)
 have hU:Upd [] w W':=(hU3.trans hW).trans' hf.upd (fun x hx=>by simp at hx;subst hx;exact .inr (by have:=hU3.size;omega))
 have m3:KL.row w3 w1.heap.size mv M:=own_upd hmr hu3 (fun k hk=>by have:=own_ge hmr k hk;simp;omega)
 have m0:=own_upd m3 hW (by simp)
 have ml:=own_lt hmr
 have mg:=own_ge hmr
 have nl:=own_lt hnr
 have ng:=own_ge hnr
 have m':KL.row W' w1.heap.size mv M:=own_upd m0 hf.upd (fun k hk=>by have:=ml k hk;simp;omega)
 have n0:=own_upd hnr hW (by simp)
 have n':KD.row W' w2.heap.size nv (nodesN n):=own_upd n0 hf.upd (fun k hk=>by have:=nl k hk;simp;omega)
 have gg1:W0.heap.size≤g1:=own_ge hf.ro g1 (by simp [blk])
 have gg2:W0.heap.size≤g2:=own_ge hf.rp g2 (by simp [blk])
 have hne:=hf.ne
 have hNn:N=2*n - 1:=by rw [←hN];exact nodesN_len n
 have eo:oN (cntH []) n=List.replicate N 0:=by rw [oN_nil,hNn]
 have ep:pN (cntH []) M n=List.replicate N ⟨0,0,false,false⟩:=by rw [pN_nil,hNn]
 have b1:blk (.slice (some ⟨g1,0,none⟩) N N) = [g1]:=by simp [blk]
 have b2:blk (.slice (some ⟨g2,0,none⟩) N N) = [g2]:=by simp [blk]
 refine ⟨w3.heap.size+1,_,rfl,⟨mv,nv,.slice (some ⟨g1,0,none⟩) N N,.slice (some ⟨g2,0,none⟩) N N,w3.heap.size,0,rfl,⟨?_,?_,?_,?_,?_,?_,?_,?_,?_,?_,?_,?_,?_,?_,?_,?_,?_,?_,?_⟩,?_⟩,hU,?_⟩
 ·rw [←hn,hR];exact hf.head
 ·exact own_base m' (Nat.zero_le _)
 ·rw [←hn];exact own_base n' (Nat.zero_le _)
 ·rw [←hn,eo];exact own_base hf.ro (Nat.zero_le _)
 ·rw [←hn,ep];exact own_base hf.rp (Nat.zero_le _)
 ·intro h;have:=ml _ h;omega
 ·intro h;have:=nl _ h;omega
 ·rw [b1];simp;omega
 ·rw [b2];simp;omega
 ·omega
 ·rw [b1];intro y hy h;simp at hy;have:=ml _ h;omega
 ·rw [b1];intro y hy h;simp at hy;have:=nl _ h;omega
 ·rw [b1,b2];intro y hy h;simp at hy h;omega
 ·rw [b2];intro y hy h;simp at hy;have:=ml _ h;omega
 ·rw [b2];intro y hy h;simp at hy;have:=nl _ h;omega
 ·intro h;have:=ml _ h;omega
 ·intro h;have:=nl _ h;omega
 ·rw [b1];simp;omega
 ·rw [b2];simp;omega
 ·have hq':=hq.upd hf.upd (by simp)
  simpa using hq'
 ·intro y hy
  have hz:=hU3.size
  rw [b1,b2] at hy
  simp only [List.mem_cons,List.mem_append,List.not_mem_nil,or_false] at hy
  rcases hy with rfl | rfl | hy | hy | rfl | rfl
  ·omega
  ·omega
  ·have:=mg y hy;omega
  ·have:=ng y hy;omega
  ·omega
  ·omega
attribute [local go_sem ↓] Go.wp_at_zero Go.wp_at_succ
theorem rise_of {M:List Int} (h:∀i,i+1<M.length→mf M i<mf M (i+1)):M.Pairwise (· < ·):=by
 have h2:∀d i,i+d+1<M.length→mf M i<mf M (i+d+1):=by
  intro d
  induction d with
  |zero=>intro i hi;exact h i hi
  |succ d ih=>intro i hi;exact Int.lt_trans (ih i (by omega)) (h (i+d+1) hi)
 rw [List.pairwise_iff_getElem]
 intro i j hi hj hij
 have h3:=h2 (j - i - 1) i (by omega)
 rw [show i+(j - i - 1)+1=j by omega] at h3
 have e1:=mf_get hi
 have e2:=mf_get hj
 rw [List.getElem?_eq_getElem hi] at e1
 rw [List.getElem?_eq_getElem hj] at e2
 rw [Option.some.inj e1,Option.some.inj e2]
 exact h3
theorem rise_step {M:List Int} (h:M.Pairwise (· < ·)) {i:Nat} (hi:i+1<M.length):mf M i<mf M (i+1):=by
 have:=List.pairwise_iff_getElem.1 h i (i+1) (by omega) hi (by omega)
 have e1:=mf_get (M:=M) (i:=i) (by omega)
 have e2:=mf_get hi
 rw [List.getElem?_eq_getElem (by omega)] at e1
 rw [List.getElem?_eq_getElem hi] at e2
 rw [Option.some.inj e1,Option.some.inj e2] at this
 exact this
theorem newBad (v:Value) (M:List Int) (w:World) (hs:See KL w v M) (hl:M.length<400000) (hno:¬M.Pairwise (· < ·)) :
 Calls Tryz.prog 41 #[v] w fun e w'=>e=.returned (.tuple #[.pointer none,.int .i64 2])∧Upd [] w w':=by
 obtain ⟨Av,Cv,rfl⟩:=hs.form
 have HS:=Lib.hid hs
 have HNO:=Lib.hid hno
 have hl':(M.length:Int)<400000:=by omega
 clear hs hno hl
 go_enter Tryz.func41,Tryz.ntmps41
 go_wp2_with fail
 go_loopg [10] M.length (fun m s10 wr=>∃k,m+k=M.length∧s10=.int .i64 (k:Int)∧Upd [] w wr∧∀i,i+1<k→mf M i<mf M (i+1))
 case atStart=>exact ⟨0,rfl,rfl,Upd.refl _ _,by intro i hi;omega⟩
 case round=>
  obtain ⟨k,hk,rfl,hu,hr⟩:=hrel
  have hkn:k≤M.length:=by omega
  have HK:=Lib.hid hk
  have HU:=Lib.hid hu
  have HR:=Lib.hid hr
  clear hk hu hr
  by_cases hlt:k<M.length
  ·have hy:=mf_get hlt
   obtain ⟨b1,o1,hA,hq1,hq2,hq3⟩:=KL.at (HS.out.upd0 HU.out) hy
   subst hA
   have b0:(0:Int)≤(k:Int):=Int.natCast_nonneg _
   have b1':(k:Int)<(M.length:Int):=by omega
   have HY:=Lib.hid hy
   clear hy hq1 hq2
   rcases Nat.eq_zero_or_pos k with rfl | hk0
   ·have hd:decide ((0:Int)<((0:Nat):Int))=false:=by simp
    go_wp2_with fail
    go_quiet (fail)
    go_wp2_with fail
    go_roundg (M.length - 1)
    case measure=>have:=HK.out;omega
    case rel=>exact ⟨1,by omega,by go_num,HU.out.drewN _,fun i hi=>by omega⟩
   ·obtain ⟨j,hj⟩:∃j,k=j+1:=⟨k - 1,by omega⟩
    have hy2:=mf_get (M:=M) (i:=j) (by omega)
    obtain ⟨b2,o2,hA2,hq1,hq2,hq4⟩:=KL.at (HS.out.upd0 HU.out) hy2
    cases hA2
    have hd:decide (0<k)=true:=decide_eq_true hk0
    have hsub:IntKind.i64.wrap ((k:Int) - 1)=(j:Int):=by rw [IntWalk.i64_in _ ⟨by omega,by omega⟩];omega
    have hsub2:(k:Int) - 1=(j:Int):=by omega
    have bj0:(0:Int)≤(j:Int):=Int.natCast_nonneg _
    have bj1:(j:Int)<(M.length:Int):=by omega
    have HJ:=Lib.hid hj
    clear hy2 hq1 hq2 hj hkn hk0
    obtain ⟨x,hx⟩:∃x,mf M k=x:=⟨_,rfl⟩
    obtain ⟨y,hyy⟩:∃y,mf M j=y:=⟨_,rfl⟩
    rw [hx] at hq3
    rw [hyy] at hq4
    have HX:=Lib.hid hx
    have HYY:=Lib.hid hyy
    clear hx hyy
    by_cases hyx:x≤y
    ·have hd3:decide (x≤y)=true:=decide_eq_true hyx
     clear hyx
     go_wp2_with fail
     go_quiet (fail)
     go_wp2_with fail
     go_ret2
     exact ⟨rfl,HU.out.drewN _⟩
    ·have hd3:decide (x≤y)=false:=decide_eq_false hyx
     have HYX:=Lib.hid hyx
     clear hyx
     go_wp2_with fail
     go_quiet (fail)
     go_wp2_with fail
     go_roundg (M.length - (k+1))
     case measure=>have:=HK.out;omega
     case rel=>
      refine ⟨k+1,by have:=HK.out;omega,by go_num,HU.out.drewN _,fun i hi=>?_⟩
      by_cases hij:i=j
      ·rw [hij,←HJ.out,HX.out,HYY.out];have:=HYX.out;omega
      ·exact HR.out i (by have:=HJ.out;omega)
  ·exact (HNO.out (rise_of fun i hi=>HR.out i (by omega))).elim
theorem info_intC:(Tryz.prog.info? 3).map (fun i=>(i.zero,i.size,i.bytes))=some (some (.int .i64 0),1,8):=by kernel_rfl
theorem info_partC:(Tryz.prog.info? 160).map (fun i=>(i.zero,i.size,i.bytes))=some (some (.agg #[.int .u64 0,.int .i64 0,.bool false,.bool false]),4,24):=by kernel_rfl
theorem make_ints (W:World) (N:Nat) (hN:N<1000000):(Instr.makeSlice 138 (.int .i64 (N:Int)) (.int .i64 (N:Int))).run Tryz.prog W=.ok (.slice (some ⟨W.heap.size,0,none⟩) N N) (W.alloc (.cells (madeCells #[.int .i64 0] (N*1)) 3)):=by
 obtain ⟨i0,hi,hy0,hy1,hy2⟩:=info_parts info_intC
 have:=run_make (P:=Tryz.prog) W 138 3 i0 (.int .i64 0) Tryz.underlying138 hi hy0 .i64 .i64 N N (by omega) (by omega) (by rw [hy2];omega) (by omega)
 rw [hy1] at this
 exact this
theorem make_parts (W:World) (N:Nat) (hN:N<1000000):(Instr.makeSlice 149 (.int .i64 (N:Int)) (.int .i64 (N:Int))).run Tryz.prog W=.ok (.slice (some ⟨W.heap.size,0,none⟩) N N) (W.alloc (.cells (madeCells #[.int .u64 0,.int .i64 0,.bool false,.bool false] (N*4)) 160)):=by
 obtain ⟨i0,hi,hy0,hy1,hy2⟩:=info_parts info_partC
 have:=run_make (P:=Tryz.prog) W 149 160 i0 (.agg #[.int .u64 0,.int .i64 0,.bool false,.bool false]) Tryz.underlying149 hi hy0 .i64 .i64 N N (by omega) (by omega) (by rw [hy2];omega) (by omega)
 rw [hy1] at this
 exact this
theorem newC (v:Value) (M:List Int) (w:World) (hs:See KL w v M) (hM:MarksOk M) :
 Calls Tryz.prog 41 #[v] w (NewCPost w M):=by
 have hl:=hM.len
 have hmm:=@run_makeMap Tryz.prog
 obtain ⟨n,hn⟩:∃n,n=M.length - 1:=⟨_,rfl⟩
 have HN:=Lib.hid hn
 clear hn
 obtain ⟨Av,Cv,rfl⟩:=hs.form
 have HS:=Lib.hid hs
 have HM:=Lib.hid hM
 have hl':(M.length:Int)<400000:=by omega
 have HL:=Lib.hid hl
 clear hs hM hl
 go_enter Tryz.func41,Tryz.ntmps41
 go_wp2_with fail
 go_loopg [10] M.length (fun m s10 wr=>∃k,m+k=M.length∧s10=.int .i64 (k:Int)∧Upd [] w wr∧∀i,i+1<k→mf M i<mf M (i+1))
 case atStart=>exact ⟨0,rfl,rfl,Upd.refl _ _,by intro i hi;omega⟩
 case round=>
  obtain ⟨k,hk,rfl,hu,hr⟩:=hrel
  have hkn:k≤M.length:=by omega
  have HK:=Lib.hid hk
  have HU:=Lib.hid hu
  have HR:=Lib.hid hr
  clear hk hu hr
  by_cases hlt:k<M.length
  ·have hy:=mf_get hlt
   obtain ⟨b1,o1,hA,hq1,hq2,hq3⟩:=KL.at (HS.out.upd0 HU.out) hy
   subst hA
   have b0:(0:Int)≤(k:Int):=Int.natCast_nonneg _
   have b1':(k:Int)<(M.length:Int):=by omega
   have HY:=Lib.hid hy
   clear hy hq1 hq2
   rcases Nat.eq_zero_or_pos k with rfl | hk0
   ·have hd:decide ((0:Int)<((0:Nat):Int))=false:=by simp
    go_wp2_with fail
    go_quiet (fail)
    go_wp2_with fail
    go_roundg (M.length - 1)
    case measure=>have:=HK.out;omega
    case rel=>exact ⟨1,by omega,by go_num,HU.out.drewN _,fun i hi=>by omega⟩
   ·obtain ⟨j,hj⟩:∃j,k=j+1:=⟨k - 1,by omega⟩
    have hy2:=mf_get (M:=M) (i:=j) (by omega)
    obtain ⟨b2,o2,hA2,hq1,hq2,hq4⟩:=KL.at (HS.out.upd0 HU.out) hy2
    cases hA2
    have hd:decide (0<k)=true:=decide_eq_true hk0
    have hsub:IntKind.i64.wrap ((k:Int) - 1)=(j:Int):=by rw [IntWalk.i64_in _ ⟨by omega,by omega⟩];omega
    have hsub2:(k:Int) - 1=(j:Int):=by omega
    have bj0:(0:Int)≤(j:Int):=Int.natCast_nonneg _
    have bj1:(j:Int)<(M.length:Int):=by omega
    have HJ:=Lib.hid hj
    clear hy2 hq1 hq2 hj hkn hk0
    obtain ⟨x,hx⟩:∃x,mf M k=x:=⟨_,rfl⟩
    obtain ⟨y,hyy⟩:∃y,mf M j=y:=⟨_,rfl⟩
    rw [hx] at hq3
    rw [hyy] at hq4
    have HX:=Lib.hid hx
    have HYY:=Lib.hid hyy
    clear hx hyy
    have hyx:¬x≤y:=by have:=rise_step HM.out.rise (i:=j) (by have:=HJ.out;omega);rw [←HJ.out,HX.out,HYY.out] at this;omega
    have hd3:decide (x≤y)=false:=decide_eq_false hyx
    have HYX:=Lib.hid hyx
    clear hyx
    go_wp2_with fail
    go_quiet (fail)
    go_wp2_with fail
    go_roundg (M.length - (k+1))
    case measure=>have:=HK.out;omega
    case rel=>
     refine ⟨k+1,by have:=HK.out;omega,by go_num,HU.out.drewN _,fun i hi=>?_⟩
     by_cases hij:i=j
     ·rw [hij,←HJ.out,HX.out,HYY.out];have:=HYX.out;omega
     ·exact HR.out i (by have:=HJ.out;omega)
  ·have hnn:n=M.length - 1:=HN.out
   have HHH:=Lib.hid (And.intro HU.out (And.intro HK.out hlt))
   have hf0:=frameNewC n (by have:=HL.out;omega) wr
   have hf:Calls Tryz.prog 96 #[.int .i64 (n:Int)] wr fun e w'=>e=.returned (.tuple #[.pointer (some ⟨wr.heap.size,0,none⟩),.int .i64 0])∧FrameAt w' wr.heap.size n∧Upd [] wr w'∧wr.heap.size<w'.heap.size:=hf0.mono fun e w' he=>⟨he.1,by rw [he.2];exact heap_alloc_new wr _,by rw [he.2];exact (Upd.refl _ _).alloc _,by rw [he.2];simp⟩
   clear hlt hkn hl' hf0
   rcases Nat.eq_zero_or_pos M.length with h0 | h0
   ·have hn0:n=0:=by omega
    have hw64:wrap64 ((M.length:Int) - 1) = -1:=by rw [h0];exact IntWalk.wrap64_in _ ⟨by omega,by omega⟩
    rw [hn0] at hf
    have hf2:Calls Tryz.prog 96 #[.int .i64 0] wr fun e w'=>e=.returned (.tuple #[.pointer (some ⟨wr.heap.size,0,none⟩),.int .i64 0])∧FrameAt w' wr.heap.size n∧Upd [] wr w'∧wr.heap.size<w'.heap.size:=by rw [hn0];exact hf
    have HF:=Lib.hid hf2
    clear hf2
    have hll:¬k<M.length:=HHH.out.2.2
    clear hnn h0 hf hn0
    go_upto_region 7 with fail
    clear hll
    go_wp2_with fail
    (with_reducible refine HF.out.mono ?_)
    rintro e w1 ⟨rfl,hfr,hu1,hz1⟩
    have hcl:=clone_int64 _ M.length (KL.all M) w1 ((HS.out.upd0 HU.out).upd0 hu1) (KL.all_one M) (by have:=HL.out;omega)
    have HCL:=Lib.hid hcl
    have HFR:=Lib.hid hfr
    have HU1:=Lib.hid (HU.out.trans hu1)
    clear hcl hfr hu1 hw64
    go_wp2_with fail
    (with_reducible refine HCL.out.mono ?_)
    rintro e w2 ⟨Am,Cm,rfl,hmr,hb2⟩
    have hu2:=Upd.of_below hb2
    have hfr2:FrameAt w2 wr.heap.size n:=(hu2.block wr.heap.size (lt_of_block HFR.out) (by simp)).trans HFR.out
    have HRT:=Lib.hid (frameRoot wr.heap.size n w2 (by have:=HL.out;have:=HN.out;omega) hfr2)
    have HND:=Lib.hid (frameNodes wr.heap.size n w2 (by have:=HL.out;have:=HN.out;omega) hfr2)
    have HMR:=Lib.hid hmr
    have HU2:=Lib.hid (HU1.out.trans hu2)
    have hz2:wr.heap.size<w2.heap.size:=lt_of_block hfr2
    have hz12:w1.heap.size≤w2.heap.size:=hu2.size
    clear hmr hb2 hu2 hfr2
    go_wp2_with fail
    (with_reducible refine HRT.out.mono ?_)
    rintro e w' ⟨rfl,rfl⟩
    go_wp2_with fail
    (with_reducible refine HND.out.mono ?_)
    rintro e w3 ⟨An,Cn,rfl,hnr,hu3⟩
    obtain ⟨R,hR⟩:∃R,rootI n=R:=⟨_,rfl⟩
    obtain ⟨N,hN⟩:∃N,(nodesN n).length=N:=⟨_,rfl⟩
    rw [hR,hN]
    have HNR:=Lib.hid hnr
    have HU3:=Lib.hid hu3
    have HR:=Lib.hid hR
    have HNL:=Lib.hid hN
    clear hnr hu3 hR hN
    go_upto_region 11 with fail
    have hW:Upd [] w3 ((w3.alloc (.map #[] 0)).alloc (.cells #[.slice Am M.length Cm,.int .i64 R,.slice An N Cn,.slice none 0 0,.slice none 0 0,.map (some w3.heap.size),.int .i64 0] 151)):=((Upd.refl _ _).alloc _).alloc _
    have hWb:((w3.alloc (.map #[] 0)).alloc (.cells #[.slice Am M.length Cm,.int .i64 R,.slice An N Cn,.slice none 0 0,.slice none 0 0,.map (some w3.heap.size),.int .i64 0] 151)).heap[w3.heap.size+1]? = some (.cells #[.slice Am M.length Cm,.int .i64 R,.slice An N Cn,.slice none 0 0,.slice none 0 0,.map (some w3.heap.size),.int .i64 0] 151 (0,0)):=by
     have:=heap_alloc_new (w3.alloc (.map #[] 0)) (.cells #[.slice Am M.length Cm,.int .i64 R,.slice An N Cn,.slice none 0 0,.slice none 0 0,.map (some w3.heap.size),.int .i64 0] 151)
     simpa using this
    have hWq:HeldAt ((w3.alloc (.map #[] 0)).alloc (.cells #[.slice Am M.length Cm,.int .i64 R,.slice An N Cn,.slice none 0 0,.slice none 0 0,.map (some w3.heap.size),.int .i64 0] 151)) w3.heap.size 0 (fun _=>0):=(HeldAt.made w3).upd ((Upd.refl [] _).alloc _) (by simp)
    have hWs:((w3.alloc (.map #[] 0)).alloc (.cells #[.slice Am M.length Cm,.int .i64 R,.slice An N Cn,.slice none 0 0,.slice none 0 0,.map (some w3.heap.size),.int .i64 0] 151)).heap.size=w3.heap.size+2:=by simp
    generalize (w3.alloc (.map #[] 0)).alloc (.cells #[.slice Am M.length Cm,.int .i64 R,.slice An N Cn,.slice none 0 0,.slice none 0 0,.map (some w3.heap.size),.int .i64 0] 151)=W0 at hW hWb hWq hWs ⊢
    obtain ⟨CO,hCO⟩:∃CO,madeCells #[.int .i64 0] (N*1)=CO:=⟨_,rfl⟩
    obtain ⟨CP,hCP⟩:∃CP,madeCells #[.int .u64 0,.int .i64 0,.bool false,.bool false] (N*4)=CP:=⟨_,rfl⟩
    have hNb:N<1000000:=by have h1:=HNL.out;have h2:=nodesN_len n;have h3:=HL.out;have h4:=HN.out;omega
    have mk1:∀W:World,(Instr.makeSlice 138 (.int .i64 (N:Int)) (.int .i64 (N:Int))).run Tryz.prog W=.ok (.slice (some ⟨W.heap.size,0,none⟩) N N) (W.alloc (.cells CO 3)):=fun W=>by rw [←hCO];exact make_ints W N hNb
    have mk2:∀W:World,(Instr.makeSlice 149 (.int .i64 (N:Int)) (.int .i64 (N:Int))).run Tryz.prog W=.ok (.slice (some ⟨W.heap.size,0,none⟩) N N) (W.alloc (.cells CP 160)):=fun W=>by rw [←hCP];exact make_parts W N hNb
    have b2:W0.cell? ⟨w3.heap.size+1,2,none⟩=some (.slice An N Cn):=by simp [World.cell?,hWb]
    have s2:W0.drew.cell? ⟨w3.heap.size+1,2,none⟩=some (.slice An N Cn):=b2
    have b3:W0.cell? ⟨w3.heap.size+1,3,none⟩=some (.slice none 0 0):=by simp [World.cell?,hWb]
    have b4:W0.cell? ⟨w3.heap.size+1,4,none⟩=some (.slice none 0 0):=by simp [World.cell?,hWb]
    have f3:W0.frozen? ⟨w3.heap.size+1,3,none⟩=false:=by simp [World.frozen?,hWb]
    have f4:W0.frozen? ⟨w3.heap.size+1,4,none⟩=false:=by simp [World.frozen?,hWb]
    have hbW:w3.heap.size+1<W0.heap.size:=by omega
    have NN0:(0:Int)≤(N:Int):=Int.natCast_nonneg _
    have qa3:((W0.alloc (.cells CO 3)).alloc (.cells CP 160)).cell? ⟨w3.heap.size+1,3,none⟩=some (.slice none 0 0):=(Upd.cell (F:=[]) (((Upd.refl [] _).alloc _).alloc _) (p:=⟨w3.heap.size+1,3,none⟩) hbW (by simp)).trans b3
    have ga3:((W0.alloc (.cells CO 3)).alloc (.cells CP 160)).frozen? ⟨w3.heap.size+1,3,none⟩=false:=(Upd.frozen (F:=[]) (((Upd.refl [] _).alloc _).alloc _) (p:=⟨w3.heap.size+1,3,none⟩) hbW (by simp)).trans f3
    have qa4:((W0.alloc (.cells CO 3)).alloc (.cells CP 160)).cell? ⟨w3.heap.size+1,4,none⟩=some (.slice none 0 0):=(Upd.cell (F:=[]) (((Upd.refl [] _).alloc _).alloc _) (p:=⟨w3.heap.size+1,4,none⟩) hbW (by simp)).trans b4
    have ga4:((W0.alloc (.cells CO 3)).alloc (.cells CP 160)).frozen? ⟨w3.heap.size+1,4,none⟩=false:=(Upd.frozen (F:=[]) (((Upd.refl [] _).alloc _).alloc _) (p:=⟨w3.heap.size+1,4,none⟩) hbW (by simp)).trans f4
    have qb3:((W0.alloc (.cells CP 160)).alloc (.cells CO 3)).cell? ⟨w3.heap.size+1,3,none⟩=some (.slice none 0 0):=(Upd.cell (F:=[]) (((Upd.refl [] _).alloc _).alloc _) (p:=⟨w3.heap.size+1,3,none⟩) hbW (by simp)).trans b3
    have gb3:((W0.alloc (.cells CP 160)).alloc (.cells CO 3)).frozen? ⟨w3.heap.size+1,3,none⟩=false:=(Upd.frozen (F:=[]) (((Upd.refl [] _).alloc _).alloc _) (p:=⟨w3.heap.size+1,3,none⟩) hbW (by simp)).trans f3
    have qb4:((W0.alloc (.cells CP 160)).alloc (.cells CO 3)).cell? ⟨w3.heap.size+1,4,none⟩=some (.slice none 0 0):=(Upd.cell (F:=[]) (((Upd.refl [] _).alloc _).alloc _) (p:=⟨w3.heap.size+1,4,none⟩) hbW (by simp)).trans b4
    have gb4:((W0.alloc (.cells CP 160)).alloc (.cells CO 3)).frozen? ⟨w3.heap.size+1,4,none⟩=false:=(Upd.frozen (F:=[]) (((Upd.refl [] _).alloc _).alloc _) (p:=⟨w3.heap.size+1,4,none⟩) hbW (by simp)).trans f4
    have qc3:(W0.alloc (.cells CO 3)).cell? ⟨w3.heap.size+1,3,none⟩=some (.slice none 0 0):=(Upd.cell (F:=[]) ((Upd.refl [] _).alloc _) (p:=⟨w3.heap.size+1,3,none⟩) hbW (by simp)).trans b3
    have gc3:(W0.alloc (.cells CO 3)).frozen? ⟨w3.heap.size+1,3,none⟩=false:=(Upd.frozen (F:=[]) ((Upd.refl [] _).alloc _) (p:=⟨w3.heap.size+1,3,none⟩) hbW (by simp)).trans f3
    have qc4:(W0.alloc (.cells CO 3)).cell? ⟨w3.heap.size+1,4,none⟩=some (.slice none 0 0):=(Upd.cell (F:=[]) ((Upd.refl [] _).alloc _) (p:=⟨w3.heap.size+1,4,none⟩) hbW (by simp)).trans b4
    have gc4:(W0.alloc (.cells CO 3)).frozen? ⟨w3.heap.size+1,4,none⟩=false:=(Upd.frozen (F:=[]) ((Upd.refl [] _).alloc _) (p:=⟨w3.heap.size+1,4,none⟩) hbW (by simp)).trans f4
    have hsz3:(W0.setCell ⟨w3.heap.size+1,3,none⟩ (.slice (some ⟨W0.heap.size,0,none⟩) N N)).heap.size=W0.heap.size:=by simp [World.setCell]
    have qd4:(((W0.setCell ⟨w3.heap.size+1,3,none⟩ (.slice (some ⟨W0.heap.size,0,none⟩) N N)).alloc (.cells CO 3)).alloc (.cells CP 160)).cell? ⟨w3.heap.size+1,4,none⟩=some (.slice none 0 0):=by
     rw [World.cell?_alloc_past _ _ _ (by rw [World.size_alloc,hsz3];show w3.heap.size+1<_;omega),World.cell?_alloc_past _ _ _ (by rw [hsz3];exact hbW),World.cell?_setCell_other _ _ _ _ (by simp)]
     exact b4
    have gd4:(((W0.setCell ⟨w3.heap.size+1,3,none⟩ (.slice (some ⟨W0.heap.size,0,none⟩) N N)).alloc (.cells CO 3)).alloc (.cells CP 160)).frozen? ⟨w3.heap.size+1,4,none⟩=false:=by
     rw [World.frozen?_alloc_past _ _ _ (by rw [World.size_alloc,hsz3];show w3.heap.size+1<_;omega),World.frozen?_alloc_past _ _ _ (by rw [hsz3];exact hbW),World.frozen?_setCell]
     exact f4
    clear hsz3
    have HW:=Lib.hid (And.intro hW (And.intro hWb (And.intro hWq hWs)))
    have HCO:=Lib.hid (And.intro hCO hCP)
    clear hW hWb hWq hWs hCO hCP hNb
    refine GoT.start [14,15,16,17,18,19] (fun w'=>w'.cell? ⟨w3.heap.size+1,2,none⟩=some (.slice An N Cn)) (by kernel_rfl) ?_ fun hS=>?_
    ·exact s2
    refine' GoT.mv (i:=0) (oi:=⟨some 47,_,_,_,_,_⟩) rfl (by rfl) ?z11_0 ?_
    case z11_0=>intro w;go_simp<;>with_reducible rfl
    simp only [Act.put,sA,sZ,sS]
    refine' GoT.mv (i:=1) (oi:=⟨some 48,_,_,_,_,_⟩) rfl (by rfl) ?z11_1 ?_
    case z11_1=>intro w;go_simp<;>with_reducible rfl
    simp only [Act.put,sA,sZ,sS]
    refine' GoT.mv (i:=2) (oi:=⟨some 49,_,_,_,_,_⟩) rfl (by rfl) ?z11_2 ?_
    case z11_2=>intro w;go_simp<;>with_reducible rfl
    simp only [Act.put,sA,sZ,sS]
    refine' GoT.mv (i:=3) (oi:=⟨some 50,_,_,_,_,_⟩) rfl (by rfl) ?z11_3 ?_
    case z11_3=>intro w;go_simp<;>with_reducible rfl
    simp only [Act.put,sA,sZ,sS]
    refine' GoT.mv (i:=4) (oi:=⟨some 51,_,_,_,_,_⟩) rfl (by rfl) ?z11_4 ?_
    case z11_4=>intro w;go_simp<;>with_reducible rfl
    simp only [Act.put,sA,sZ,sS]
    refine' GoT.tk 1 (i:=5) (oi:=⟨some 52,_,_,_,_,_⟩) rfl (by rfl) ?z11_5 ?_
    case z11_5=>intro w hSw;go_simp<;>with_reducible rfl
    simp only [Act.put,sA,sZ,sS]
    refine' GoT.mv (i:=6) (oi:=⟨some 53,_,_,_,_,_⟩) rfl (by rfl) ?z11_6 ?_
    case z11_6=>intro w;go_simp<;>with_reducible rfl
    simp only [Act.put,sA,sZ,sS]
    refine' GoT.mv (i:=8) (oi:=⟨some 55,_,_,_,_,_⟩) rfl (by rfl) ?z11_8 ?_
    case z11_8=>intro w;go_simp<;>with_reducible rfl
    simp only [Act.put,sA,sZ,sS]
    refine' GoT.mv (i:=9) (oi:=⟨some 56,_,_,_,_,_⟩) rfl (by rfl) ?z11_9 ?_
    case z11_9=>intro w;go_simp<;>with_reducible rfl
    simp only [Act.put,sA,sZ,sS]
    refine' GoT.mv (i:=10) (oi:=⟨some 57,_,_,_,_,_⟩) rfl (by rfl) ?z11_10 ?_
    case z11_10=>intro w;go_simp<;>with_reducible rfl
    simp only [Act.put,sA,sZ,sS]
    refine' GoT.tk 1 (i:=11) (oi:=⟨some 58,_,_,_,_,_⟩) rfl (by rfl) ?z11_11 ?_
    case z11_11=>intro w hSw;go_simp<;>with_reducible rfl
    simp only [Act.put,sA,sZ,sS]
    refine' GoT.mv (i:=12) (oi:=⟨some 59,_,_,_,_,_⟩) rfl (by rfl) ?z11_12 ?_
    case z11_12=>intro w;go_simp<;>with_reducible rfl
    simp only [Act.put,sA,sZ,sS]
    refine GoT.pair (i:=7) (o:=⟨some 54,_,_,_,_,_⟩) (k:=13) (o':=⟨some 60,_,_,_,_,_⟩) rfl rfl (by kernel_rfl) (fun K hK=>?_) (fun K hK=>?_)
    ·skip
     go_simp
     refine hK.out _ _ (fun _ h=>?_) ?_
     ·exact ((Upd.refl [] _).alloc _).cell (p:=⟨w3.heap.size+1,2,none⟩) (World.block_lt_of_cell? _ _ h) (by simp) |>.trans h
     clear hK K
     try simp only [Act.put,sA,sZ,sS]
     refine' GoT.mv (i:=14) (oi:=⟨some 61,_,_,_,_,_⟩) rfl (by rfl) ?z11a_14 ?_
     case z11a_14=>intro w;go_simp<;>with_reducible rfl
     simp only [Act.put,sA,sZ,sS]
     refine' GoT.mv (i:=15) (oi:=⟨some 62,_,_,_,_,_⟩) rfl (by rfl) ?z11a_15 ?_
     case z11a_15=>intro w;go_simp<;>with_reducible rfl
     simp only [Act.put,sA,sZ,sS]
     refine GoT.pair (i:=13) (o:=⟨some 60,_,_,_,_,_⟩) (k:=16) (o':=⟨none,_,_,_,_,_⟩) rfl rfl (by kernel_rfl) (fun K hK=>?_) (fun K hK=>?_)
     ·skip
      go_simp
      refine hK.out _ _ (fun _ h=>?_) ?_
      ·exact ((Upd.refl [] _).alloc _).cell (p:=⟨w3.heap.size+1,2,none⟩) (World.block_lt_of_cell? _ _ h) (by simp) |>.trans h
      clear hK K
      try simp only [Act.put,sA,sZ,sS]
      refine GoT.one (i:=16) (o:=⟨none,_,_,_,_,_⟩) rfl (by kernel_rfl) fun K hK=>?_
      go_simp
      refine hK.out _ _ (fun h=>(by cases h)) ?_
      clear hK K
      try simp only [Act.put,sA,sZ,sS]
      refine' GoT.mv (i:=17) (oi:=⟨some 63,_,_,_,_,_⟩) rfl (by rfl) ?z11aa_17 ?_
      case z11aa_17=>intro w;go_simp<;>with_reducible rfl
      simp only [Act.put,sA,sZ,sS]
      refine' GoT.mv (i:=18) (oi:=⟨some 64,_,_,_,_,_⟩) rfl (by rfl) ?z11aa_18 ?_
      case z11aa_18=>intro w;go_simp<;>with_reducible rfl
      simp only [Act.put,sA,sZ,sS]
      refine GoT.one (i:=19) (o:=⟨none,_,_,_,_,_⟩) rfl (by kernel_rfl) fun K hK=>?_
      go_simp
      refine hK.out _ _ (fun h=>(by cases h)) ?_
      clear hK K
      try simp only [Act.put,sA,sZ,sS]
      refine GoT.done (by kernel_rfl) ?_
      go_wp2_with fail
      go_ret2
      have hNb:N<1000000:=by have h1:=HNL.out;have h2:=nodesN_len n;have h3:=HL.out;have h4:=HN.out;omega
      have hE:=endA hNb HW.out.2.1
      rw [HCO.out.1,HCO.out.2] at hE
      have hNR:=HNR.out
      rw [HNL.out] at hNR
      exact newEnd HN.out HR.out HNL.out HU.out.size hz1 hz12 HMR.out HU2.out hNR HU3.out HW.out.1 HW.out.2.2.1 HW.out.2.2.2 hE
     ·skip
      go_simp
      refine hK.out _ _ (fun h=>(by cases h)) ?_
      clear hK K
      try simp only [Act.put,sA,sZ,sS]
      refine GoT.one (i:=13) (o:=⟨some 60,_,_,_,_,_⟩) rfl (by kernel_rfl) fun K hK=>?_
      go_simp
      refine hK.out _ _ (fun _ h=>?_) ?_
      ·exact ((Upd.refl [] _).alloc _).cell (p:=⟨w3.heap.size+1,2,none⟩) (World.block_lt_of_cell? _ _ h) (by simp) |>.trans h
      clear hK K
      try simp only [Act.put,sA,sZ,sS]
      refine' GoT.mv (i:=17) (oi:=⟨some 63,_,_,_,_,_⟩) rfl (by rfl) ?z11ab_17 ?_
      case z11ab_17=>intro w;go_simp<;>with_reducible rfl
      simp only [Act.put,sA,sZ,sS]
      refine' GoT.mv (i:=18) (oi:=⟨some 64,_,_,_,_,_⟩) rfl (by rfl) ?z11ab_18 ?_
      case z11ab_18=>intro w;go_simp<;>with_reducible rfl
      simp only [Act.put,sA,sZ,sS]
      refine GoT.one (i:=19) (o:=⟨none,_,_,_,_,_⟩) rfl (by kernel_rfl) fun K hK=>?_
      go_simp
      refine hK.out _ _ (fun h=>(by cases h)) ?_
      clear hK K
      try simp only [Act.put,sA,sZ,sS]
      refine GoT.done (by kernel_rfl) ?_
      go_wp2_with fail
      go_ret2
      have hNb:N<1000000:=by have h1:=HNL.out;have h2:=nodesN_len n;have h3:=HL.out;have h4:=HN.out;omega
      have hE:=endB hNb HW.out.2.1
      rw [HCO.out.1,HCO.out.2] at hE
      have hNR:=HNR.out
      rw [HNL.out] at hNR
      exact newEnd HN.out HR.out HNL.out HU.out.size hz1 hz12 HMR.out HU2.out hNR HU3.out HW.out.1 HW.out.2.2.1 HW.out.2.2.2 hE
    ·skip
     go_simp
     refine hK.out _ _ (fun _ h=>?_) ?_
     ·exact ((Upd.refl [] _).alloc _).cell (p:=⟨w3.heap.size+1,2,none⟩) (World.block_lt_of_cell? _ _ h) (by simp) |>.trans h
     clear hK K
     try simp only [Act.put,sA,sZ,sS]
     refine GoT.one (i:=7) (o:=⟨some 54,_,_,_,_,_⟩) rfl (by kernel_rfl) fun K hK=>?_
     go_simp
     refine hK.out _ _ (fun _ h=>?_) ?_
     ·exact ((Upd.refl [] _).alloc _).cell (p:=⟨w3.heap.size+1,2,none⟩) (World.block_lt_of_cell? _ _ h) (by simp) |>.trans h
     clear hK K
     try simp only [Act.put,sA,sZ,sS]
     refine' GoT.mv (i:=14) (oi:=⟨some 61,_,_,_,_,_⟩) rfl (by rfl) ?z11b_14 ?_
     case z11b_14=>intro w;go_simp<;>with_reducible rfl
     simp only [Act.put,sA,sZ,sS]
     refine' GoT.mv (i:=15) (oi:=⟨some 62,_,_,_,_,_⟩) rfl (by rfl) ?z11b_15 ?_
     case z11b_15=>intro w;go_simp<;>with_reducible rfl
     simp only [Act.put,sA,sZ,sS]
     refine GoT.one (i:=16) (o:=⟨none,_,_,_,_,_⟩) rfl (by kernel_rfl) fun K hK=>?_
     go_simp
     refine hK.out _ _ (fun h=>(by cases h)) ?_
     clear hK K
     try simp only [Act.put,sA,sZ,sS]
     refine' GoT.mv (i:=17) (oi:=⟨some 63,_,_,_,_,_⟩) rfl (by rfl) ?z11b_17 ?_
     case z11b_17=>intro w;go_simp<;>with_reducible rfl
     simp only [Act.put,sA,sZ,sS]
     refine' GoT.mv (i:=18) (oi:=⟨some 64,_,_,_,_,_⟩) rfl (by rfl) ?z11b_18 ?_
     case z11b_18=>intro w;go_simp<;>with_reducible rfl
     simp only [Act.put,sA,sZ,sS]
     refine GoT.one (i:=19) (o:=⟨none,_,_,_,_,_⟩) rfl (by kernel_rfl) fun K hK=>?_
     go_simp
     refine hK.out _ _ (fun h=>(by cases h)) ?_
     clear hK K
     try simp only [Act.put,sA,sZ,sS]
     refine GoT.done (by kernel_rfl) ?_
     go_wp2_with fail
     go_ret2
     have hNb:N<1000000:=by have h1:=HNL.out;have h2:=nodesN_len n;have h3:=HL.out;have h4:=HN.out;omega
     have hE:=endC hNb HW.out.2.1
     rw [HCO.out.1,HCO.out.2] at hE
     have hNR:=HNR.out
     rw [HNL.out] at hNR
     exact newEnd HN.out HR.out HNL.out HU.out.size hz1 hz12 HMR.out HU2.out hNR HU3.out HW.out.1 HW.out.2.2.1 HW.out.2.2.2 hE
   ·have hw64:wrap64 ((M.length:Int) - 1)=(n:Int):=by rw [IntWalk.wrap64_in _ ⟨by omega,by have:=HL.out;omega⟩];omega
    have hdn:decide ((n:Int)<0)=false:=decide_eq_false (by omega)
    have n0:(0:Int)≤(n:Int):=Int.natCast_nonneg _
    have hll:¬k<M.length:=HHH.out.2.2
    have HF:=Lib.hid hf
    clear hnn h0 hf
    go_upto_region 7 with fail
    clear hll
    go_wp2_with fail
    (with_reducible refine HF.out.mono ?_)
    rintro e w1 ⟨rfl,hfr,hu1,hz1⟩
    have hcl:=clone_int64 _ M.length (KL.all M) w1 ((HS.out.upd0 HU.out).upd0 hu1) (KL.all_one M) (by have:=HL.out;omega)
    have HCL:=Lib.hid hcl
    have HFR:=Lib.hid hfr
    have HU1:=Lib.hid (HU.out.trans hu1)
    clear hcl hfr hu1 hw64
    go_wp2_with fail
    (with_reducible refine HCL.out.mono ?_)
    rintro e w2 ⟨Am,Cm,rfl,hmr,hb2⟩
    have hu2:=Upd.of_below hb2
    have hfr2:FrameAt w2 wr.heap.size n:=(hu2.block wr.heap.size (lt_of_block HFR.out) (by simp)).trans HFR.out
    have HRT:=Lib.hid (frameRoot wr.heap.size n w2 (by have:=HL.out;have:=HN.out;omega) hfr2)
    have HND:=Lib.hid (frameNodes wr.heap.size n w2 (by have:=HL.out;have:=HN.out;omega) hfr2)
    have HMR:=Lib.hid hmr
    have HU2:=Lib.hid (HU1.out.trans hu2)
    have hz2:wr.heap.size<w2.heap.size:=lt_of_block hfr2
    have hz12:w1.heap.size≤w2.heap.size:=hu2.size
    clear hmr hb2 hu2 hfr2
    go_wp2_with fail
    (with_reducible refine HRT.out.mono ?_)
    rintro e w' ⟨rfl,rfl⟩
    go_wp2_with fail
    (with_reducible refine HND.out.mono ?_)
    rintro e w3 ⟨An,Cn,rfl,hnr,hu3⟩
    obtain ⟨R,hR⟩:∃R,rootI n=R:=⟨_,rfl⟩
    obtain ⟨N,hN⟩:∃N,(nodesN n).length=N:=⟨_,rfl⟩
    rw [hR,hN]
    have HNR:=Lib.hid hnr
    have HU3:=Lib.hid hu3
    have HR:=Lib.hid hR
    have HNL:=Lib.hid hN
    clear hnr hu3 hR hN
    go_upto_region 11 with fail
    have hW:Upd [] w3 ((w3.alloc (.map #[] 0)).alloc (.cells #[.slice Am M.length Cm,.int .i64 R,.slice An N Cn,.slice none 0 0,.slice none 0 0,.map (some w3.heap.size),.int .i64 0] 151)):=((Upd.refl _ _).alloc _).alloc _
    have hWb:((w3.alloc (.map #[] 0)).alloc (.cells #[.slice Am M.length Cm,.int .i64 R,.slice An N Cn,.slice none 0 0,.slice none 0 0,.map (some w3.heap.size),.int .i64 0] 151)).heap[w3.heap.size+1]? = some (.cells #[.slice Am M.length Cm,.int .i64 R,.slice An N Cn,.slice none 0 0,.slice none 0 0,.map (some w3.heap.size),.int .i64 0] 151 (0,0)):=by
     have:=heap_alloc_new (w3.alloc (.map #[] 0)) (.cells #[.slice Am M.length Cm,.int .i64 R,.slice An N Cn,.slice none 0 0,.slice none 0 0,.map (some w3.heap.size),.int .i64 0] 151)
     simpa using this
    have hWq:HeldAt ((w3.alloc (.map #[] 0)).alloc (.cells #[.slice Am M.length Cm,.int .i64 R,.slice An N Cn,.slice none 0 0,.slice none 0 0,.map (some w3.heap.size),.int .i64 0] 151)) w3.heap.size 0 (fun _=>0):=(HeldAt.made w3).upd ((Upd.refl [] _).alloc _) (by simp)
    have hWs:((w3.alloc (.map #[] 0)).alloc (.cells #[.slice Am M.length Cm,.int .i64 R,.slice An N Cn,.slice none 0 0,.slice none 0 0,.map (some w3.heap.size),.int .i64 0] 151)).heap.size=w3.heap.size+2:=by simp
    generalize (w3.alloc (.map #[] 0)).alloc (.cells #[.slice Am M.length Cm,.int .i64 R,.slice An N Cn,.slice none 0 0,.slice none 0 0,.map (some w3.heap.size),.int .i64 0] 151)=W0 at hW hWb hWq hWs ⊢
    obtain ⟨CO,hCO⟩:∃CO,madeCells #[.int .i64 0] (N*1)=CO:=⟨_,rfl⟩
    obtain ⟨CP,hCP⟩:∃CP,madeCells #[.int .u64 0,.int .i64 0,.bool false,.bool false] (N*4)=CP:=⟨_,rfl⟩
    have hNb:N<1000000:=by have h1:=HNL.out;have h2:=nodesN_len n;have h3:=HL.out;have h4:=HN.out;omega
    have mk1:∀W:World,(Instr.makeSlice 138 (.int .i64 (N:Int)) (.int .i64 (N:Int))).run Tryz.prog W=.ok (.slice (some ⟨W.heap.size,0,none⟩) N N) (W.alloc (.cells CO 3)):=fun W=>by rw [←hCO];exact make_ints W N hNb
    have mk2:∀W:World,(Instr.makeSlice 149 (.int .i64 (N:Int)) (.int .i64 (N:Int))).run Tryz.prog W=.ok (.slice (some ⟨W.heap.size,0,none⟩) N N) (W.alloc (.cells CP 160)):=fun W=>by rw [←hCP];exact make_parts W N hNb
    have b2:W0.cell? ⟨w3.heap.size+1,2,none⟩=some (.slice An N Cn):=by simp [World.cell?,hWb]
    have s2:W0.drew.cell? ⟨w3.heap.size+1,2,none⟩=some (.slice An N Cn):=b2
    have b3:W0.cell? ⟨w3.heap.size+1,3,none⟩=some (.slice none 0 0):=by simp [World.cell?,hWb]
    have b4:W0.cell? ⟨w3.heap.size+1,4,none⟩=some (.slice none 0 0):=by simp [World.cell?,hWb]
    have f3:W0.frozen? ⟨w3.heap.size+1,3,none⟩=false:=by simp [World.frozen?,hWb]
    have f4:W0.frozen? ⟨w3.heap.size+1,4,none⟩=false:=by simp [World.frozen?,hWb]
    have hbW:w3.heap.size+1<W0.heap.size:=by omega
    have NN0:(0:Int)≤(N:Int):=Int.natCast_nonneg _
    have qa3:((W0.alloc (.cells CO 3)).alloc (.cells CP 160)).cell? ⟨w3.heap.size+1,3,none⟩=some (.slice none 0 0):=(Upd.cell (F:=[]) (((Upd.refl [] _).alloc _).alloc _) (p:=⟨w3.heap.size+1,3,none⟩) hbW (by simp)).trans b3
    have ga3:((W0.alloc (.cells CO 3)).alloc (.cells CP 160)).frozen? ⟨w3.heap.size+1,3,none⟩=false:=(Upd.frozen (F:=[]) (((Upd.refl [] _).alloc _).alloc _) (p:=⟨w3.heap.size+1,3,none⟩) hbW (by simp)).trans f3
    have qa4:((W0.alloc (.cells CO 3)).alloc (.cells CP 160)).cell? ⟨w3.heap.size+1,4,none⟩=some (.slice none 0 0):=(Upd.cell (F:=[]) (((Upd.refl [] _).alloc _).alloc _) (p:=⟨w3.heap.size+1,4,none⟩) hbW (by simp)).trans b4
    have ga4:((W0.alloc (.cells CO 3)).alloc (.cells CP 160)).frozen? ⟨w3.heap.size+1,4,none⟩=false:=(Upd.frozen (F:=[]) (((Upd.refl [] _).alloc _).alloc _) (p:=⟨w3.heap.size+1,4,none⟩) hbW (by simp)).trans f4
    have qb3:((W0.alloc (.cells CP 160)).alloc (.cells CO 3)).cell? ⟨w3.heap.size+1,3,none⟩=some (.slice none 0 0):=(Upd.cell (F:=[]) (((Upd.refl [] _).alloc _).alloc _) (p:=⟨w3.heap.size+1,3,none⟩) hbW (by simp)).trans b3
    have gb3:((W0.alloc (.cells CP 160)).alloc (.cells CO 3)).frozen? ⟨w3.heap.size+1,3,none⟩=false:=(Upd.frozen (F:=[]) (((Upd.refl [] _).alloc _).alloc _) (p:=⟨w3.heap.size+1,3,none⟩) hbW (by simp)).trans f3
    have qb4:((W0.alloc (.cells CP 160)).alloc (.cells CO 3)).cell? ⟨w3.heap.size+1,4,none⟩=some (.slice none 0 0):=(Upd.cell (F:=[]) (((Upd.refl [] _).alloc _).alloc _) (p:=⟨w3.heap.size+1,4,none⟩) hbW (by simp)).trans b4
    have gb4:((W0.alloc (.cells CP 160)).alloc (.cells CO 3)).frozen? ⟨w3.heap.size+1,4,none⟩=false:=(Upd.frozen (F:=[]) (((Upd.refl [] _).alloc _).alloc _) (p:=⟨w3.heap.size+1,4,none⟩) hbW (by simp)).trans f4
    have qc3:(W0.alloc (.cells CO 3)).cell? ⟨w3.heap.size+1,3,none⟩=some (.slice none 0 0):=(Upd.cell (F:=[]) ((Upd.refl [] _).alloc _) (p:=⟨w3.heap.size+1,3,none⟩) hbW (by simp)).trans b3
    have gc3:(W0.alloc (.cells CO 3)).frozen? ⟨w3.heap.size+1,3,none⟩=false:=(Upd.frozen (F:=[]) ((Upd.refl [] _).alloc _) (p:=⟨w3.heap.size+1,3,none⟩) hbW (by simp)).trans f3
    have qc4:(W0.alloc (.cells CO 3)).cell? ⟨w3.heap.size+1,4,none⟩=some (.slice none 0 0):=(Upd.cell (F:=[]) ((Upd.refl [] _).alloc _) (p:=⟨w3.heap.size+1,4,none⟩) hbW (by simp)).trans b4
    have gc4:(W0.alloc (.cells CO 3)).frozen? ⟨w3.heap.size+1,4,none⟩=false:=(Upd.frozen (F:=[]) ((Upd.refl [] _).alloc _) (p:=⟨w3.heap.size+1,4,none⟩) hbW (by simp)).trans f4
    have hsz3:(W0.setCell ⟨w3.heap.size+1,3,none⟩ (.slice (some ⟨W0.heap.size,0,none⟩) N N)).heap.size=W0.heap.size:=by simp [World.setCell]
    have qd4:(((W0.setCell ⟨w3.heap.size+1,3,none⟩ (.slice (some ⟨W0.heap.size,0,none⟩) N N)).alloc (.cells CO 3)).alloc (.cells CP 160)).cell? ⟨w3.heap.size+1,4,none⟩=some (.slice none 0 0):=by
     rw [World.cell?_alloc_past _ _ _ (by rw [World.size_alloc,hsz3];show w3.heap.size+1<_;omega),World.cell?_alloc_past _ _ _ (by rw [hsz3];exact hbW),World.cell?_setCell_other _ _ _ _ (by simp)]
     exact b4
    have gd4:(((W0.setCell ⟨w3.heap.size+1,3,none⟩ (.slice (some ⟨W0.heap.size,0,none⟩) N N)).alloc (.cells CO 3)).alloc (.cells CP 160)).frozen? ⟨w3.heap.size+1,4,none⟩=false:=by
     rw [World.frozen?_alloc_past _ _ _ (by rw [World.size_alloc,hsz3];show w3.heap.size+1<_;omega),World.frozen?_alloc_past _ _ _ (by rw [hsz3];exact hbW),World.frozen?_setCell]
     exact f4
    clear hsz3
    have HW:=Lib.hid (And.intro hW (And.intro hWb (And.intro hWq hWs)))
    have HCO:=Lib.hid (And.intro hCO hCP)
    clear hW hWb hWq hWs hCO hCP hNb
    refine GoT.start [14,15,16,17,18,19] (fun w'=>w'.cell? ⟨w3.heap.size+1,2,none⟩=some (.slice An N Cn)) (by kernel_rfl) ?_ fun hS=>?_
    ·exact s2
    refine' GoT.mv (i:=0) (oi:=⟨some 47,_,_,_,_,_⟩) rfl (by rfl) ?y11_0 ?_
    case y11_0=>intro w;go_simp<;>with_reducible rfl
    simp only [Act.put,sA,sZ,sS]
    refine' GoT.mv (i:=1) (oi:=⟨some 48,_,_,_,_,_⟩) rfl (by rfl) ?y11_1 ?_
    case y11_1=>intro w;go_simp<;>with_reducible rfl
    simp only [Act.put,sA,sZ,sS]
    refine' GoT.mv (i:=2) (oi:=⟨some 49,_,_,_,_,_⟩) rfl (by rfl) ?y11_2 ?_
    case y11_2=>intro w;go_simp<;>with_reducible rfl
    simp only [Act.put,sA,sZ,sS]
    refine' GoT.mv (i:=3) (oi:=⟨some 50,_,_,_,_,_⟩) rfl (by rfl) ?y11_3 ?_
    case y11_3=>intro w;go_simp<;>with_reducible rfl
    simp only [Act.put,sA,sZ,sS]
    refine' GoT.mv (i:=4) (oi:=⟨some 51,_,_,_,_,_⟩) rfl (by rfl) ?y11_4 ?_
    case y11_4=>intro w;go_simp<;>with_reducible rfl
    simp only [Act.put,sA,sZ,sS]
    refine' GoT.tk 1 (i:=5) (oi:=⟨some 52,_,_,_,_,_⟩) rfl (by rfl) ?y11_5 ?_
    case y11_5=>intro w hSw;go_simp<;>with_reducible rfl
    simp only [Act.put,sA,sZ,sS]
    refine' GoT.mv (i:=6) (oi:=⟨some 53,_,_,_,_,_⟩) rfl (by rfl) ?y11_6 ?_
    case y11_6=>intro w;go_simp<;>with_reducible rfl
    simp only [Act.put,sA,sZ,sS]
    refine' GoT.mv (i:=8) (oi:=⟨some 55,_,_,_,_,_⟩) rfl (by rfl) ?y11_8 ?_
    case y11_8=>intro w;go_simp<;>with_reducible rfl
    simp only [Act.put,sA,sZ,sS]
    refine' GoT.mv (i:=9) (oi:=⟨some 56,_,_,_,_,_⟩) rfl (by rfl) ?y11_9 ?_
    case y11_9=>intro w;go_simp<;>with_reducible rfl
    simp only [Act.put,sA,sZ,sS]
    refine' GoT.mv (i:=10) (oi:=⟨some 57,_,_,_,_,_⟩) rfl (by rfl) ?y11_10 ?_
    case y11_10=>intro w;go_simp<;>with_reducible rfl
    simp only [Act.put,sA,sZ,sS]
    refine' GoT.tk 1 (i:=11) (oi:=⟨some 58,_,_,_,_,_⟩) rfl (by rfl) ?y11_11 ?_
    case y11_11=>intro w hSw;go_simp<;>with_reducible rfl
    simp only [Act.put,sA,sZ,sS]
    refine' GoT.mv (i:=12) (oi:=⟨some 59,_,_,_,_,_⟩) rfl (by rfl) ?y11_12 ?_
    case y11_12=>intro w;go_simp<;>with_reducible rfl
    simp only [Act.put,sA,sZ,sS]
    refine GoT.pair (i:=7) (o:=⟨some 54,_,_,_,_,_⟩) (k:=13) (o':=⟨some 60,_,_,_,_,_⟩) rfl rfl (by kernel_rfl) (fun K hK=>?_) (fun K hK=>?_)
    ·skip
     go_simp
     refine hK.out _ _ (fun _ h=>?_) ?_
     ·exact ((Upd.refl [] _).alloc _).cell (p:=⟨w3.heap.size+1,2,none⟩) (World.block_lt_of_cell? _ _ h) (by simp) |>.trans h
     clear hK K
     try simp only [Act.put,sA,sZ,sS]
     refine' GoT.mv (i:=14) (oi:=⟨some 61,_,_,_,_,_⟩) rfl (by rfl) ?y11a_14 ?_
     case y11a_14=>intro w;go_simp<;>with_reducible rfl
     simp only [Act.put,sA,sZ,sS]
     refine' GoT.mv (i:=15) (oi:=⟨some 62,_,_,_,_,_⟩) rfl (by rfl) ?y11a_15 ?_
     case y11a_15=>intro w;go_simp<;>with_reducible rfl
     simp only [Act.put,sA,sZ,sS]
     refine GoT.pair (i:=13) (o:=⟨some 60,_,_,_,_,_⟩) (k:=16) (o':=⟨none,_,_,_,_,_⟩) rfl rfl (by kernel_rfl) (fun K hK=>?_) (fun K hK=>?_)
     ·skip
      go_simp
      refine hK.out _ _ (fun _ h=>?_) ?_
      ·exact ((Upd.refl [] _).alloc _).cell (p:=⟨w3.heap.size+1,2,none⟩) (World.block_lt_of_cell? _ _ h) (by simp) |>.trans h
      clear hK K
      try simp only [Act.put,sA,sZ,sS]
      refine GoT.one (i:=16) (o:=⟨none,_,_,_,_,_⟩) rfl (by kernel_rfl) fun K hK=>?_
      go_simp
      refine hK.out _ _ (fun h=>(by cases h)) ?_
      clear hK K
      try simp only [Act.put,sA,sZ,sS]
      refine' GoT.mv (i:=17) (oi:=⟨some 63,_,_,_,_,_⟩) rfl (by rfl) ?y11aa_17 ?_
      case y11aa_17=>intro w;go_simp<;>with_reducible rfl
      simp only [Act.put,sA,sZ,sS]
      refine' GoT.mv (i:=18) (oi:=⟨some 64,_,_,_,_,_⟩) rfl (by rfl) ?y11aa_18 ?_
      case y11aa_18=>intro w;go_simp<;>with_reducible rfl
      simp only [Act.put,sA,sZ,sS]
      refine GoT.one (i:=19) (o:=⟨none,_,_,_,_,_⟩) rfl (by kernel_rfl) fun K hK=>?_
      go_simp
      refine hK.out _ _ (fun h=>(by cases h)) ?_
      clear hK K
      try simp only [Act.put,sA,sZ,sS]
      refine GoT.done (by kernel_rfl) ?_
      go_wp2_with fail
      go_ret2
      have hNb:N<1000000:=by have h1:=HNL.out;have h2:=nodesN_len n;have h3:=HL.out;have h4:=HN.out;omega
      have hE:=endA hNb HW.out.2.1
      rw [HCO.out.1,HCO.out.2] at hE
      have hNR:=HNR.out
      rw [HNL.out] at hNR
      exact newEnd HN.out HR.out HNL.out HU.out.size hz1 hz12 HMR.out HU2.out hNR HU3.out HW.out.1 HW.out.2.2.1 HW.out.2.2.2 hE
     ·skip
      go_simp
      refine hK.out _ _ (fun h=>(by cases h)) ?_
      clear hK K
      try simp only [Act.put,sA,sZ,sS]
      refine GoT.one (i:=13) (o:=⟨some 60,_,_,_,_,_⟩) rfl (by kernel_rfl) fun K hK=>?_
      go_simp
      refine hK.out _ _ (fun _ h=>?_) ?_
      ·exact ((Upd.refl [] _).alloc _).cell (p:=⟨w3.heap.size+1,2,none⟩) (World.block_lt_of_cell? _ _ h) (by simp) |>.trans h
      clear hK K
      try simp only [Act.put,sA,sZ,sS]
      refine' GoT.mv (i:=17) (oi:=⟨some 63,_,_,_,_,_⟩) rfl (by rfl) ?y11ab_17 ?_
      case y11ab_17=>intro w;go_simp<;>with_reducible rfl
      simp only [Act.put,sA,sZ,sS]
      refine' GoT.mv (i:=18) (oi:=⟨some 64,_,_,_,_,_⟩) rfl (by rfl) ?y11ab_18 ?_
      case y11ab_18=>intro w;go_simp<;>with_reducible rfl
      simp only [Act.put,sA,sZ,sS]
      refine GoT.one (i:=19) (o:=⟨none,_,_,_,_,_⟩) rfl (by kernel_rfl) fun K hK=>?_
      go_simp
      refine hK.out _ _ (fun h=>(by cases h)) ?_
      clear hK K
      try simp only [Act.put,sA,sZ,sS]
      refine GoT.done (by kernel_rfl) ?_
      go_wp2_with fail
      go_ret2
      have hNb:N<1000000:=by have h1:=HNL.out;have h2:=nodesN_len n;have h3:=HL.out;have h4:=HN.out;omega
      have hE:=endB hNb HW.out.2.1
      rw [HCO.out.1,HCO.out.2] at hE
      have hNR:=HNR.out
      rw [HNL.out] at hNR
      exact newEnd HN.out HR.out HNL.out HU.out.size hz1 hz12 HMR.out HU2.out hNR HU3.out HW.out.1 HW.out.2.2.1 HW.out.2.2.2 hE
    ·skip
     go_simp
     refine hK.out _ _ (fun _ h=>?_) ?_
     ·exact ((Upd.refl [] _).alloc _).cell (p:=⟨w3.heap.size+1,2,none⟩) (World.block_lt_of_cell? _ _ h) (by simp) |>.trans h
     clear hK K
     try simp only [Act.put,sA,sZ,sS]
     refine GoT.one (i:=7) (o:=⟨some 54,_,_,_,_,_⟩) rfl (by kernel_rfl) fun K hK=>?_
     go_simp
     refine hK.out _ _ (fun _ h=>?_) ?_
     ·exact ((Upd.refl [] _).alloc _).cell (p:=⟨w3.heap.size+1,2,none⟩) (World.block_lt_of_cell? _ _ h) (by simp) |>.trans h
     clear hK K
     try simp only [Act.put,sA,sZ,sS]
     refine' GoT.mv (i:=14) (oi:=⟨some 61,_,_,_,_,_⟩) rfl (by rfl) ?y11b_14 ?_
     case y11b_14=>intro w;go_simp<;>with_reducible rfl
     simp only [Act.put,sA,sZ,sS]
     refine' GoT.mv (i:=15) (oi:=⟨some 62,_,_,_,_,_⟩) rfl (by rfl) ?y11b_15 ?_
     case y11b_15=>intro w;go_simp<;>with_reducible rfl
     simp only [Act.put,sA,sZ,sS]
     refine GoT.one (i:=16) (o:=⟨none,_,_,_,_,_⟩) rfl (by kernel_rfl) fun K hK=>?_
     go_simp
     refine hK.out _ _ (fun h=>(by cases h)) ?_
     clear hK K
     try simp only [Act.put,sA,sZ,sS]
     refine' GoT.mv (i:=17) (oi:=⟨some 63,_,_,_,_,_⟩) rfl (by rfl) ?y11b_17 ?_
     case y11b_17=>intro w;go_simp<;>with_reducible rfl
     simp only [Act.put,sA,sZ,sS]
     refine' GoT.mv (i:=18) (oi:=⟨some 64,_,_,_,_,_⟩) rfl (by rfl) ?y11b_18 ?_
     case y11b_18=>intro w;go_simp<;>with_reducible rfl
     simp only [Act.put,sA,sZ,sS]
     refine GoT.one (i:=19) (o:=⟨none,_,_,_,_,_⟩) rfl (by kernel_rfl) fun K hK=>?_
     go_simp
     refine hK.out _ _ (fun h=>(by cases h)) ?_
     clear hK K
     try simp only [Act.put,sA,sZ,sS]
     refine GoT.done (by kernel_rfl) ?_
     go_wp2_with fail
     go_ret2
     have hNb:N<1000000:=by have h1:=HNL.out;have h2:=nodesN_len n;have h3:=HL.out;have h4:=HN.out;omega
     have hE:=endC hNb HW.out.2.1
     rw [HCO.out.1,HCO.out.2] at hE
     have hNR:=HNR.out
     rw [HNL.out] at hNR
     exact newEnd HN.out HR.out HNL.out HU.out.size hz1 hz12 HMR.out HU2.out hNR HU3.out HW.out.1 HW.out.2.2.1 HW.out.2.2.2 hE
end Go.Proofs.YtkmnbodlciepaaaGreat
