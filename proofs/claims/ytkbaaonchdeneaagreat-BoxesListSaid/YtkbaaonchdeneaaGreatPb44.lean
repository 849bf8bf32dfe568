/- cover.New: what lies in memory behind its last statement. cover.New. -/
import Derived.Test.YtkbaaonchdeneaaGreatPb43
set_option maxHeartbeats 8000000
set_option maxRecDepth 100000
namespace Go.Proofs.YtkbaaonchdeneaaGreat
open Go.RowKit
theorem zeroCells (N:Nat):(madeCells #[.int .u64 0,.int .i64 0,.bool false,.bool false] (N*4)).toList=KP.all (List.replicate N ⟨0,0,false,false⟩):=by
 apply List.ext_getElem?
 intro j;by_cases hj:j<N*4
 ·have h1:(madeCells #[.int .u64 0,.int .i64 0,.bool false,.bool false] (N*4)).toList[j]? = #[Value.int .u64 0,.int .i64 0,.bool false,.bool false][j % 4]?:=by
   have h4:j % 4<4:=Nat.mod_lt _ (by omega);simp [madeCells,hj];rcases (by omega:j % 4=0∨j % 4=1∨j % 4=2∨j % 4=3) with h | h | h | h<;>simp [h]
  have hk:j / 4<(List.replicate N (⟨0,0,false,false⟩:Part)).length:=by rw [List.length_replicate];omega
  have h4:j % 4<4:=Nat.mod_lt _ (by omega)
  obtain ⟨u,hu⟩:∃u,(KP.enc ((List.replicate N (⟨0,0,false,false⟩:Part))[j / 4]'hk))[j % 4]? = some u:=by
   rw [List.getElem_replicate];rcases (by omega:j % 4=0∨j % 4=1∨j % 4=2∨j % 4=3) with h | h | h | h<;>rw [h]<;>exact ⟨_,rfl⟩
  have h2:=KP.Qu _ (j / 4) (j % 4) hk u hu;rw [show j / 4*KP.sz+j % 4=j by show j / 4*4+j % 4=j;omega] at h2;rw [h1,h2,←hu,List.getElem_replicate];rcases (by omega:j % 4=0∨j % 4=1∨j % 4=2∨j % 4=3) with h | h | h | h<;>rw [h]<;>rfl
 ·rw [List.getElem?_eq_none (by simp [madeCells];omega),List.getElem?_eq_none (by rw [KP.IG,List.length_replicate];show N*4≤j;omega)]
theorem a5e (W:World) (N:Nat) (hN:N<1000000):KC.row (W.alloc (.cells (madeCells #[.int .i64 0] (N*1)) 3)) W.heap.size (.slice (some ⟨W.heap.size,0,none⟩) N N) (List.replicate N 0):=by
 have:=World.ownsRow_lit (e:=3) (size:=1) (base:=W.heap.size) W (madeCells #[.int .i64 0] (N*1)) N (Nat.le_refl _) (by unfold maxLen;omega) (size_madeCells _ _);unfold Kind.row;rw [List.length_replicate,KC.all_eq,List.map_replicate];rw [Nat.mul_one,toList_madeCells_one] at this;rw [Nat.mul_one];exact this
theorem rowP (W:World) (N:Nat) (hN:N<1000000):KP.row (W.alloc (.cells (madeCells #[.int .u64 0,.int .i64 0,.bool false,.bool false] (N*4)) 236)) W.heap.size (.slice (some ⟨W.heap.size,0,none⟩) N N) (List.replicate N ⟨0,0,false,false⟩):=by
 have:=World.ownsRow_lit (e:=236) (size:=4) (base:=W.heap.size) W (madeCells #[.int .u64 0,.int .i64 0,.bool false,.bool false] (N*4)) N (Nat.le_refl _) (by unfold maxLen;omega) (size_madeCells _ _);unfold Kind.row;rw [List.length_replicate,←zeroCells];exact this
structure a1z (W0 W':World) (b N:Nat) (mv nv:Value) (R:Int) (hb g1 g2:Nat):Prop where
 upd:Bf [b] W0 W'
 head:W'.heap[b]? = some (.cells #[mv,.int .i64 R,nv,.slice (some ⟨g1,0,none⟩) N N,.slice (some ⟨g2,0,none⟩) N N,.map (some hb),.int .i64 0] 229 (0,0))
 ro:KC.row W' W0.heap.size (.slice (some ⟨g1,0,none⟩) N N) (List.replicate N 0)
 rp:KP.row W' W0.heap.size (.slice (some ⟨g2,0,none⟩) N N) (List.replicate N ⟨0,0,false,false⟩)
 ne:g1≠g2
section
variable {W0:World} {b N:Nat} {mv nv:Value} {R:Int} {hb:Nat} (hN:N<1000000) (h:W0.heap[b]? = some (.cells #[mv,.int .i64 R,nv,.slice none 0 0,.slice none 0 0,.map (some hb),.int .i64 0] 229 (0,0)))
include hN h
theorem a8i:a1z W0 ((((W0.alloc (.cells (madeCells #[.int .i64 0] (N*1)) 3)).alloc (.cells (madeCells #[.int .u64 0,.int .i64 0,.bool false,.bool false] (N*4)) 236)).setCell ⟨b,3,none⟩ (.slice (some ⟨W0.heap.size,0,none⟩) N N)).setCell ⟨b,4,none⟩ (.slice (some ⟨W0.heap.size+1,0,none⟩) N N)).drew b N mv nv R hb W0.heap.size (W0.heap.size+1):=by
 have hbw:=lt_of_block h;have e1:(W0.alloc (.cells (madeCells #[.int .i64 0] (N*1)) 3)).heap.size=W0.heap.size+1:=by simp
 have r1:=a5e W0 N hN;have r2:=rowP (W0.alloc (.cells (madeCells #[.int .i64 0] (N*1)) 3)) N hN;rw [e1] at r2;have r1':=Bg r1 ((Bf.refl [] _).alloc (.cells (madeCells #[.int .u64 0,.int .i64 0,.bool false,.bool false] (N*4)) 236)) (by simp);refine ⟨((((Bf.refl [b] W0).alloc _).alloc _).setCell (.inl (by simp)) _).setCell (.inl (by simp)) _ |>.drew,?_,?_,?_,by omega⟩
 ·have hh:((W0.alloc (.cells (madeCells #[.int .i64 0] (N*1)) 3)).alloc (.cells (madeCells #[.int .u64 0,.int .i64 0,.bool false,.bool false] (N*4)) 236)).heap[b]? = some (.cells #[mv,.int .i64 R,nv,.slice none 0 0,.slice none 0 0,.map (some hb),.int .i64 0] 229 (0,0)):=by
   rw [Below.heap_alloc _ _ _ (by rw [e1];omega),Below.heap_alloc _ _ _ hbw];exact h
  exact heap_set (heap_set hh 3 _) 4 _
 ·exact Bz (Bz r1' (by simp [blk];omega) _) (by simp [blk];omega) _
 ·exact own_base (Bz (Bz r2 (by simp [blk];omega) _) (by simp [blk];omega) _) (by omega)
theorem a8j:a1z W0 ((((W0.alloc (.cells (madeCells #[.int .u64 0,.int .i64 0,.bool false,.bool false] (N*4)) 236)).alloc (.cells (madeCells #[.int .i64 0] (N*1)) 3)).setCell ⟨b,3,none⟩ (.slice (some ⟨W0.heap.size+1,0,none⟩) N N)).setCell ⟨b,4,none⟩ (.slice (some ⟨W0.heap.size,0,none⟩) N N)).drew b N mv nv R hb (W0.heap.size+1) W0.heap.size:=by
 have hbw:=lt_of_block h;have e1:(W0.alloc (.cells (madeCells #[.int .u64 0,.int .i64 0,.bool false,.bool false] (N*4)) 236)).heap.size=W0.heap.size+1:=by simp
 have r1:=rowP W0 N hN;have r2:=a5e (W0.alloc (.cells (madeCells #[.int .u64 0,.int .i64 0,.bool false,.bool false] (N*4)) 236)) N hN;rw [e1] at r2;have r1':=Bg r1 ((Bf.refl [] _).alloc (.cells (madeCells #[.int .i64 0] (N*1)) 3)) (by simp);refine ⟨((((Bf.refl [b] W0).alloc _).alloc _).setCell (.inl (by simp)) _).setCell (.inl (by simp)) _ |>.drew,?_,?_,?_,by omega⟩
 ·have hh:((W0.alloc (.cells (madeCells #[.int .u64 0,.int .i64 0,.bool false,.bool false] (N*4)) 236)).alloc (.cells (madeCells #[.int .i64 0] (N*1)) 3)).heap[b]? = some (.cells #[mv,.int .i64 R,nv,.slice none 0 0,.slice none 0 0,.map (some hb),.int .i64 0] 229 (0,0)):=by
   rw [Below.heap_alloc _ _ _ (by rw [e1];omega),Below.heap_alloc _ _ _ hbw];exact h
  exact heap_set (heap_set hh 3 _) 4 _
 ·exact own_base (Bz (Bz r2 (by simp [blk];omega) _) (by simp [blk];omega) _) (by omega)
 ·exact Bz (Bz r1' (by simp [blk];omega) _) (by simp [blk];omega) _
theorem a8k:a1z W0 ((((W0.setCell ⟨b,3,none⟩ (.slice (some ⟨W0.heap.size,0,none⟩) N N)).alloc (.cells (madeCells #[.int .i64 0] (N*1)) 3)).alloc (.cells (madeCells #[.int .u64 0,.int .i64 0,.bool false,.bool false] (N*4)) 236)).setCell ⟨b,4,none⟩ (.slice (some ⟨W0.heap.size+1,0,none⟩) N N)).drew b N mv nv R hb W0.heap.size (W0.heap.size+1):=by
 have hbw:=lt_of_block h;have e0:(W0.setCell ⟨b,3,none⟩ (.slice (some ⟨W0.heap.size,0,none⟩) N N)).heap.size=W0.heap.size:=by simp [World.setCell]
 have e1:((W0.setCell ⟨b,3,none⟩ (.slice (some ⟨W0.heap.size,0,none⟩) N N)).alloc (.cells (madeCells #[.int .i64 0] (N*1)) 3)).heap.size=W0.heap.size+1:=by rw [World.size_alloc,e0]
 have r1:=a5e (W0.setCell ⟨b,3,none⟩ (.slice (some ⟨W0.heap.size,0,none⟩) N N)) N hN;have r2:=rowP ((W0.setCell ⟨b,3,none⟩ (.slice (some ⟨W0.heap.size,0,none⟩) N N)).alloc (.cells (madeCells #[.int .i64 0] (N*1)) 3)) N hN;rw [e0] at r1;rw [e1] at r2;have r1':=Bg r1 ((Bf.refl [] _).alloc (.cells (madeCells #[.int .u64 0,.int .i64 0,.bool false,.bool false] (N*4)) 236)) (by simp);refine ⟨((((Bf.refl [b] W0).setCell (.inl (by simp)) _).alloc _).alloc _).setCell (.inl (by simp)) _ |>.drew,?_,?_,?_,by omega⟩
 ·have h3:=heap_set h 3 (.slice (some ⟨W0.heap.size,0,none⟩) N N);have hh:=(Below.heap_alloc ((W0.setCell ⟨b,3,none⟩ (.slice (some ⟨W0.heap.size,0,none⟩) N N)).alloc (.cells (madeCells #[.int .i64 0] (N*1)) 3)) (.cells (madeCells #[.int .u64 0,.int .i64 0,.bool false,.bool false] (N*4)) 236) b (by rw [e1];omega)).trans ((Below.heap_alloc (W0.setCell ⟨b,3,none⟩ (.slice (some ⟨W0.heap.size,0,none⟩) N N)) (.cells (madeCells #[.int .i64 0] (N*1)) 3) b (by rw [e0];exact hbw)).trans h3);exact heap_set hh 4 _
 ·exact Bz r1' (by simp [blk];omega) _
 ·exact own_base (Bz r2 (by simp [blk];omega) _) (by omega)
end
theorem VG {α:Type} (a:α):∀(d f t pf pt o:Nat),t - f≤d→f<t→FX (fun _ _ _ _ _=>a) f t pf pt o=List.replicate (2*(t - f) - 1) a:=by
 intro d;induction d with
 |zero=>intro f t pf pt o h1 h2;omega
 |succ d ih=>
  intro f t pf pt o h1 h2;by_cases h:f+1<t
  ·have hm:=DJ h;rw [DL _ pf pt o h,ih _ _ _ _ _ (by omega) hm.1,ih _ _ _ _ _ (by omega) hm.2];rw [show ([a]:List α)=List.replicate 1 a from rfl,List.replicate_append_replicate,List.replicate_append_replicate];congr 1;omega
  ·rw [DK _ pf pt o h,show 2*(t - f) - 1=1 by omega];rfl
theorem fG (M:Nat→Int):∀(d f t pf pt:Nat),t - f≤d→DR (Fv []) M f t pf pt=⟨0,0,false,false⟩:=by
 intro d;induction d with
 |zero=>intro f t pf pt h1;rw [GX (by simp [Fv]) (by omega)]
 |succ d ih=>
  intro f t pf pt h1;by_cases h:f+1<t
  ·have hm:=DJ h;rw [KJ (by simp [Fv]) h,ih _ _ _ _ (by omega),ih _ _ _ _ (by omega)];rfl
  ·rw [GX (by simp [Fv]) h]
theorem a5f (n:Nat):oN (Fv []) n=List.replicate (2*n - 1) 0:=by
 unfold oN;split
 ·rename_i h;subst h;rfl
 ·unfold oL;have:=VG (0:Int) n 0 n 0 (n+1) 0 (by omega) (by omega);rw [Nat.sub_zero] at this;rw [←this];rfl
theorem a5g (M:List Int) (n:Nat):pN (Fv []) M n=List.replicate (2*n - 1) ⟨0,0,false,false⟩:=by
 unfold pN;split
 ·rename_i h;subst h;rfl
 ·unfold pL;have:=VG (⟨0,0,false,false⟩:Part) n 0 n 0 (n+1) 0 (by omega) (by omega);rw [Nat.sub_zero] at this;rw [←this];exact Pq _ _ n 0 n 0 (n+1) 0 (by omega) (by omega) (fun _=>fG _ n _ _ _ _ (by omega)) (fun f' t' ML MN _ _ _ _ _ _=>fG _ (t' - f') _ _ _ _ (by omega))
def XY (w:World) (M:List Int) (e:Ending) (w':World):Prop:=
 ∃b F,e=.returned (.tuple #[.pointer (some ⟨b,0,none⟩),.int .i64 0])∧Ej w' b F M [] 0∧Bf [] w w'∧∀y∈F,w.heap.size≤y
theorem newEnd {w w1 w2 w3 W0 W':World} {M:List Int} {n N:Nat} {mv nv:Value} {R:Int} {fb g1 g2:Nat} (hn:n=M.length - 1) (hR:I4 n=R) (hN:(BP n).length=N)
 (h1:w.heap.size≤fb) (h2:fb<w1.heap.size) (h3:w1.heap.size≤w2.heap.size) (hmr:KL.row w2 w1.heap.size mv M) (hu2:Bf [] w w2) (hnr:KD.row w3 w2.heap.size nv (BP n)) (hu3:Bf [fb] w2 w3)
 (hW:Bf [] w3 W0) (hq:Ei W0 w3.heap.size 0 (fun _=>0)) (hs:W0.heap.size=w3.heap.size+2) (hf:a1z W0 W' (w3.heap.size+1) N mv nv R w3.heap.size g1 g2) :
 XY w M (.returned (.tuple #[.pointer (some ⟨w3.heap.size+1,0,none⟩),.int .i64 0])) W':=by
 have hz3:=hu3.size;have hU3:Bf [] w w3:=hu2.trans' hu3 (fun x hx=>by simp at hx;subst hx;exact .inr h1);have hU:Bf [] w W':=(hU3.trans hW).trans' hf.upd (fun x hx=>by simp at hx;subst hx;exact .inr (by have:=hU3.size;omega));have m3:KL.row w3 w1.heap.size mv M:=Bg hmr hu3 (fun k hk=>by have:=BD hmr k hk;simp;omega);have m0:=Bg m3 hW (by simp);have ml:=BK hmr;have mg:=BD hmr;have nl:=BK hnr;have ng:=BD hnr;have m':KL.row W' w1.heap.size mv M:=Bg m0 hf.upd (fun k hk=>by have:=ml k hk;simp;omega);have n0:=Bg hnr hW (by simp);have n':KD.row W' w2.heap.size nv (BP n):=Bg n0 hf.upd (fun k hk=>by have:=nl k hk;simp;omega);have gg1:W0.heap.size≤g1:=BD hf.ro g1 (by simp [blk]);have gg2:W0.heap.size≤g2:=BD hf.rp g2 (by simp [blk]);have hne:=hf.ne;have hNn:N=2*n - 1:=by rw [←hN];exact Dw n
 have eo:oN (Fv []) n=List.replicate N 0:=by rw [a5f,hNn]
 have ep:pN (Fv []) M n=List.replicate N ⟨0,0,false,false⟩:=by rw [a5g,hNn]
 have b1:blk (.slice (some ⟨g1,0,none⟩) N N) = [g1]:=by simp [blk]
 have b2:blk (.slice (some ⟨g2,0,none⟩) N N) = [g2]:=by simp [blk]
 refine ⟨w3.heap.size+1,_,rfl,⟨mv,nv,.slice (some ⟨g1,0,none⟩) N N,.slice (some ⟨g2,0,none⟩) N N,w3.heap.size,0,rfl,⟨?_,?_,?_,?_,?_,?_,?_,?_,?_,?_,?_,?_,?_,?_,?_,?_,?_,?_,?_⟩,?_⟩,hU,?_⟩
 ·rw [←hn,hR];exact hf.head
 ·exact own_base m' (Nat.zero_le _)
 ·rw [←hn];exact own_base n' (Nat.zero_le _)
 ·rw [←hn,eo];exact own_base hf.ro (Nat.zero_le _)
 ·rw [←hn,ep];exact own_base hf.rp (Nat.zero_le _)
 ·intro h;have:=ml _ h;omega
 ·intro h;have:=nl _ h;omega
 ·rw [b1];simp;omega
 ·rw [b2];simp;omega
 ·omega
 ·rw [b1];intro y hy h;simp at hy;have:=ml _ h;omega
 ·rw [b1];intro y hy h;simp at hy;have:=nl _ h;omega
 ·rw [b1,b2];intro y hy h;simp at hy h;omega
 ·rw [b2];intro y hy h;simp at hy;have:=ml _ h;omega
 ·rw [b2];intro y hy h;simp at hy;have:=nl _ h;omega
 ·intro h;have:=ml _ h;omega
 ·intro h;have:=nl _ h;omega
 ·rw [b1];simp;omega
 ·rw [b2];simp;omega
 ·have hq':=hq.upd hf.upd (by simp);simpa using hq'
 ·intro y hy;have hz:=hU3.size;rw [b1,b2] at hy;simp only [List.mem_cons,List.mem_append,List.not_mem_nil,or_false] at hy;rcases hy with rfl | rfl | hy | hy | rfl | rfl
  ·omega
  ·omega
  ·have:=mg y hy;omega
  ·have:=ng y hy;omega
  ·omega
  ·omega
attribute [local go_sem ↓] Go.wp_at_zero Go.wp_at_succ
theorem a1A {M:List Int} (h:∀i,i+1<M.length→mf M i<mf M (i+1)):M.Pairwise (· < ·):=by
 have h2:∀d i,i+d+1<M.length→mf M i<mf M (i+d+1):=by
  intro d;induction d with
  |zero=>intro i hi;exact h i hi
  |succ d ih=>intro i hi;exact Int.lt_trans (ih i (by omega)) (h (i+d+1) hi)
 rw [List.pairwise_iff_getElem];intro i j hi hj hij;have h3:=h2 (j - i - 1) i (by omega);rw [show i+(j - i - 1)+1=j by omega] at h3;have e1:=G7 hi;have e2:=G7 hj;rw [AX hi] at e1;rw [AX hj] at e2;rw [Option.some.inj e1,Option.some.inj e2];exact h3
theorem sD {M:List Int} (h:M.Pairwise (· < ·)) {i:Nat} (hi:i+1<M.length):mf M i<mf M (i+1):=by
 have:=List.pairwise_iff_getElem.1 h i (i+1) (by omega) hi (by omega);have e1:=G7 (M:=M) (i:=i) (by omega);have e2:=G7 hi;rw [AX (by omega)] at e1;rw [AX hi] at e2;rw [Option.some.inj e1,Option.some.inj e2] at this;exact this
theorem b1N (v:Value) (M:List Int) (w:World) (hs:See KL w v M) (hl:M.length<400000) (hno:¬M.Pairwise (· < ·)) :
 Calls Tryz.prog 93 #[v] w fun e w'=>e=.returned (.tuple #[.pointer none,.int .i64 2])∧Bf [] w w':=by
 obtain ⟨Av,Cv,rfl⟩:=hs.form;have HS:=AQ hs;have tV:=AQ hno;have hl':(M.length:Int)<400000:=by omega
 clear hs hno hl;go_enter Tryz.func93,Tryz.ntmps93
 go_wp2_with fail
 go_loopg [10] M.length (fun m s10 wr=>∃k,m+k=M.length∧s10=.int .i64 (k:Int)∧Bf [] w wr∧∀i,i+1<k→mf M i<mf M (i+1))
 case atStart=>exact ⟨0,rfl,rfl,Bf.refl _ _,by intro i hi;omega⟩
 case round=>
  obtain ⟨k,hk,rfl,hu,hr⟩:=hrel;have hkn:k≤M.length:=by omega
  have HK:=AQ hk;have HU:=AQ hu;have HR:=AQ hr;clear hk hu hr;by_cases hlt:k<M.length
  ·have hy:=G7 hlt;obtain ⟨b1,o1,hA,hq1,hq2,hq3⟩:=KL.at (HS.out.Bh HU.out) hy;subst hA;have b0:(0:Int)≤(k:Int):=AU _;have b1':(k:Int)<(M.length:Int):=by omega
   have HY:=AQ hy;clear hy hq1 hq2;rcases Nat.eq_zero_or_pos k with rfl | hk0
   ·have hd:decide ((0:Int)<((0:Nat):Int))=false:=by simp
    go_wp2_with fail
    go_quiet (fail)
    go_wp2_with fail
    go_roundg (M.length - 1)
    case measure=>have:=HK.out;omega
    case rel=>exact ⟨1,by omega,by go_num,HU.out.drewN _,fun i hi=>by omega⟩
   ·obtain ⟨j,hj⟩:∃j,k=j+1:=⟨k - 1,by omega⟩;have hy2:=G7 (M:=M) (i:=j) (by omega);obtain ⟨b2,o2,hA2,hq1,hq2,hq4⟩:=KL.at (HS.out.Bh HU.out) hy2
    cases hA2
    have hd:decide (0<k)=true:=decide_eq_true hk0;have hsub:IntKind.i64.wrap ((k:Int) - 1)=(j:Int):=by rw [IntWalk.i64_in _ ⟨by omega,by omega⟩];omega
    have hsub2:(k:Int) - 1=(j:Int):=by omega
    have bj0:(0:Int)≤(j:Int):=AU _;have bj1:(j:Int)<(M.length:Int):=by omega
    have HJ:=AQ hj;clear hy2 hq1 hq2 hj hkn hk0;obtain ⟨x,hx⟩:=AO (mf M k);obtain ⟨y,hyy⟩:=AO (mf M j);rw [hx] at hq3;rw [hyy] at hq4;have HX:=AQ hx;have HYY:=AQ hyy;clear hx hyy;by_cases hyx:x≤y
    ·have hd3:decide (x≤y)=true:=decide_eq_true hyx;clear hyx;go_wp2_with fail
     go_quiet (fail)
     go_wp2_with fail
     go_ret2
     exact ⟨rfl,HU.out.drewN _⟩
    ·have hd3:decide (x≤y)=false:=decide_eq_false hyx;have HYX:=AQ hyx;clear hyx;go_wp2_with fail
     go_quiet (fail)
     go_wp2_with fail
     go_roundg (M.length - (k+1))
     case measure=>have:=HK.out;omega
     case rel=>
      refine ⟨k+1,Ac HK,by go_num,HU.out.drewN _,fun i hi=>?_⟩
      by_cases hij:i=j
      ·rw [hij,←HJ.out,HX.out,HYY.out];have:=HYX.out;omega
      ·exact HR.out i (Ac HJ)
  ·exact (tV.out (a1A fun i hi=>HR.out i (by omega))).elim
theorem sF:(Tryz.prog.info? 3).map (fun i=>(i.zero,i.size,i.bytes))=some (some (.int .i64 0),1,8):=by kernel_rfl
theorem kJ:(Tryz.prog.info? 236).map (fun i=>(i.zero,i.size,i.bytes))=some (some (.agg #[.int .u64 0,.int .i64 0,.bool false,.bool false]),4,24):=by kernel_rfl
theorem Zd (W:World) (N:Nat) (hN:N<1000000):(Instr.makeSlice 163 (.int .i64 (N:Int)) (.int .i64 (N:Int))).run Tryz.prog W=.ok (.slice (some ⟨W.heap.size,0,none⟩) N N) (W.alloc (.cells (madeCells #[.int .i64 0] (N*1)) 3)):=by
 obtain ⟨i0,hi,hy0,hy1,hy2⟩:=info_parts sF;have:=run_make (P:=Tryz.prog) W 163 3 i0 (.int .i64 0) Tryz.underlying163 hi hy0 .i64 .i64 N N (by omega) (by omega) (by rw [hy2];omega) (by omega);rw [hy1] at this;exact this
theorem XZ (W:World) (N:Nat) (hN:N<1000000):(Instr.makeSlice 227 (.int .i64 (N:Int)) (.int .i64 (N:Int))).run Tryz.prog W=.ok (.slice (some ⟨W.heap.size,0,none⟩) N N) (W.alloc (.cells (madeCells #[.int .u64 0,.int .i64 0,.bool false,.bool false] (N*4)) 236)):=by
 obtain ⟨i0,hi,hy0,hy1,hy2⟩:=info_parts kJ;have:=run_make (P:=Tryz.prog) W 227 236 i0 (.agg #[.int .u64 0,.int .i64 0,.bool false,.bool false]) Tryz.underlying227 hi hy0 .i64 .i64 N N (by omega) (by omega) (by rw [hy2];omega) (by omega);rw [hy1] at this;exact this
theorem newC (v:Value) (M:List Int) (w:World) (hs:See KL w v M) (hM:Dp M) :
 Calls Tryz.prog 93 #[v] w (XY w M):=by
 have hl:=hM.len;have hmm:=@run_makeMap Tryz.prog;obtain ⟨n,hn⟩:∃n,n=M.length - 1:=⟨_,rfl⟩;have HN:=AQ hn;clear hn;obtain ⟨Av,Cv,rfl⟩:=hs.form;have HS:=AQ hs;have HM:=AQ hM;have hl':(M.length:Int)<400000:=by omega
 have HL:=AQ hl;clear hs hM hl;go_enter Tryz.func93,Tryz.ntmps93
 go_wp2_with fail
 go_loopg [10] M.length (fun m s10 wr=>∃k,m+k=M.length∧s10=.int .i64 (k:Int)∧Bf [] w wr∧∀i,i+1<k→mf M i<mf M (i+1))
 case atStart=>exact ⟨0,rfl,rfl,Bf.refl _ _,by intro i hi;omega⟩
 case round=>
  obtain ⟨k,hk,rfl,hu,hr⟩:=hrel;have hkn:k≤M.length:=by omega
  have HK:=AQ hk;have HU:=AQ hu;have HR:=AQ hr;clear hk hu hr;by_cases hlt:k<M.length
  ·have hy:=G7 hlt;obtain ⟨b1,o1,hA,hq1,hq2,hq3⟩:=KL.at (HS.out.Bh HU.out) hy;subst hA;have b0:(0:Int)≤(k:Int):=AU _;have b1':(k:Int)<(M.length:Int):=by omega
   have HY:=AQ hy;clear hy hq1 hq2;rcases Nat.eq_zero_or_pos k with rfl | hk0
   ·have hd:decide ((0:Int)<((0:Nat):Int))=false:=by simp
    go_wp2_with fail
    go_quiet (fail)
    go_wp2_with fail
    go_roundg (M.length - 1)
    case measure=>have:=HK.out;omega
    case rel=>exact ⟨1,by omega,by go_num,HU.out.drewN _,fun i hi=>by omega⟩
   ·obtain ⟨j,hj⟩:∃j,k=j+1:=⟨k - 1,by omega⟩;have hy2:=G7 (M:=M) (i:=j) (by omega);obtain ⟨b2,o2,hA2,hq1,hq2,hq4⟩:=KL.at (HS.out.Bh HU.out) hy2
    cases hA2
    have hd:decide (0<k)=true:=decide_eq_true hk0;have hsub:IntKind.i64.wrap ((k:Int) - 1)=(j:Int):=by rw [IntWalk.i64_in _ ⟨by omega,by omega⟩];omega
    have hsub2:(k:Int) - 1=(j:Int):=by omega
    have bj0:(0:Int)≤(j:Int):=AU _;have bj1:(j:Int)<(M.length:Int):=by omega
    have HJ:=AQ hj;clear hy2 hq1 hq2 hj hkn hk0;obtain ⟨x,hx⟩:=AO (mf M k);obtain ⟨y,hyy⟩:=AO (mf M j);rw [hx] at hq3;rw [hyy] at hq4;have HX:=AQ hx;have HYY:=AQ hyy;clear hx hyy;have hyx:¬x≤y:=by have:=sD HM.out.rise (i:=j) (Ac HJ);rw [←HJ.out,HX.out,HYY.out] at this;omega
    have hd3:decide (x≤y)=false:=decide_eq_false hyx;have HYX:=AQ hyx;clear hyx;go_wp2_with fail
    go_quiet (fail)
    go_wp2_with fail
    go_roundg (M.length - (k+1))
    case measure=>have:=HK.out;omega
    case rel=>
     refine ⟨k+1,Ac HK,by go_num,HU.out.drewN _,fun i hi=>?_⟩
     by_cases hij:i=j
     ·rw [hij,←HJ.out,HX.out,HYY.out];have:=HYX.out;omega
     ·exact HR.out i (Ac HJ)
  ·have hnn:n=M.length - 1:=HN.out;have HHH:=Aj HU.out HK.out hlt;have hf0:=Za n (Ac HL) wr;have hf:Calls Tryz.prog 151 #[.int .i64 (n:Int)] wr fun e w'=>e=.returned (.tuple #[.pointer (some ⟨wr.heap.size,0,none⟩),.int .i64 0])∧Ef w' wr.heap.size n∧Bf [] wr w'∧wr.heap.size<w'.heap.size:=hf0.mono fun e w' he=>⟨he.1,by rw [he.2];exact heap_alloc_new wr _,by rw [he.2];exact (Bf.refl _ _).alloc _,by rw [he.2];simp⟩
   clear hlt hkn hl' hf0;rcases Nat.eq_zero_or_pos M.length with h0 | h0
   ·have hn0:n=0:=by omega
    have hw64:wrap64 ((M.length:Int) - 1) = -1:=by rw [h0];exact IntWalk.wrap64_in _ ⟨by omega,by omega⟩
    rw [hn0] at hf;have hf2:Calls Tryz.prog 151 #[.int .i64 0] wr fun e w'=>e=.returned (.tuple #[.pointer (some ⟨wr.heap.size,0,none⟩),.int .i64 0])∧Ef w' wr.heap.size n∧Bf [] wr w'∧wr.heap.size<w'.heap.size:=by rw [hn0];exact hf
    have HF:=AQ hf2;clear hf2;have hll:¬k<M.length:=HHH.2.2;clear hnn h0 hf hn0;go_upto_region 7 with fail
    clear hll;go_wp2_with fail
    (with_reducible refine HF.out.mono ?_);rintro e w1 ⟨rfl,hfr,hu1,hz1⟩;have hcl:=Eh _ M.length (KL.all M) w1 ((HS.out.Bh HU.out).Bh hu1) (KL.DZ M) (Ac HL);have uY:=AQ hcl;have HFR:=AQ hfr;have FY:=AQ (HU.out.trans hu1);clear hcl hfr hu1 hw64;go_wp2_with fail
    (with_reducible refine uY.out.mono ?_);rintro e w2 ⟨Am,Cm,rfl,hmr,hb2⟩;have hu2:=Bf.of_below hb2;have hfr2:Ef w2 wr.heap.size n:=(hu2.block wr.heap.size (lt_of_block HFR.out) (by simp)).trans HFR.out;have HRT:=AQ (U9 wr.heap.size n w2 (Ad HL HN) hfr2);have HND:=AQ (SA wr.heap.size n w2 (Ad HL HN) hfr2);have HMR:=AQ hmr;have Fq:=AQ (FY.out.trans hu2);have hz2:wr.heap.size<w2.heap.size:=lt_of_block hfr2;have kK:w1.heap.size≤w2.heap.size:=hu2.size;clear hmr hb2 hu2 hfr2;go_wp2_with fail
    (with_reducible refine HRT.out.mono ?_);rintro e w' ⟨rfl,rfl⟩;go_wp2_with fail
    (with_reducible refine HND.out.mono ?_);rintro e w3 ⟨An,Cn,rfl,hnr,hu3⟩;obtain ⟨R,hR⟩:=AO (I4 n);obtain ⟨N,hN⟩:=AO ((BP n).length);rw [hR,hN];have HNR:=AQ hnr;have Gj:=AQ hu3;have HR:=AQ hR;have O6:=AQ hN;clear hnr hu3 hR hN;go_upto_region 11 with fail
    have hW:Bf [] w3 ((w3.alloc (.map #[] 0)).alloc (.cells #[.slice Am M.length Cm,.int .i64 R,.slice An N Cn,.slice none 0 0,.slice none 0 0,.map (some w3.heap.size),.int .i64 0] 229)):=((Bf.refl _ _).alloc _).alloc _
    have fH:((w3.alloc (.map #[] 0)).alloc (.cells #[.slice Am M.length Cm,.int .i64 R,.slice An N Cn,.slice none 0 0,.slice none 0 0,.map (some w3.heap.size),.int .i64 0] 229)).heap[w3.heap.size+1]? = some (.cells #[.slice Am M.length Cm,.int .i64 R,.slice An N Cn,.slice none 0 0,.slice none 0 0,.map (some w3.heap.size),.int .i64 0] 229 (0,0)):=by
     have:=heap_alloc_new (w3.alloc (.map #[] 0)) (.cells #[.slice Am M.length Cm,.int .i64 R,.slice An N Cn,.slice none 0 0,.slice none 0 0,.map (some w3.heap.size),.int .i64 0] 229);simpa using this
    have hWq:Ei ((w3.alloc (.map #[] 0)).alloc (.cells #[.slice Am M.length Cm,.int .i64 R,.slice An N Cn,.slice none 0 0,.slice none 0 0,.map (some w3.heap.size),.int .i64 0] 229)) w3.heap.size 0 (fun _=>0):=(Ei.made w3).upd ((Bf.refl [] _).alloc _) (by simp);have hWs:((w3.alloc (.map #[] 0)).alloc (.cells #[.slice Am M.length Cm,.int .i64 R,.slice An N Cn,.slice none 0 0,.slice none 0 0,.map (some w3.heap.size),.int .i64 0] 229)).heap.size=w3.heap.size+2:=by simp
    generalize (w3.alloc (.map #[] 0)).alloc (.cells #[.slice Am M.length Cm,.int .i64 R,.slice An N Cn,.slice none 0 0,.slice none 0 0,.map (some w3.heap.size),.int .i64 0] 229)=W0 at hW fH hWq hWs ⊢;obtain ⟨CO,hCO⟩:=AO (madeCells #[.int .i64 0] (N*1));obtain ⟨CP,hCP⟩:=AO (madeCells #[.int .u64 0,.int .i64 0,.bool false,.bool false] (N*4));have hNb:N<1000000:=by have h1:=O6.out;have h2:=Dw n;have h3:=HL.out;have h4:=HN.out;omega
    have mk1:∀W:World,(Instr.makeSlice 163 (.int .i64 (N:Int)) (.int .i64 (N:Int))).run Tryz.prog W=.ok (.slice (some ⟨W.heap.size,0,none⟩) N N) (W.alloc (.cells CO 3)):=fun W=>by rw [←hCO];exact Zd W N hNb
    have mk2:∀W:World,(Instr.makeSlice 227 (.int .i64 (N:Int)) (.int .i64 (N:Int))).run Tryz.prog W=.ok (.slice (some ⟨W.heap.size,0,none⟩) N N) (W.alloc (.cells CP 236)):=fun W=>by rw [←hCP];exact XZ W N hNb
    have b2:W0.cell? ⟨w3.heap.size+1,2,none⟩=some (.slice An N Cn):=by simp [World.cell?,fH]
    have s2:W0.drew.cell? ⟨w3.heap.size+1,2,none⟩=some (.slice An N Cn):=b2;have b3:W0.cell? ⟨w3.heap.size+1,3,none⟩=some (.slice none 0 0):=by simp [World.cell?,fH]
    have b4:W0.cell? ⟨w3.heap.size+1,4,none⟩=some (.slice none 0 0):=by simp [World.cell?,fH]
    have f3:W0.frozen? ⟨w3.heap.size+1,3,none⟩=false:=by simp [World.frozen?,fH]
    have f4:W0.frozen? ⟨w3.heap.size+1,4,none⟩=false:=by simp [World.frozen?,fH]
    have hbW:w3.heap.size+1<W0.heap.size:=by omega
    have NN0:(0:Int)≤(N:Int):=AU _;have qa3:((W0.alloc (.cells CO 3)).alloc (.cells CP 236)).cell? ⟨w3.heap.size+1,3,none⟩=some (.slice none 0 0):=(Bf.cell (F:=[]) (((Bf.refl [] _).alloc _).alloc _) (p:=⟨w3.heap.size+1,3,none⟩) hbW (by simp)).trans b3;have ga3:((W0.alloc (.cells CO 3)).alloc (.cells CP 236)).frozen? ⟨w3.heap.size+1,3,none⟩=false:=(Bf.frozen (F:=[]) (((Bf.refl [] _).alloc _).alloc _) (p:=⟨w3.heap.size+1,3,none⟩) hbW (by simp)).trans f3;have qa4:((W0.alloc (.cells CO 3)).alloc (.cells CP 236)).cell? ⟨w3.heap.size+1,4,none⟩=some (.slice none 0 0):=(Bf.cell (F:=[]) (((Bf.refl [] _).alloc _).alloc _) (p:=⟨w3.heap.size+1,4,none⟩) hbW (by simp)).trans b4;have ga4:((W0.alloc (.cells CO 3)).alloc (.cells CP 236)).frozen? ⟨w3.heap.size+1,4,none⟩=false:=(Bf.frozen (F:=[]) (((Bf.refl [] _).alloc _).alloc _) (p:=⟨w3.heap.size+1,4,none⟩) hbW (by simp)).trans f4;have qb3:((W0.alloc (.cells CP 236)).alloc (.cells CO 3)).cell? ⟨w3.heap.size+1,3,none⟩=some (.slice none 0 0):=(Bf.cell (F:=[]) (((Bf.refl [] _).alloc _).alloc _) (p:=⟨w3.heap.size+1,3,none⟩) hbW (by simp)).trans b3;have gb3:((W0.alloc (.cells CP 236)).alloc (.cells CO 3)).frozen? ⟨w3.heap.size+1,3,none⟩=false:=(Bf.frozen (F:=[]) (((Bf.refl [] _).alloc _).alloc _) (p:=⟨w3.heap.size+1,3,none⟩) hbW (by simp)).trans f3;have qb4:((W0.alloc (.cells CP 236)).alloc (.cells CO 3)).cell? ⟨w3.heap.size+1,4,none⟩=some (.slice none 0 0):=(Bf.cell (F:=[]) (((Bf.refl [] _).alloc _).alloc _) (p:=⟨w3.heap.size+1,4,none⟩) hbW (by simp)).trans b4;have gb4:((W0.alloc (.cells CP 236)).alloc (.cells CO 3)).frozen? ⟨w3.heap.size+1,4,none⟩=false:=(Bf.frozen (F:=[]) (((Bf.refl [] _).alloc _).alloc _) (p:=⟨w3.heap.size+1,4,none⟩) hbW (by simp)).trans f4;have qc3:(W0.alloc (.cells CO 3)).cell? ⟨w3.heap.size+1,3,none⟩=some (.slice none 0 0):=(Bf.cell (F:=[]) ((Bf.refl [] _).alloc _) (p:=⟨w3.heap.size+1,3,none⟩) hbW (by simp)).trans b3;have gc3:(W0.alloc (.cells CO 3)).frozen? ⟨w3.heap.size+1,3,none⟩=false:=(Bf.frozen (F:=[]) ((Bf.refl [] _).alloc _) (p:=⟨w3.heap.size+1,3,none⟩) hbW (by simp)).trans f3;have qc4:(W0.alloc (.cells CO 3)).cell? ⟨w3.heap.size+1,4,none⟩=some (.slice none 0 0):=(Bf.cell (F:=[]) ((Bf.refl [] _).alloc _) (p:=⟨w3.heap.size+1,4,none⟩) hbW (by simp)).trans b4;have gc4:(W0.alloc (.cells CO 3)).frozen? ⟨w3.heap.size+1,4,none⟩=false:=(Bf.frozen (F:=[]) ((Bf.refl [] _).alloc _) (p:=⟨w3.heap.size+1,4,none⟩) hbW (by simp)).trans f4;have hsz3:(W0.setCell ⟨w3.heap.size+1,3,none⟩ (.slice (some ⟨W0.heap.size,0,none⟩) N N)).heap.size=W0.heap.size:=by simp [World.setCell]
    have qd4:(((W0.setCell ⟨w3.heap.size+1,3,none⟩ (.slice (some ⟨W0.heap.size,0,none⟩) N N)).alloc (.cells CO 3)).alloc (.cells CP 236)).cell? ⟨w3.heap.size+1,4,none⟩=some (.slice none 0 0):=by
     rw [World.cell?_alloc_past _ _ _ (by rw [World.size_alloc,hsz3];show w3.heap.size+1<_;omega),World.cell?_alloc_past _ _ _ (by rw [hsz3];exact hbW),World.cell?_setCell_other _ _ _ _ (by simp)];exact b4
    have gd4:(((W0.setCell ⟨w3.heap.size+1,3,none⟩ (.slice (some ⟨W0.heap.size,0,none⟩) N N)).alloc (.cells CO 3)).alloc (.cells CP 236)).frozen? ⟨w3.heap.size+1,4,none⟩=false:=by
     rw [World.frozen?_alloc_past _ _ _ (by rw [World.size_alloc,hsz3];show w3.heap.size+1<_;omega),World.frozen?_alloc_past _ _ _ (by rw [hsz3];exact hbW),World.frozen?_setCell];exact f4
    clear hsz3;have HW:=Ap hW fH hWq hWs;have aU:=Ai hCO hCP;clear hW fH hWq hWs hCO hCP hNb;refine Bj.start [14,15,16,17,18,19] (fun w'=>w'.cell? ⟨w3.heap.size+1,2,none⟩=some (.slice An N Cn)) (by kernel_rfl) ?_ fun hS=>?_
    ·exact s2
    refine' Bj.mw 0 (oi:=⟨some 47,_,_,_,_,_⟩) ?_
    simp only [Act.put,sA,sZ,sS];refine' Bj.mw 1 (oi:=⟨some 48,_,_,_,_,_⟩) ?_
    simp only [Act.put,sA,sZ,sS];refine' Bj.mw 2 (oi:=⟨some 49,_,_,_,_,_⟩) ?_
    simp only [Act.put,sA,sZ,sS];refine' Bj.mw 3 (oi:=⟨some 50,_,_,_,_,_⟩) ?_
    simp only [Act.put,sA,sZ,sS];refine' Bj.mw 4 (oi:=⟨some 51,_,_,_,_,_⟩) ?_
    simp only [Act.put,sA,sZ,sS];refine' Bj.tl 1 5 (oi:=⟨some 52,_,_,_,_,_⟩) ?_
    simp only [Act.put,sA,sZ,sS];refine' Bj.mw 6 (oi:=⟨some 53,_,_,_,_,_⟩) ?_
    simp only [Act.put,sA,sZ,sS];refine' Bj.mw 8 (oi:=⟨some 55,_,_,_,_,_⟩) ?_
    simp only [Act.put,sA,sZ,sS];refine' Bj.mw 9 (oi:=⟨some 56,_,_,_,_,_⟩) ?_
    simp only [Act.put,sA,sZ,sS];refine' Bj.mw 10 (oi:=⟨some 57,_,_,_,_,_⟩) ?_
    simp only [Act.put,sA,sZ,sS];refine' Bj.tl 1 11 (oi:=⟨some 58,_,_,_,_,_⟩) ?_
    simp only [Act.put,sA,sZ,sS];refine' Bj.mw 12 (oi:=⟨some 59,_,_,_,_,_⟩) ?_
    simp only [Act.put,sA,sZ,sS];refine Bj.pair (i:=7) (o:=⟨some 54,_,_,_,_,_⟩) (k:=13) (o':=⟨some 60,_,_,_,_,_⟩) rfl rfl (by kernel_rfl) (fun K hK=>?_) (fun K hK=>?_)
    ·skip
     go_simp
     refine hK.out _ _ (fun _ h=>?_) ?_
     ·exact ((Bf.refl [] _).alloc _).cell (p:=⟨w3.heap.size+1,2,none⟩) (World.block_lt_of_cell? _ _ h) (by simp) |>.trans h
     clear hK K;try simp only [Act.put,sA,sZ,sS]
     refine' Bj.mw 14 (oi:=⟨some 61,_,_,_,_,_⟩) ?_
     simp only [Act.put,sA,sZ,sS];refine' Bj.mw 15 (oi:=⟨some 62,_,_,_,_,_⟩) ?_
     simp only [Act.put,sA,sZ,sS];refine Bj.pair (i:=13) (o:=⟨some 60,_,_,_,_,_⟩) (k:=16) (o':=⟨none,_,_,_,_,_⟩) rfl rfl (by kernel_rfl) (fun K hK=>?_) (fun K hK=>?_)
     ·skip
      go_simp
      refine hK.out _ _ (fun _ h=>?_) ?_
      ·exact ((Bf.refl [] _).alloc _).cell (p:=⟨w3.heap.size+1,2,none⟩) (World.block_lt_of_cell? _ _ h) (by simp) |>.trans h
      clear hK K;try simp only [Act.put,sA,sZ,sS]
      refine Bj.one (i:=16) (o:=⟨none,_,_,_,_,_⟩) rfl (by kernel_rfl) fun K hK=>?_
      go_simp
      refine hK.out _ _ (fun h=>(by cases h)) ?_
      clear hK K;try simp only [Act.put,sA,sZ,sS]
      refine' Bj.mw 17 (oi:=⟨some 63,_,_,_,_,_⟩) ?_
      simp only [Act.put,sA,sZ,sS];refine' Bj.mw 18 (oi:=⟨some 64,_,_,_,_,_⟩) ?_
      simp only [Act.put,sA,sZ,sS];refine Bj.one (i:=19) (o:=⟨none,_,_,_,_,_⟩) rfl (by kernel_rfl) fun K hK=>?_
      go_simp
      refine hK.out _ _ (fun h=>(by cases h)) ?_
      clear hK K;try simp only [Act.put,sA,sZ,sS]
      refine Bj.done (by kernel_rfl) ?_
      go_wp2_with fail
      go_ret2
      have hNb:N<1000000:=by have h1:=O6.out;have h2:=Dw n;have h3:=HL.out;have h4:=HN.out;omega
      have hE:=a8i hNb HW.2.1;rw [aU.1,aU.2] at hE;have fJ:=HNR.out;rw [O6.out] at fJ;exact newEnd HN.out HR.out O6.out HU.out.size hz1 kK HMR.out Fq.out fJ Gj.out HW.1 HW.2.2.1 HW.2.2.2 hE
     ·skip
      go_simp
      refine hK.out _ _ (fun h=>(by cases h)) ?_
      clear hK K;try simp only [Act.put,sA,sZ,sS]
      refine Bj.one (i:=13) (o:=⟨some 60,_,_,_,_,_⟩) rfl (by kernel_rfl) fun K hK=>?_
      go_simp
      refine hK.out _ _ (fun _ h=>?_) ?_
      ·exact ((Bf.refl [] _).alloc _).cell (p:=⟨w3.heap.size+1,2,none⟩) (World.block_lt_of_cell? _ _ h) (by simp) |>.trans h
      clear hK K;try simp only [Act.put,sA,sZ,sS]
      refine' Bj.mw 17 (oi:=⟨some 63,_,_,_,_,_⟩) ?_
      simp only [Act.put,sA,sZ,sS];refine' Bj.mw 18 (oi:=⟨some 64,_,_,_,_,_⟩) ?_
      simp only [Act.put,sA,sZ,sS];refine Bj.one (i:=19) (o:=⟨none,_,_,_,_,_⟩) rfl (by kernel_rfl) fun K hK=>?_
      go_simp
      refine hK.out _ _ (fun h=>(by cases h)) ?_
      clear hK K;try simp only [Act.put,sA,sZ,sS]
      refine Bj.done (by kernel_rfl) ?_
      go_wp2_with fail
      go_ret2
      have hNb:N<1000000:=by have h1:=O6.out;have h2:=Dw n;have h3:=HL.out;have h4:=HN.out;omega
      have hE:=a8k hNb HW.2.1;rw [aU.1,aU.2] at hE;have fJ:=HNR.out;rw [O6.out] at fJ;exact newEnd HN.out HR.out O6.out HU.out.size hz1 kK HMR.out Fq.out fJ Gj.out HW.1 HW.2.2.1 HW.2.2.2 hE
    ·skip
     go_simp
     refine hK.out _ _ (fun _ h=>?_) ?_
     ·exact ((Bf.refl [] _).alloc _).cell (p:=⟨w3.heap.size+1,2,none⟩) (World.block_lt_of_cell? _ _ h) (by simp) |>.trans h
     clear hK K;try simp only [Act.put,sA,sZ,sS]
     refine Bj.one (i:=7) (o:=⟨some 54,_,_,_,_,_⟩) rfl (by kernel_rfl) fun K hK=>?_
     go_simp
     refine hK.out _ _ (fun _ h=>?_) ?_
     ·exact ((Bf.refl [] _).alloc _).cell (p:=⟨w3.heap.size+1,2,none⟩) (World.block_lt_of_cell? _ _ h) (by simp) |>.trans h
     clear hK K;try simp only [Act.put,sA,sZ,sS]
     refine' Bj.mw 14 (oi:=⟨some 61,_,_,_,_,_⟩) ?_
     simp only [Act.put,sA,sZ,sS];refine' Bj.mw 15 (oi:=⟨some 62,_,_,_,_,_⟩) ?_
     simp only [Act.put,sA,sZ,sS];refine Bj.one (i:=16) (o:=⟨none,_,_,_,_,_⟩) rfl (by kernel_rfl) fun K hK=>?_
     go_simp
     refine hK.out _ _ (fun h=>(by cases h)) ?_
     clear hK K;try simp only [Act.put,sA,sZ,sS]
     refine' Bj.mw 17 (oi:=⟨some 63,_,_,_,_,_⟩) ?_
     simp only [Act.put,sA,sZ,sS];refine' Bj.mw 18 (oi:=⟨some 64,_,_,_,_,_⟩) ?_
     simp only [Act.put,sA,sZ,sS];refine Bj.one (i:=19) (o:=⟨none,_,_,_,_,_⟩) rfl (by kernel_rfl) fun K hK=>?_
     go_simp
     refine hK.out _ _ (fun h=>(by cases h)) ?_
     clear hK K;try simp only [Act.put,sA,sZ,sS]
     refine Bj.done (by kernel_rfl) ?_
     go_wp2_with fail
     go_ret2
     have hNb:N<1000000:=by have h1:=O6.out;have h2:=Dw n;have h3:=HL.out;have h4:=HN.out;omega
     have hE:=a8j hNb HW.2.1;rw [aU.1,aU.2] at hE;have fJ:=HNR.out;rw [O6.out] at fJ;exact newEnd HN.out HR.out O6.out HU.out.size hz1 kK HMR.out Fq.out fJ Gj.out HW.1 HW.2.2.1 HW.2.2.2 hE
   ·have hw64:wrap64 ((M.length:Int) - 1)=(n:Int):=by rw [IntWalk.wrap64_in _ ⟨by omega,Ac HL⟩];omega
    have hdn:decide ((n:Int)<0)=false:=decide_eq_false (by omega);have n0:(0:Int)≤(n:Int):=AU _;have hll:¬k<M.length:=HHH.2.2;have HF:=AQ hf;clear hnn h0 hf;go_upto_region 7 with fail
    clear hll;go_wp2_with fail
    (with_reducible refine HF.out.mono ?_);rintro e w1 ⟨rfl,hfr,hu1,hz1⟩;have hcl:=Eh _ M.length (KL.all M) w1 ((HS.out.Bh HU.out).Bh hu1) (KL.DZ M) (Ac HL);have uY:=AQ hcl;have HFR:=AQ hfr;have FY:=AQ (HU.out.trans hu1);clear hcl hfr hu1 hw64;go_wp2_with fail
    (with_reducible refine uY.out.mono ?_);rintro e w2 ⟨Am,Cm,rfl,hmr,hb2⟩;have hu2:=Bf.of_below hb2;have hfr2:Ef w2 wr.heap.size n:=(hu2.block wr.heap.size (lt_of_block HFR.out) (by simp)).trans HFR.out;have HRT:=AQ (U9 wr.heap.size n w2 (Ad HL HN) hfr2);have HND:=AQ (SA wr.heap.size n w2 (Ad HL HN) hfr2);have HMR:=AQ hmr;have Fq:=AQ (FY.out.trans hu2);have hz2:wr.heap.size<w2.heap.size:=lt_of_block hfr2;have kK:w1.heap.size≤w2.heap.size:=hu2.size;clear hmr hb2 hu2 hfr2;go_wp2_with fail
    (with_reducible refine HRT.out.mono ?_);rintro e w' ⟨rfl,rfl⟩;go_wp2_with fail
    (with_reducible refine HND.out.mono ?_);rintro e w3 ⟨An,Cn,rfl,hnr,hu3⟩;obtain ⟨R,hR⟩:=AO (I4 n);obtain ⟨N,hN⟩:=AO ((BP n).length);rw [hR,hN];have HNR:=AQ hnr;have Gj:=AQ hu3;have HR:=AQ hR;have O6:=AQ hN;clear hnr hu3 hR hN;go_upto_region 11 with fail
    have hW:Bf [] w3 ((w3.alloc (.map #[] 0)).alloc (.cells #[.slice Am M.length Cm,.int .i64 R,.slice An N Cn,.slice none 0 0,.slice none 0 0,.map (some w3.heap.size),.int .i64 0] 229)):=((Bf.refl _ _).alloc _).alloc _
    have fH:((w3.alloc (.map #[] 0)).alloc (.cells #[.slice Am M.length Cm,.int .i64 R,.slice An N Cn,.slice none 0 0,.slice none 0 0,.map (some w3.heap.size),.int .i64 0] 229)).heap[w3.heap.size+1]? = some (.cells #[.slice Am M.length Cm,.int .i64 R,.slice An N Cn,.slice none 0 0,.slice none 0 0,.map (some w3.heap.size),.int .i64 0] 229 (0,0)):=by
     have:=heap_alloc_new (w3.alloc (.map #[] 0)) (.cells #[.slice Am M.length Cm,.int .i64 R,.slice An N Cn,.slice none 0 0,.slice none 0 0,.map (some w3.heap.size),.int .i64 0] 229);simpa using this
    have hWq:Ei ((w3.alloc (.map #[] 0)).alloc (.cells #[.slice Am M.length Cm,.int .i64 R,.slice An N Cn,.slice none 0 0,.slice none 0 0,.map (some w3.heap.size),.int .i64 0] 229)) w3.heap.size 0 (fun _=>0):=(Ei.made w3).upd ((Bf.refl [] _).alloc _) (by simp);have hWs:((w3.alloc (.map #[] 0)).alloc (.cells #[.slice Am M.length Cm,.int .i64 R,.slice An N Cn,.slice none 0 0,.slice none 0 0,.map (some w3.heap.size),.int .i64 0] 229)).heap.size=w3.heap.size+2:=by simp
    generalize (w3.alloc (.map #[] 0)).alloc (.cells #[.slice Am M.length Cm,.int .i64 R,.slice An N Cn,.slice none 0 0,.slice none 0 0,.map (some w3.heap.size),.int .i64 0] 229)=W0 at hW fH hWq hWs ⊢;obtain ⟨CO,hCO⟩:=AO (madeCells #[.int .i64 0] (N*1));obtain ⟨CP,hCP⟩:=AO (madeCells #[.int .u64 0,.int .i64 0,.bool false,.bool false] (N*4));have hNb:N<1000000:=by have h1:=O6.out;have h2:=Dw n;have h3:=HL.out;have h4:=HN.out;omega
    have mk1:∀W:World,(Instr.makeSlice 163 (.int .i64 (N:Int)) (.int .i64 (N:Int))).run Tryz.prog W=.ok (.slice (some ⟨W.heap.size,0,none⟩) N N) (W.alloc (.cells CO 3)):=fun W=>by rw [←hCO];exact Zd W N hNb
    have mk2:∀W:World,(Instr.makeSlice 227 (.int .i64 (N:Int)) (.int .i64 (N:Int))).run Tryz.prog W=.ok (.slice (some ⟨W.heap.size,0,none⟩) N N) (W.alloc (.cells CP 236)):=fun W=>by rw [←hCP];exact XZ W N hNb
    have b2:W0.cell? ⟨w3.heap.size+1,2,none⟩=some (.slice An N Cn):=by simp [World.cell?,fH]
    have s2:W0.drew.cell? ⟨w3.heap.size+1,2,none⟩=some (.slice An N Cn):=b2;have b3:W0.cell? ⟨w3.heap.size+1,3,none⟩=some (.slice none 0 0):=by simp [World.cell?,fH]
    have b4:W0.cell? ⟨w3.heap.size+1,4,none⟩=some (.slice none 0 0):=by simp [World.cell?,fH]
    have f3:W0.frozen? ⟨w3.heap.size+1,3,none⟩=false:=by simp [World.frozen?,fH]
    have f4:W0.frozen? ⟨w3.heap.size+1,4,none⟩=false:=by simp [World.frozen?,fH]
    have hbW:w3.heap.size+1<W0.heap.size:=by omega
    have NN0:(0:Int)≤(N:Int):=AU _;have qa3:((W0.alloc (.cells CO 3)).alloc (.cells CP 236)).cell? ⟨w3.heap.size+1,3,none⟩=some (.slice none 0 0):=(Bf.cell (F:=[]) (((Bf.refl [] _).alloc _).alloc _) (p:=⟨w3.heap.size+1,3,none⟩) hbW (by simp)).trans b3;have ga3:((W0.alloc (.cells CO 3)).alloc (.cells CP 236)).frozen? ⟨w3.heap.size+1,3,none⟩=false:=(Bf.frozen (F:=[]) (((Bf.refl [] _).alloc _).alloc _) (p:=⟨w3.heap.size+1,3,none⟩) hbW (by simp)).trans f3;have qa4:((W0.alloc (.cells CO 3)).alloc (.cells CP 236)).cell? ⟨w3.heap.size+1,4,none⟩=some (.slice none 0 0):=(Bf.cell (F:=[]) (((Bf.refl [] _).alloc _).alloc _) (p:=⟨w3.heap.size+1,4,none⟩) hbW (by simp)).trans b4;have ga4:((W0.alloc (.cells CO 3)).alloc (.cells CP 236)).frozen? ⟨w3.heap.size+1,4,none⟩=false:=(Bf.frozen (F:=[]) (((Bf.refl [] _).alloc _).alloc _) (p:=⟨w3.heap.size+1,4,none⟩) hbW (by simp)).trans f4;have qb3:((W0.alloc (.cells CP 236)).alloc (.cells CO 3)).cell? ⟨w3.heap.size+1,3,none⟩=some (.slice none 0 0):=(Bf.cell (F:=[]) (((Bf.refl [] _).alloc _).alloc _) (p:=⟨w3.heap.size+1,3,none⟩) hbW (by simp)).trans b3;have gb3:((W0.alloc (.cells CP 236)).alloc (.cells CO 3)).frozen? ⟨w3.heap.size+1,3,none⟩=false:=(Bf.frozen (F:=[]) (((Bf.refl [] _).alloc _).alloc _) (p:=⟨w3.heap.size+1,3,none⟩) hbW (by simp)).trans f3;have qb4:((W0.alloc (.cells CP 236)).alloc (.cells CO 3)).cell? ⟨w3.heap.size+1,4,none⟩=some (.slice none 0 0):=(Bf.cell (F:=[]) (((Bf.refl [] _).alloc _).alloc _) (p:=⟨w3.heap.size+1,4,none⟩) hbW (by simp)).trans b4;have gb4:((W0.alloc (.cells CP 236)).alloc (.cells CO 3)).frozen? ⟨w3.heap.size+1,4,none⟩=false:=(Bf.frozen (F:=[]) (((Bf.refl [] _).alloc _).alloc _) (p:=⟨w3.heap.size+1,4,none⟩) hbW (by simp)).trans f4;have qc3:(W0.alloc (.cells CO 3)).cell? ⟨w3.heap.size+1,3,none⟩=some (.slice none 0 0):=(Bf.cell (F:=[]) ((Bf.refl [] _).alloc _) (p:=⟨w3.heap.size+1,3,none⟩) hbW (by simp)).trans b3;have gc3:(W0.alloc (.cells CO 3)).frozen? ⟨w3.heap.size+1,3,none⟩=false:=(Bf.frozen (F:=[]) ((Bf.refl [] _).alloc _) (p:=⟨w3.heap.size+1,3,none⟩) hbW (by simp)).trans f3;have qc4:(W0.alloc (.cells CO 3)).cell? ⟨w3.heap.size+1,4,none⟩=some (.slice none 0 0):=(Bf.cell (F:=[]) ((Bf.refl [] _).alloc _) (p:=⟨w3.heap.size+1,4,none⟩) hbW (by simp)).trans b4;have gc4:(W0.alloc (.cells CO 3)).frozen? ⟨w3.heap.size+1,4,none⟩=false:=(Bf.frozen (F:=[]) ((Bf.refl [] _).alloc _) (p:=⟨w3.heap.size+1,4,none⟩) hbW (by simp)).trans f4;have hsz3:(W0.setCell ⟨w3.heap.size+1,3,none⟩ (.slice (some ⟨W0.heap.size,0,none⟩) N N)).heap.size=W0.heap.size:=by simp [World.setCell]
    have qd4:(((W0.setCell ⟨w3.heap.size+1,3,none⟩ (.slice (some ⟨W0.heap.size,0,none⟩) N N)).alloc (.cells CO 3)).alloc (.cells CP 236)).cell? ⟨w3.heap.size+1,4,none⟩=some (.slice none 0 0):=by
     rw [World.cell?_alloc_past _ _ _ (by rw [World.size_alloc,hsz3];show w3.heap.size+1<_;omega),World.cell?_alloc_past _ _ _ (by rw [hsz3];exact hbW),World.cell?_setCell_other _ _ _ _ (by simp)];exact b4
    have gd4:(((W0.setCell ⟨w3.heap.size+1,3,none⟩ (.slice (some ⟨W0.heap.size,0,none⟩) N N)).alloc (.cells CO 3)).alloc (.cells CP 236)).frozen? ⟨w3.heap.size+1,4,none⟩=false:=by
     rw [World.frozen?_alloc_past _ _ _ (by rw [World.size_alloc,hsz3];show w3.heap.size+1<_;omega),World.frozen?_alloc_past _ _ _ (by rw [hsz3];exact hbW),World.frozen?_setCell];exact f4
    clear hsz3;have HW:=Ap hW fH hWq hWs;have aU:=Ai hCO hCP;clear hW fH hWq hWs hCO hCP hNb;refine Bj.start [14,15,16,17,18,19] (fun w'=>w'.cell? ⟨w3.heap.size+1,2,none⟩=some (.slice An N Cn)) (by kernel_rfl) ?_ fun hS=>?_
    ·exact s2
    refine' Bj.mw 0 (oi:=⟨some 47,_,_,_,_,_⟩) ?_
    simp only [Act.put,sA,sZ,sS];refine' Bj.mw 1 (oi:=⟨some 48,_,_,_,_,_⟩) ?_
    simp only [Act.put,sA,sZ,sS];refine' Bj.mw 2 (oi:=⟨some 49,_,_,_,_,_⟩) ?_
    simp only [Act.put,sA,sZ,sS];refine' Bj.mw 3 (oi:=⟨some 50,_,_,_,_,_⟩) ?_
    simp only [Act.put,sA,sZ,sS];refine' Bj.mw 4 (oi:=⟨some 51,_,_,_,_,_⟩) ?_
    simp only [Act.put,sA,sZ,sS];refine' Bj.tl 1 5 (oi:=⟨some 52,_,_,_,_,_⟩) ?_
    simp only [Act.put,sA,sZ,sS];refine' Bj.mw 6 (oi:=⟨some 53,_,_,_,_,_⟩) ?_
    simp only [Act.put,sA,sZ,sS];refine' Bj.mw 8 (oi:=⟨some 55,_,_,_,_,_⟩) ?_
    simp only [Act.put,sA,sZ,sS];refine' Bj.mw 9 (oi:=⟨some 56,_,_,_,_,_⟩) ?_
    simp only [Act.put,sA,sZ,sS];refine' Bj.mw 10 (oi:=⟨some 57,_,_,_,_,_⟩) ?_
    simp only [Act.put,sA,sZ,sS];refine' Bj.tl 1 11 (oi:=⟨some 58,_,_,_,_,_⟩) ?_
    simp only [Act.put,sA,sZ,sS];refine' Bj.mw 12 (oi:=⟨some 59,_,_,_,_,_⟩) ?_
    simp only [Act.put,sA,sZ,sS];refine Bj.pair (i:=7) (o:=⟨some 54,_,_,_,_,_⟩) (k:=13) (o':=⟨some 60,_,_,_,_,_⟩) rfl rfl (by kernel_rfl) (fun K hK=>?_) (fun K hK=>?_)
    ·skip
     go_simp
     refine hK.out _ _ (fun _ h=>?_) ?_
     ·exact ((Bf.refl [] _).alloc _).cell (p:=⟨w3.heap.size+1,2,none⟩) (World.block_lt_of_cell? _ _ h) (by simp) |>.trans h
     clear hK K;try simp only [Act.put,sA,sZ,sS]
     refine' Bj.mw 14 (oi:=⟨some 61,_,_,_,_,_⟩) ?_
     simp only [Act.put,sA,sZ,sS];refine' Bj.mw 15 (oi:=⟨some 62,_,_,_,_,_⟩) ?_
     simp only [Act.put,sA,sZ,sS];refine Bj.pair (i:=13) (o:=⟨some 60,_,_,_,_,_⟩) (k:=16) (o':=⟨none,_,_,_,_,_⟩) rfl rfl (by kernel_rfl) (fun K hK=>?_) (fun K hK=>?_)
     ·skip
      go_simp
      refine hK.out _ _ (fun _ h=>?_) ?_
      ·exact ((Bf.refl [] _).alloc _).cell (p:=⟨w3.heap.size+1,2,none⟩) (World.block_lt_of_cell? _ _ h) (by simp) |>.trans h
      clear hK K;try simp only [Act.put,sA,sZ,sS]
      refine Bj.one (i:=16) (o:=⟨none,_,_,_,_,_⟩) rfl (by kernel_rfl) fun K hK=>?_
      go_simp
      refine hK.out _ _ (fun h=>(by cases h)) ?_
      clear hK K;try simp only [Act.put,sA,sZ,sS]
      refine' Bj.mw 17 (oi:=⟨some 63,_,_,_,_,_⟩) ?_
      simp only [Act.put,sA,sZ,sS];refine' Bj.mw 18 (oi:=⟨some 64,_,_,_,_,_⟩) ?_
      simp only [Act.put,sA,sZ,sS];refine Bj.one (i:=19) (o:=⟨none,_,_,_,_,_⟩) rfl (by kernel_rfl) fun K hK=>?_
      go_simp
      refine hK.out _ _ (fun h=>(by cases h)) ?_
      clear hK K;try simp only [Act.put,sA,sZ,sS]
      refine Bj.done (by kernel_rfl) ?_
      go_wp2_with fail
      go_ret2
      have hNb:N<1000000:=by have h1:=O6.out;have h2:=Dw n;have h3:=HL.out;have h4:=HN.out;omega
      have hE:=a8i hNb HW.2.1;rw [aU.1,aU.2] at hE;have fJ:=HNR.out;rw [O6.out] at fJ;exact newEnd HN.out HR.out O6.out HU.out.size hz1 kK HMR.out Fq.out fJ Gj.out HW.1 HW.2.2.1 HW.2.2.2 hE
     ·skip
      go_simp
      refine hK.out _ _ (fun h=>(by cases h)) ?_
      clear hK K;try simp only [Act.put,sA,sZ,sS]
      refine Bj.one (i:=13) (o:=⟨some 60,_,_,_,_,_⟩) rfl (by kernel_rfl) fun K hK=>?_
      go_simp
      refine hK.out _ _ (fun _ h=>?_) ?_
      ·exact ((Bf.refl [] _).alloc _).cell (p:=⟨w3.heap.size+1,2,none⟩) (World.block_lt_of_cell? _ _ h) (by simp) |>.trans h
      clear hK K;try simp only [Act.put,sA,sZ,sS]
      refine' Bj.mw 17 (oi:=⟨some 63,_,_,_,_,_⟩) ?_
      simp only [Act.put,sA,sZ,sS];refine' Bj.mw 18 (oi:=⟨some 64,_,_,_,_,_⟩) ?_
      simp only [Act.put,sA,sZ,sS];refine Bj.one (i:=19) (o:=⟨none,_,_,_,_,_⟩) rfl (by kernel_rfl) fun K hK=>?_
      go_simp
      refine hK.out _ _ (fun h=>(by cases h)) ?_
      clear hK K;try simp only [Act.put,sA,sZ,sS]
      refine Bj.done (by kernel_rfl) ?_
      go_wp2_with fail
      go_ret2
      have hNb:N<1000000:=by have h1:=O6.out;have h2:=Dw n;have h3:=HL.out;have h4:=HN.out;omega
      have hE:=a8k hNb HW.2.1;rw [aU.1,aU.2] at hE;have fJ:=HNR.out;rw [O6.out] at fJ;exact newEnd HN.out HR.out O6.out HU.out.size hz1 kK HMR.out Fq.out fJ Gj.out HW.1 HW.2.2.1 HW.2.2.2 hE
    ·skip
     go_simp
     refine hK.out _ _ (fun _ h=>?_) ?_
     ·exact ((Bf.refl [] _).alloc _).cell (p:=⟨w3.heap.size+1,2,none⟩) (World.block_lt_of_cell? _ _ h) (by simp) |>.trans h
     clear hK K;try simp only [Act.put,sA,sZ,sS]
     refine Bj.one (i:=7) (o:=⟨some 54,_,_,_,_,_⟩) rfl (by kernel_rfl) fun K hK=>?_
     go_simp
     refine hK.out _ _ (fun _ h=>?_) ?_
     ·exact ((Bf.refl [] _).alloc _).cell (p:=⟨w3.heap.size+1,2,none⟩) (World.block_lt_of_cell? _ _ h) (by simp) |>.trans h
     clear hK K;try simp only [Act.put,sA,sZ,sS]
     refine' Bj.mw 14 (oi:=⟨some 61,_,_,_,_,_⟩) ?_
     simp only [Act.put,sA,sZ,sS];refine' Bj.mw 15 (oi:=⟨some 62,_,_,_,_,_⟩) ?_
     simp only [Act.put,sA,sZ,sS];refine Bj.one (i:=16) (o:=⟨none,_,_,_,_,_⟩) rfl (by kernel_rfl) fun K hK=>?_
     go_simp
     refine hK.out _ _ (fun h=>(by cases h)) ?_
     clear hK K;try simp only [Act.put,sA,sZ,sS]
     refine' Bj.mw 17 (oi:=⟨some 63,_,_,_,_,_⟩) ?_
     simp only [Act.put,sA,sZ,sS];refine' Bj.mw 18 (oi:=⟨some 64,_,_,_,_,_⟩) ?_
     simp only [Act.put,sA,sZ,sS];refine Bj.one (i:=19) (o:=⟨none,_,_,_,_,_⟩) rfl (by kernel_rfl) fun K hK=>?_
     go_simp
     refine hK.out _ _ (fun h=>(by cases h)) ?_
     clear hK K;try simp only [Act.put,sA,sZ,sS]
     refine Bj.done (by kernel_rfl) ?_
     go_wp2_with fail
     go_ret2
     have hNb:N<1000000:=by have h1:=O6.out;have h2:=Dw n;have h3:=HL.out;have h4:=HN.out;omega
     have hE:=a8j hNb HW.2.1;rw [aU.1,aU.2] at hE;have fJ:=HNR.out;rw [O6.out] at fJ;exact newEnd HN.out HR.out O6.out HU.out.size hz1 kK HMR.out Fq.out fJ Gj.out HW.1 HW.2.2.1 HW.2.2.2 hE
