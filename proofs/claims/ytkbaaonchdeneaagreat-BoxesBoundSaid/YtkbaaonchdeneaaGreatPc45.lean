/- cover.New: what lies in memory behind its last statement. cover.New. -/
import Derived.Test.YtkbaaonchdeneaaGreatPc44
set_option maxHeartbeats 8000000
set_option maxRecDepth 100000
namespace Go.Proofs.YtkbaaonchdeneaaGreat
open Go.RowKit
theorem zeroCells (N:Nat):(madeCells #[.int .u64 0,.int .i64 0,.bool false,.bool false] (N*4)).toList=KP.all (List.replicate N ⟨0,0,false,false⟩):=by
 apply List.ext_getElem?
 intro j;by_cases hj:j<N*4
 ·have h1:(madeCells #[.int .u64 0,.int .i64 0,.bool false,.bool false] (N*4)).toList[j]? = #[Value.int .u64 0,.int .i64 0,.bool false,.bool false][j % 4]?:=by
   have h4:j % 4<4:=Nat.mod_lt _ (by omega);simp [madeCells,hj];rcases (by omega:j % 4=0\/j % 4=1\/j % 4=2\/j % 4=3) with h | h | h | h<;>simp [h]
  have hk:j / 4<(List.replicate N (⟨0,0,false,false⟩:Part)).length:=by rw [List.length_replicate];omega
  have h4:j % 4<4:=Nat.mod_lt _ (by omega)
  obtain ⟨u,hu⟩:∃u,(KP.enc ((List.replicate N (⟨0,0,false,false⟩:Part))[j / 4]'hk))[j % 4]? = some u:=by
   rw [List.getElem_replicate];rcases (by omega:j % 4=0\/j % 4=1\/j % 4=2\/j % 4=3) with h | h | h | h<;>rw [h]<;>exact ⟨_,rfl⟩
  have h2:=KP.MR _ (j / 4) (j % 4) hk u hu;rw [show j / 4*KP.sz+j % 4=j by show j / 4*4+j % 4=j;omega] at h2;rw [h1,h2,<-hu,List.getElem_replicate];rcases (by omega:j % 4=0\/j % 4=1\/j % 4=2\/j % 4=3) with h | h | h | h<;>rw [h]<;>rfl
 ·rw [List.getElem?_eq_none (by simp [madeCells];omega),List.getElem?_eq_none (by rw [KP.Gm,List.length_replicate];show N*4<=j;omega)]
theorem a2S (W:World) (N:Nat) (hN:N<1000000):KC.row (W.alloc (.cells (madeCells #[.int .i64 0] (N*1)) 3)) W.heap.size (.slice (some ⟨W.heap.size,0,none⟩) N N) (List.replicate N 0):=by
 have:=World.ownsRow_lit (e:=3) (size:=1) (base:=W.heap.size) W (madeCells #[.int .i64 0] (N*1)) N (Nat.le_refl _) (by unfold maxLen;omega) (size_madeCells _ _);unfold Kind.row;rw [List.length_replicate,KC.all_eq,List.map_replicate];rw [Nat.mul_one,toList_madeCells_one] at this;rw [Nat.mul_one];exact this
theorem rowP (W:World) (N:Nat) (hN:N<1000000):KP.row (W.alloc (.cells (madeCells #[.int .u64 0,.int .i64 0,.bool false,.bool false] (N*4)) 236)) W.heap.size (.slice (some ⟨W.heap.size,0,none⟩) N N) (List.replicate N ⟨0,0,false,false⟩):=by
 have:=World.ownsRow_lit (e:=236) (size:=4) (base:=W.heap.size) W (madeCells #[.int .u64 0,.int .i64 0,.bool false,.bool false] (N*4)) N (Nat.le_refl _) (by unfold maxLen;omega) (size_madeCells _ _);unfold Kind.row;rw [List.length_replicate,<-zeroCells];exact this
structure a0s (W0 W':World) (b N:Nat) (mv nv:Value) (R:Int) (hb g1 g2:Nat):Prop where
 upd:Bj [b] W0 W'
 head:W'.heap[b]? = some (.cells #[mv,R,nv,.slice (some ⟨g1,0,none⟩) N N,.slice (some ⟨g2,0,none⟩) N N,.map (some hb),.int .i64 0] 229 (0,0))
 ro:KC.row W' W0.heap.size (.slice (some ⟨g1,0,none⟩) N N) (List.replicate N 0)
 rp:KP.row W' W0.heap.size (.slice (some ⟨g2,0,none⟩) N N) (List.replicate N ⟨0,0,false,false⟩)
 ne:g1≠g2
section
variable {W0:World} {b N:Nat} {mv nv:Value} {R:Int} {hb:Nat} (hN:N<1000000) (h:W0.heap[b]? = some (.cells #[mv,R,nv,.slice none 0 0,.slice none 0 0,.map (some hb),.int .i64 0] 229 (0,0)))
include hN h
theorem a5T:a0s W0 ((((W0.alloc (.cells (madeCells #[.int .i64 0] (N*1)) 3)).alloc (.cells (madeCells #[.int .u64 0,.int .i64 0,.bool false,.bool false] (N*4)) 236)).setCell ⟨b,3,none⟩ (.slice (some ⟨W0.heap.size,0,none⟩) N N)).setCell ⟨b,4,none⟩ (.slice (some ⟨W0.heap.size+1,0,none⟩) N N)).drew b N mv nv R hb W0.heap.size (W0.heap.size+1):=by
 have hbw:=lt_of_block h;have e1:(W0.alloc (.cells (madeCells #[.int .i64 0] (N*1)) 3)).heap.size=W0.heap.size+1:=by simp
 have r1:=a2S W0 N hN;have r2:=rowP (W0.alloc (.cells (madeCells #[.int .i64 0] (N*1)) 3)) N hN;rw [e1] at r2;have r1':=Bl r1 ((Bj.refl [] _).alloc (.cells (madeCells #[.int .u64 0,.int .i64 0,.bool false,.bool false] (N*4)) 236)) (by simp);refine ⟨((((Bj.refl [b] W0).alloc _).alloc _).setCell (.inl (by simp)) _).setCell (.inl (by simp)) _ |>.drew,?_,?_,?_,by omega⟩
 ·have hh:((W0.alloc (.cells (madeCells #[.int .i64 0] (N*1)) 3)).alloc (.cells (madeCells #[.int .u64 0,.int .i64 0,.bool false,.bool false] (N*4)) 236)).heap[b]? = some (.cells #[mv,R,nv,.slice none 0 0,.slice none 0 0,.map (some hb),.int .i64 0] 229 (0,0)):=by
   rw [Below.heap_alloc _ _ _ (by rw [e1];omega),Below.heap_alloc _ _ _ hbw];exact h
  exact heap_set (heap_set hh 3 _) 4 _
 ·exact BG (BG r1' (by simp [blk];omega) _) (by simp [blk];omega) _
 ·exact own_base (BG (BG r2 (by simp [blk];omega) _) (by simp [blk];omega) _) (by omega)
theorem a5U:a0s W0 ((((W0.alloc (.cells (madeCells #[.int .u64 0,.int .i64 0,.bool false,.bool false] (N*4)) 236)).alloc (.cells (madeCells #[.int .i64 0] (N*1)) 3)).setCell ⟨b,3,none⟩ (.slice (some ⟨W0.heap.size+1,0,none⟩) N N)).setCell ⟨b,4,none⟩ (.slice (some ⟨W0.heap.size,0,none⟩) N N)).drew b N mv nv R hb (W0.heap.size+1) W0.heap.size:=by
 have hbw:=lt_of_block h;have e1:(W0.alloc (.cells (madeCells #[.int .u64 0,.int .i64 0,.bool false,.bool false] (N*4)) 236)).heap.size=W0.heap.size+1:=by simp
 have r1:=rowP W0 N hN;have r2:=a2S (W0.alloc (.cells (madeCells #[.int .u64 0,.int .i64 0,.bool false,.bool false] (N*4)) 236)) N hN;rw [e1] at r2;have r1':=Bl r1 ((Bj.refl [] _).alloc (.cells (madeCells #[.int .i64 0] (N*1)) 3)) (by simp);refine ⟨((((Bj.refl [b] W0).alloc _).alloc _).setCell (.inl (by simp)) _).setCell (.inl (by simp)) _ |>.drew,?_,?_,?_,by omega⟩
 ·have hh:((W0.alloc (.cells (madeCells #[.int .u64 0,.int .i64 0,.bool false,.bool false] (N*4)) 236)).alloc (.cells (madeCells #[.int .i64 0] (N*1)) 3)).heap[b]? = some (.cells #[mv,R,nv,.slice none 0 0,.slice none 0 0,.map (some hb),.int .i64 0] 229 (0,0)):=by
   rw [Below.heap_alloc _ _ _ (by rw [e1];omega),Below.heap_alloc _ _ _ hbw];exact h
  exact heap_set (heap_set hh 3 _) 4 _
 ·exact own_base (BG (BG r2 (by simp [blk];omega) _) (by simp [blk];omega) _) (by omega)
 ·exact BG (BG r1' (by simp [blk];omega) _) (by simp [blk];omega) _
theorem a5V:a0s W0 ((((W0.setCell ⟨b,3,none⟩ (.slice (some ⟨W0.heap.size,0,none⟩) N N)).alloc (.cells (madeCells #[.int .i64 0] (N*1)) 3)).alloc (.cells (madeCells #[.int .u64 0,.int .i64 0,.bool false,.bool false] (N*4)) 236)).setCell ⟨b,4,none⟩ (.slice (some ⟨W0.heap.size+1,0,none⟩) N N)).drew b N mv nv R hb W0.heap.size (W0.heap.size+1):=by
 have hbw:=lt_of_block h;have e0:(W0.setCell ⟨b,3,none⟩ (.slice (some ⟨W0.heap.size,0,none⟩) N N)).heap.size=W0.heap.size:=by simp [World.setCell]
 have e1:((W0.setCell ⟨b,3,none⟩ (.slice (some ⟨W0.heap.size,0,none⟩) N N)).alloc (.cells (madeCells #[.int .i64 0] (N*1)) 3)).heap.size=W0.heap.size+1:=by rw [World.size_alloc,e0]
 have r1:=a2S (W0.setCell ⟨b,3,none⟩ (.slice (some ⟨W0.heap.size,0,none⟩) N N)) N hN;have r2:=rowP ((W0.setCell ⟨b,3,none⟩ (.slice (some ⟨W0.heap.size,0,none⟩) N N)).alloc (.cells (madeCells #[.int .i64 0] (N*1)) 3)) N hN;rw [e0] at r1;rw [e1] at r2;have r1':=Bl r1 ((Bj.refl [] _).alloc (.cells (madeCells #[.int .u64 0,.int .i64 0,.bool false,.bool false] (N*4)) 236)) (by simp);refine ⟨((((Bj.refl [b] W0).setCell (.inl (by simp)) _).alloc _).alloc _).setCell (.inl (by simp)) _ |>.drew,?_,?_,?_,by omega⟩
 ·have h3:=heap_set h 3 (.slice (some ⟨W0.heap.size,0,none⟩) N N);have hh:=(Below.heap_alloc ((W0.setCell ⟨b,3,none⟩ (.slice (some ⟨W0.heap.size,0,none⟩) N N)).alloc (.cells (madeCells #[.int .i64 0] (N*1)) 3)) (.cells (madeCells #[.int .u64 0,.int .i64 0,.bool false,.bool false] (N*4)) 236) b (by rw [e1];omega)).trans ((Below.heap_alloc (W0.setCell ⟨b,3,none⟩ (.slice (some ⟨W0.heap.size,0,none⟩) N N)) (.cells (madeCells #[.int .i64 0] (N*1)) 3) b (by rw [e0];exact hbw)).trans h3);exact heap_set hh 4 _
 ·exact BG r1' (by simp [blk];omega) _
 ·exact own_base (BG r2 (by simp [blk];omega) _) (by omega)
end
theorem Rj {α:Type} (a:α):∀(d f t pf pt o:Nat),t - f<=d->f<t->FD (λ_ _ _ _ _=>a) f t pf pt o=List.replicate (2*(t - f) - 1) a:=by
 intro d;induction d with
 |zero=>intro f t pf pt o h1 h2;omega
 |succ d ih=>
  intro f t pf pt o h1 h2;by_cases h:f+1<t
  ·have hm:=Dt h;rw [DX _ pf pt o h,ih _ _ _ _ _ (by omega) hm.1,ih _ _ _ _ _ (by omega) hm.2];rw [show ([a]:List α)=List.replicate 1 a from rfl,List.replicate_append_replicate,List.replicate_append_replicate];congr 1;omega
  ·rw [DW _ pf pt o h,show 2*(t - f) - 1=1 by omega];rfl
theorem Y8 (M:Nat->Int):∀(d f t pf pt:Nat),t - f<=d->Dn (Ey []) M f t pf pt=⟨0,0,false,false⟩:=by
 intro d;induction d with
 |zero=>intro f t pf pt h1;rw [FH (by simp [Ey]) (by omega)]
 |succ d ih=>
  intro f t pf pt h1;by_cases h:f+1<t
  ·have hm:=Dt h;rw [IB (by simp [Ey]) h,ih _ _ _ _ (by omega),ih _ _ _ _ (by omega)];rfl
  ·rw [FH (by simp [Ey]) h]
theorem a2T (n:Nat):oN (Ey []) n=List.replicate (2*n - 1) 0:=by
 unfold oN;split
 ·rename_i h;subst h;rfl
 ·unfold oL;have:=Rj (0:Int) n 0 n 0 (n+1) 0 (by omega) (by omega);rw [Nat.sub_zero] at this;rw [<-this];rfl
theorem a2U (M:List Int) (n:Nat):pN (Ey []) M n=List.replicate (2*n - 1) ⟨0,0,false,false⟩:=by
 unfold pN;split
 ·rename_i h;subst h;rfl
 ·unfold pL;have:=Rj (⟨0,0,false,false⟩:Part) n 0 n 0 (n+1) 0 (by omega) (by omega);rw [Nat.sub_zero] at this;rw [<-this];exact LD _ _ n 0 n 0 (n+1) 0 (by omega) (by omega) (λ_=>Y8 _ n _ _ _ _ (by omega)) (λf' t' KF KG _ _ _ _ _ _=>Y8 _ (t' - f') _ _ _ _ (by omega))
def UF (w:World) (M:List Int) (e:Ending) (w':World):Prop:=
 ∃b F,e=.returned (.tuple #[.pointer (some ⟨b,0,none⟩),.int .i64 0])/\DR w' b F M [] 0/\Bj [] w w'/\∀y∈F,w.heap.size<=y
theorem newEnd {w w1 w2 w3 W0 W':World} {M:List Int} {n N:Nat} {mv nv:Value} {R:Int} {fb g1 g2:Nat} (hn:n=M.length - 1) (hR:II n=R) (hN:(CX n).length=N)
 (h1:w.heap.size<=fb) (h2:fb<w1.heap.size) (h3:w1.heap.size<=w2.heap.size) (hmr:KL.row w2 w1.heap.size mv M) (hu2:Bj [] w w2) (hnr:KD.row w3 w2.heap.size nv (CX n)) (hu3:Bj [fb] w2 w3)
 (hW:Bj [] w3 W0) (hq:DN W0 w3.heap.size 0 (λ_=>0)) (hs:W0.heap.size=w3.heap.size+2) (hf:a0s W0 W' (w3.heap.size+1) N mv nv R w3.heap.size g1 g2) :
 UF w M (.returned (.tuple #[.pointer (some ⟨w3.heap.size+1,0,none⟩),.int .i64 0])) W':=by
 have hz3:=hu3.size;have hU3:Bj [] w w3:=hu2.trans' hu3 (λx hx=>by simp at hx;subst hx;exact .inr h1);have hU:Bj [] w W':=(hU3.trans hW).trans' hf.upd (λx hx=>by simp at hx;subst hx;exact .inr (by have:=hU3.size;omega));have m3:KL.row w3 w1.heap.size mv M:=Bl hmr hu3 (λk hk=>by have:=BH hmr k hk;simp;omega);have m0:=Bl m3 hW (by simp);have ml:=BJ hmr;have mg:=BH hmr;have nl:=BJ hnr;have ng:=BH hnr;have m':KL.row W' w1.heap.size mv M:=Bl m0 hf.upd (λk hk=>by have:=ml k hk;simp;omega);have n0:=Bl hnr hW (by simp);have n':KD.row W' w2.heap.size nv (CX n):=Bl n0 hf.upd (λk hk=>by have:=nl k hk;simp;omega);have gg1:W0.heap.size<=g1:=BH hf.ro g1 (by simp [blk]);have gg2:W0.heap.size<=g2:=BH hf.rp g2 (by simp [blk]);have hne:=hf.ne;have hNn:N=2*n - 1:=by rw [<-hN];exact DY n
 have eo:oN (Ey []) n=List.replicate N 0:=by rw [a2T,hNn]
 have ep:pN (Ey []) M n=List.replicate N ⟨0,0,false,false⟩:=by rw [a2U,hNn]
 have b1:blk (.slice (some ⟨g1,0,none⟩) N N) = [g1]:=by simp [blk]
 have b2:blk (.slice (some ⟨g2,0,none⟩) N N) = [g2]:=by simp [blk]
 refine ⟨w3.heap.size+1,_,rfl,⟨mv,nv,.slice (some ⟨g1,0,none⟩) N N,.slice (some ⟨g2,0,none⟩) N N,w3.heap.size,0,rfl,⟨?_,?_,?_,?_,?_,?_,?_,?_,?_,?_,?_,?_,?_,?_,?_,?_,?_,?_,?_⟩,?_⟩,hU,?_⟩
 ·rw [<-hn,hR];exact hf.head
 ·exact own_base m' (Nat.zero_le _)
 ·rw [<-hn];exact own_base n' (Nat.zero_le _)
 ·rw [<-hn,eo];exact own_base hf.ro (Nat.zero_le _)
 ·rw [<-hn,ep];exact own_base hf.rp (Nat.zero_le _)
 ·intro h;have:=ml _ h;omega
 ·intro h;have:=nl _ h;omega
 ·rw [b1];simp;omega
 ·rw [b2];simp;omega
 ·omega
 ·rw [b1];intro y hy h;simp at hy;have:=ml _ h;omega
 ·rw [b1];intro y hy h;simp at hy;have:=nl _ h;omega
 ·rw [b1,b2];intro y hy h;simp at hy h;omega
 ·rw [b2];intro y hy h;simp at hy;have:=ml _ h;omega
 ·rw [b2];intro y hy h;simp at hy;have:=nl _ h;omega
 ·intro h;have:=ml _ h;omega
 ·intro h;have:=nl _ h;omega
 ·rw [b1];simp;omega
 ·rw [b2];simp;omega
 ·have hq':=hq.upd hf.upd (by simp);simpa using hq'
 ·intro y hy;have hz:=hU3.size;rw [b1,b2] at hy;simp only [List.mem_cons,List.mem_append,List.not_mem_nil,or_false] at hy;rcases hy with rfl | rfl | hy | hy | rfl | rfl
  ·omega
  ·omega
  ·have:=mg y hy;omega
  ·have:=ng y hy;omega
  ·omega
  ·omega
attribute [local go_sem ↓] Go.wp_at_zero Go.wp_at_succ
theorem a0t {M:List Int} (h:∀i,i+1<M.length->mf M i<mf M (i+1)):M.Pairwise (· < ·):=by
 have h2:∀d i,i+d+1<M.length->mf M i<mf M (i+d+1):=by
  intro d;induction d with
  |zero=>intro i hi;exact h i hi
  |succ d ih=>intro i hi;exact Int.lt_trans (ih i (by omega)) (h (i+d+1) hi)
 rw [List.pairwise_iff_getElem];intro i j hi hj hij;have h3:=h2 (j - i - 1) i (by omega);rw [show i+(j - i - 1)+1=j by omega] at h3;have e1:=FM hi;have e2:=FM hj;rw [Ba hi] at e1;rw [Ba hj] at e2;rw [Option.some.inj e1,Option.some.inj e2];exact h3
theorem mF {M:List Int} (h:M.Pairwise (· < ·)) {i:Nat} (hi:i+1<M.length):mf M i<mf M (i+1):=by
 have:=List.pairwise_iff_getElem.1 h i (i+1) (by omega) hi (by omega);have e1:=FM (M:=M) (i:=i) (by omega);have e2:=FM hi;rw [Ba (by omega)] at e1;rw [Ba hi] at e2;rw [Option.some.inj e1,Option.some.inj e2] at this;exact this
theorem a7W (v:Value) (M:List Int) (w:World) (hs:See KL w v M) (hl:M.length<400000) (hno:¬M.Pairwise (· < ·)) :
 Calls Tryz.prog 93 #[v] w λe w'=>e=.returned (.tuple #[.pointer none,.int .i64 2])/\Bj [] w w':=by
 obtain ⟨Av,Cv,rfl⟩:=hs.form;have HS:=AX hs;have nX:=AX hno;have hl':(M.length:Int)<400000:=by omega
 clear hs hno hl;go_enter Tryz.func93,Tryz.ntmps93
 go_wp2_with fail
 go_loopg [10] M.length (λm s10 wr=>∃k,m+k=M.length/\s10=.int .i64 (k:Int)/\Bj [] w wr/\∀i,i+1<k->mf M i<mf M (i+1))
 case atStart=>exact ⟨0,rfl,rfl,Bj.refl _ _,by intro i hi;omega⟩
 case round=>
  obtain ⟨k,hk,rfl,hu,hr⟩:=hrel;have hkn:k<=M.length:=by omega
  have HK:=AX hk;have HU:=AX hu;have HR:=AX hr;clear hk hu hr;by_cases hlt:k<M.length
  ·have hy:=FM hlt;obtain ⟨b1,o1,hA,hq1,hq2,hq3⟩:=KL.at (HS.out.BF HU.out) hy;subst hA;have b0:(0:Int)<=(k:Int):=AY _;have b1':(k:Int)<(M.length:Int):=by omega
   have HY:=AX hy;clear hy hq1 hq2;rcases Nat.eq_zero_or_pos k with rfl | hk0
   ·have hd:decide ((0:Int)<((0:Nat):Int))=false:=by simp
    go_wp2_with fail
    go_quiet (fail)
    go_wp2_with fail
    go_roundg (M.length - 1)
    case measure=>have:=HK.out;omega
    case rel=>exact ⟨1,by omega,by go_num,HU.out.drewN _,λi hi=>by omega⟩
   ·obtain ⟨j,hj⟩:∃j,k=j+1:=⟨k - 1,by omega⟩;have hy2:=FM (M:=M) (i:=j) (by omega);obtain ⟨b2,o2,hA2,hq1,hq2,hq4⟩:=KL.at (HS.out.BF HU.out) hy2
    cases hA2
    have hd:decide (0<k)=true:=decide_eq_true hk0;have hsub:IntKind.i64.wrap ((k:Int) - 1)=(j:Int):=by rw [IntWalk.i64_in _ ⟨by omega,by omega⟩];omega
    have hsub2:(k:Int) - 1=(j:Int):=by omega
    have bj0:(0:Int)<=(j:Int):=AY _;have bj1:(j:Int)<(M.length:Int):=by omega
    have HJ:=AX hj;clear hy2 hq1 hq2 hj hkn hk0;obtain ⟨x,hx⟩:=AU (mf M k);obtain ⟨y,hyy⟩:=AU (mf M j);rw [hx] at hq3;rw [hyy] at hq4;have HX:=AX hx;have HYY:=AX hyy;clear hx hyy;by_cases hyx:x<=y
    ·have hd3:decide (x<=y)=true:=decide_eq_true hyx;clear hyx;go_wp2_with fail
     go_quiet (fail)
     go_wp2_with fail
     go_ret2
     exact ⟨rfl,HU.out.drewN _⟩
    ·have hd3:decide (x<=y)=false:=decide_eq_false hyx;have HYX:=AX hyx;clear hyx;go_wp2_with fail
     go_quiet (fail)
     go_wp2_with fail
     go_roundg (M.length - (k+1))
     case measure=>have:=HK.out;omega
     case rel=>
      refine ⟨k+1,Ac HK,by go_num,HU.out.drewN _,λi hi=>?_⟩
      by_cases hij:i=j
      ·rw [hij,<-HJ.out,HX.out,HYY.out];have:=HYX.out;omega
      ·exact HR.out i (Ac HJ)
  ·exact (nX.out (a0t λi hi=>HR.out i (by omega))).elim
theorem mG:(Tryz.prog.info? 3).map (λi=>(i.zero,i.size,i.bytes))=some (some (.int .i64 0),1,8):=by kernel_rfl
theorem cu:(Tryz.prog.info? 236).map (λi=>(i.zero,i.size,i.bytes))=some (some (.agg #[.int .u64 0,.int .i64 0,.bool false,.bool false]),4,24):=by kernel_rfl
theorem Wh (W:World) (N:Nat) (hN:N<1000000):(Instr.makeSlice 163 (.int .i64 (N:Int)) (.int .i64 (N:Int))).run Tryz.prog W=.ok (.slice (some ⟨W.heap.size,0,none⟩) N N) (W.alloc (.cells (madeCells #[.int .i64 0] (N*1)) 3)):=by
 obtain ⟨i0,hi,hy0,hy1,hy2⟩:=info_parts mG;have:=run_make (P:=Tryz.prog) W 163 3 i0 (.int .i64 0) Tryz.underlying163 hi hy0 .i64 .i64 N N (by omega) (by omega) (by rw [hy2];omega) (by omega);rw [hy1] at this;exact this
theorem UG (W:World) (N:Nat) (hN:N<1000000):(Instr.makeSlice 227 (.int .i64 (N:Int)) (.int .i64 (N:Int))).run Tryz.prog W=.ok (.slice (some ⟨W.heap.size,0,none⟩) N N) (W.alloc (.cells (madeCells #[.int .u64 0,.int .i64 0,.bool false,.bool false] (N*4)) 236)):=by
 obtain ⟨i0,hi,hy0,hy1,hy2⟩:=info_parts cu;have:=run_make (P:=Tryz.prog) W 227 236 i0 (.agg #[.int .u64 0,.int .i64 0,.bool false,.bool false]) Tryz.underlying227 hi hy0 .i64 .i64 N N (by omega) (by omega) (by rw [hy2];omega) (by omega);rw [hy1] at this;exact this
theorem newC (v:Value) (M:List Int) (w:World) (hs:See KL w v M) (hM:Du M) :
 Calls Tryz.prog 93 #[v] w (UF w M):=by
 have hl:=hM.len;have hmm:=@run_makeMap Tryz.prog;obtain ⟨n,hn⟩:∃n,n=M.length - 1:=⟨_,rfl⟩;have HN:=AX hn;clear hn;obtain ⟨Av,Cv,rfl⟩:=hs.form;have HS:=AX hs;have HM:=AX hM;have hl':(M.length:Int)<400000:=by omega
 have HL:=AX hl;clear hs hM hl;go_enter Tryz.func93,Tryz.ntmps93
 go_wp2_with fail
 go_loopg [10] M.length (λm s10 wr=>∃k,m+k=M.length/\s10=.int .i64 (k:Int)/\Bj [] w wr/\∀i,i+1<k->mf M i<mf M (i+1))
 case atStart=>exact ⟨0,rfl,rfl,Bj.refl _ _,by intro i hi;omega⟩
 case round=>
  obtain ⟨k,hk,rfl,hu,hr⟩:=hrel;have hkn:k<=M.length:=by omega
  have HK:=AX hk;have HU:=AX hu;have HR:=AX hr;clear hk hu hr;by_cases hlt:k<M.length
  ·have hy:=FM hlt;obtain ⟨b1,o1,hA,hq1,hq2,hq3⟩:=KL.at (HS.out.BF HU.out) hy;subst hA;have b0:(0:Int)<=(k:Int):=AY _;have b1':(k:Int)<(M.length:Int):=by omega
   have HY:=AX hy;clear hy hq1 hq2;rcases Nat.eq_zero_or_pos k with rfl | hk0
   ·have hd:decide ((0:Int)<((0:Nat):Int))=false:=by simp
    go_wp2_with fail
    go_quiet (fail)
    go_wp2_with fail
    go_roundg (M.length - 1)
    case measure=>have:=HK.out;omega
    case rel=>exact ⟨1,by omega,by go_num,HU.out.drewN _,λi hi=>by omega⟩
   ·obtain ⟨j,hj⟩:∃j,k=j+1:=⟨k - 1,by omega⟩;have hy2:=FM (M:=M) (i:=j) (by omega);obtain ⟨b2,o2,hA2,hq1,hq2,hq4⟩:=KL.at (HS.out.BF HU.out) hy2
    cases hA2
    have hd:decide (0<k)=true:=decide_eq_true hk0;have hsub:IntKind.i64.wrap ((k:Int) - 1)=(j:Int):=by rw [IntWalk.i64_in _ ⟨by omega,by omega⟩];omega
    have hsub2:(k:Int) - 1=(j:Int):=by omega
    have bj0:(0:Int)<=(j:Int):=AY _;have bj1:(j:Int)<(M.length:Int):=by omega
    have HJ:=AX hj;clear hy2 hq1 hq2 hj hkn hk0;obtain ⟨x,hx⟩:=AU (mf M k);obtain ⟨y,hyy⟩:=AU (mf M j);rw [hx] at hq3;rw [hyy] at hq4;have HX:=AX hx;have HYY:=AX hyy;clear hx hyy;have hyx:¬x<=y:=by have:=mF HM.out.rise (i:=j) (Ac HJ);rw [<-HJ.out,HX.out,HYY.out] at this;omega
    have hd3:decide (x<=y)=false:=decide_eq_false hyx;have HYX:=AX hyx;clear hyx;go_wp2_with fail
    go_quiet (fail)
    go_wp2_with fail
    go_roundg (M.length - (k+1))
    case measure=>have:=HK.out;omega
    case rel=>
     refine ⟨k+1,Ac HK,by go_num,HU.out.drewN _,λi hi=>?_⟩
     by_cases hij:i=j
     ·rw [hij,<-HJ.out,HX.out,HYY.out];have:=HYX.out;omega
     ·exact HR.out i (Ac HJ)
  ·have hnn:n=M.length - 1:=HN.out;have HHH:=Aq HU.out HK.out hlt;have hf0:=lX n (Ac HL) wr;have hf:Calls Tryz.prog 151 #[(n:Int)] wr λe w'=>e=.returned (.tuple #[.pointer (some wr.heap.size),.int .i64 0])/\Gf w' wr.heap.size n/\Bj [] wr w'/\wr.heap.size<w'.heap.size:=hf0.mono λe w' he=>⟨he.1,by rw [he.2];exact heap_alloc_new wr _,by rw [he.2];exact (Bj.refl _ _).alloc _,by rw [he.2];simp⟩
   clear hlt hkn hl' hf0;rcases Nat.eq_zero_or_pos M.length with h0 | h0
   ·have hn0:n=0:=by omega
    have hw64:wrap64 ((M.length:Int) - 1) = -1:=by rw [h0];exact IntWalk.wrap64_in _ ⟨by omega,by omega⟩
    rw [hn0] at hf;have hf2:Calls Tryz.prog 151 #[.int .i64 0] wr λe w'=>e=.returned (.tuple #[.pointer (some wr.heap.size),.int .i64 0])/\Gf w' wr.heap.size n/\Bj [] wr w'/\wr.heap.size<w'.heap.size:=by rw [hn0];exact hf
    have HF:=AX hf2;clear hf2;have hll:¬k<M.length:=HHH.2.2;clear hnn h0 hf hn0;go_upto_region 7 with fail
    clear hll;go_wp2_with fail
    go_fit HF.out
    rintro e w1 ⟨rfl,hfr,hu1,hz1⟩;have hcl:=DL _ M.length (KL.all M) w1 ((HS.out.BF HU.out).BF hu1) (KL.DU M) (Ac HL);have yP:=AX hcl;have HFR:=AX hfr;have DJ:=AX (HU.out.trans hu1);clear hcl hfr hu1 hw64;go_wp2_with fail
    go_fit yP.out
    rintro e w2 ⟨Am,Cm,rfl,hmr,hb2⟩;have hu2:=Bj.of_below hb2;have hfr2:Gf w2 wr.heap.size n:=(hu2.block wr.heap.size (lt_of_block HFR.out) (by simp)).trans HFR.out;have HRT:=AX (V5 wr.heap.size n w2 (Ad HL HN) hfr2);have HND:=AX (Uz wr.heap.size n w2 (Ad HL HN) hfr2);have HMR:=AX hmr;have Ej:=AX (DJ.out.trans hu2);have hz2:wr.heap.size<w2.heap.size:=lt_of_block hfr2;have cO:w1.heap.size<=w2.heap.size:=hu2.size;clear hmr hb2 hu2 hfr2;go_wp2_with fail
    go_fit HRT.out
    rintro e w' ⟨rfl,rfl⟩;go_wp2_with fail
    go_fit HND.out
    rintro e w3 ⟨An,Cn,rfl,hnr,hu3⟩;obtain ⟨R,hR⟩:=AU (II n);obtain ⟨N,hN⟩:=AU ((CX n).length);rw [hR,hN];have HNR:=AX hnr;have EJ:=AX hu3;have HR:=AX hR;have Je:=AX hN;clear hnr hu3 hR hN;go_upto_region 11 with fail
    have hW:Bj [] w3 ((w3.alloc (.map #[] 0)).alloc (.cells #[.slice Am M.length Cm,R,.slice An N Cn,.slice none 0 0,.slice none 0 0,.map (some w3.heap.size),.int .i64 0] 229)):=((Bj.refl _ _).alloc _).alloc _
    have Y9:((w3.alloc (.map #[] 0)).alloc (.cells #[.slice Am M.length Cm,R,.slice An N Cn,.slice none 0 0,.slice none 0 0,.map (some w3.heap.size),.int .i64 0] 229)).heap[w3.heap.size+1]? = some (.cells #[.slice Am M.length Cm,R,.slice An N Cn,.slice none 0 0,.slice none 0 0,.map (some w3.heap.size),.int .i64 0] 229 (0,0)):=by
     have:=heap_alloc_new (w3.alloc (.map #[] 0)) (.cells #[.slice Am M.length Cm,R,.slice An N Cn,.slice none 0 0,.slice none 0 0,.map (some w3.heap.size),.int .i64 0] 229);simpa using this
    have hWq:DN ((w3.alloc (.map #[] 0)).alloc (.cells #[.slice Am M.length Cm,R,.slice An N Cn,.slice none 0 0,.slice none 0 0,.map (some w3.heap.size),.int .i64 0] 229)) w3.heap.size 0 (λ_=>0):=(DN.made w3).upd ((Bj.refl [] _).alloc _) (by simp);have hWs:((w3.alloc (.map #[] 0)).alloc (.cells #[.slice Am M.length Cm,R,.slice An N Cn,.slice none 0 0,.slice none 0 0,.map (some w3.heap.size),.int .i64 0] 229)).heap.size=w3.heap.size+2:=by simp
    generalize (w3.alloc (.map #[] 0)).alloc (.cells #[.slice Am M.length Cm,R,.slice An N Cn,.slice none 0 0,.slice none 0 0,.map (some w3.heap.size),.int .i64 0] 229)=W0 at hW Y9 hWq hWs |-;obtain ⟨CO,hCO⟩:=AU (madeCells #[.int .i64 0] (N*1));obtain ⟨CP,hCP⟩:=AU (madeCells #[.int .u64 0,.int .i64 0,.bool false,.bool false] (N*4));have hNb:N<1000000:=by have h1:=Je.out;have h2:=DY n;have h3:=HL.out;have h4:=HN.out;omega
    have mk1:∀W:World,(Instr.makeSlice 163 (.int .i64 (N:Int)) (.int .i64 (N:Int))).run Tryz.prog W=.ok (.slice (some ⟨W.heap.size,0,none⟩) N N) (W.alloc (.cells CO 3)):=λW=>by rw [<-hCO];exact Wh W N hNb
    have mk2:∀W:World,(Instr.makeSlice 227 (.int .i64 (N:Int)) (.int .i64 (N:Int))).run Tryz.prog W=.ok (.slice (some ⟨W.heap.size,0,none⟩) N N) (W.alloc (.cells CP 236)):=λW=>by rw [<-hCP];exact UG W N hNb
    have b2:W0.cell? ⟨w3.heap.size+1,2,none⟩=some (.slice An N Cn):=by simp [World.cell?,Y9]
    have s2:W0.drew.cell? ⟨w3.heap.size+1,2,none⟩=some (.slice An N Cn):=b2;have b3:W0.cell? ⟨w3.heap.size+1,3,none⟩=some (.slice none 0 0):=by simp [World.cell?,Y9]
    have b4:W0.cell? ⟨w3.heap.size+1,4,none⟩=some (.slice none 0 0):=by simp [World.cell?,Y9]
    have f3:W0.frozen? ⟨w3.heap.size+1,3,none⟩=false:=by simp [World.frozen?,Y9]
    have f4:W0.frozen? ⟨w3.heap.size+1,4,none⟩=false:=by simp [World.frozen?,Y9]
    have hbW:w3.heap.size+1<W0.heap.size:=by omega
    have NN0:(0:Int)<=(N:Int):=AY _;have qa3:((W0.alloc (.cells CO 3)).alloc (.cells CP 236)).cell? ⟨w3.heap.size+1,3,none⟩=some (.slice none 0 0):=(Bj.cell (F:=[]) (((Bj.refl [] _).alloc _).alloc _) (p:=⟨w3.heap.size+1,3,none⟩) hbW (by simp)).trans b3;have ga3:((W0.alloc (.cells CO 3)).alloc (.cells CP 236)).frozen? ⟨w3.heap.size+1,3,none⟩=false:=(Bj.frozen (F:=[]) (((Bj.refl [] _).alloc _).alloc _) (p:=⟨w3.heap.size+1,3,none⟩) hbW (by simp)).trans f3;have qa4:((W0.alloc (.cells CO 3)).alloc (.cells CP 236)).cell? ⟨w3.heap.size+1,4,none⟩=some (.slice none 0 0):=(Bj.cell (F:=[]) (((Bj.refl [] _).alloc _).alloc _) (p:=⟨w3.heap.size+1,4,none⟩) hbW (by simp)).trans b4;have ga4:((W0.alloc (.cells CO 3)).alloc (.cells CP 236)).frozen? ⟨w3.heap.size+1,4,none⟩=false:=(Bj.frozen (F:=[]) (((Bj.refl [] _).alloc _).alloc _) (p:=⟨w3.heap.size+1,4,none⟩) hbW (by simp)).trans f4;have qb3:((W0.alloc (.cells CP 236)).alloc (.cells CO 3)).cell? ⟨w3.heap.size+1,3,none⟩=some (.slice none 0 0):=(Bj.cell (F:=[]) (((Bj.refl [] _).alloc _).alloc _) (p:=⟨w3.heap.size+1,3,none⟩) hbW (by simp)).trans b3;have gb3:((W0.alloc (.cells CP 236)).alloc (.cells CO 3)).frozen? ⟨w3.heap.size+1,3,none⟩=false:=(Bj.frozen (F:=[]) (((Bj.refl [] _).alloc _).alloc _) (p:=⟨w3.heap.size+1,3,none⟩) hbW (by simp)).trans f3;have qb4:((W0.alloc (.cells CP 236)).alloc (.cells CO 3)).cell? ⟨w3.heap.size+1,4,none⟩=some (.slice none 0 0):=(Bj.cell (F:=[]) (((Bj.refl [] _).alloc _).alloc _) (p:=⟨w3.heap.size+1,4,none⟩) hbW (by simp)).trans b4;have gb4:((W0.alloc (.cells CP 236)).alloc (.cells CO 3)).frozen? ⟨w3.heap.size+1,4,none⟩=false:=(Bj.frozen (F:=[]) (((Bj.refl [] _).alloc _).alloc _) (p:=⟨w3.heap.size+1,4,none⟩) hbW (by simp)).trans f4;have qc3:(W0.alloc (.cells CO 3)).cell? ⟨w3.heap.size+1,3,none⟩=some (.slice none 0 0):=(Bj.cell (F:=[]) ((Bj.refl [] _).alloc _) (p:=⟨w3.heap.size+1,3,none⟩) hbW (by simp)).trans b3;have gc3:(W0.alloc (.cells CO 3)).frozen? ⟨w3.heap.size+1,3,none⟩=false:=(Bj.frozen (F:=[]) ((Bj.refl [] _).alloc _) (p:=⟨w3.heap.size+1,3,none⟩) hbW (by simp)).trans f3;have qc4:(W0.alloc (.cells CO 3)).cell? ⟨w3.heap.size+1,4,none⟩=some (.slice none 0 0):=(Bj.cell (F:=[]) ((Bj.refl [] _).alloc _) (p:=⟨w3.heap.size+1,4,none⟩) hbW (by simp)).trans b4;have gc4:(W0.alloc (.cells CO 3)).frozen? ⟨w3.heap.size+1,4,none⟩=false:=(Bj.frozen (F:=[]) ((Bj.refl [] _).alloc _) (p:=⟨w3.heap.size+1,4,none⟩) hbW (by simp)).trans f4;have hsz3:(W0.setCell ⟨w3.heap.size+1,3,none⟩ (.slice (some ⟨W0.heap.size,0,none⟩) N N)).heap.size=W0.heap.size:=by simp [World.setCell]
    have qd4:(((W0.setCell ⟨w3.heap.size+1,3,none⟩ (.slice (some ⟨W0.heap.size,0,none⟩) N N)).alloc (.cells CO 3)).alloc (.cells CP 236)).cell? ⟨w3.heap.size+1,4,none⟩=some (.slice none 0 0):=by
     rw [World.cell?_alloc_past _ _ _ (by rw [World.size_alloc,hsz3];show w3.heap.size+1<_;omega),World.cell?_alloc_past _ _ _ (by rw [hsz3];exact hbW),World.cell?_setCell_other _ _ _ _ (by simp)];exact b4
    have gd4:(((W0.setCell ⟨w3.heap.size+1,3,none⟩ (.slice (some ⟨W0.heap.size,0,none⟩) N N)).alloc (.cells CO 3)).alloc (.cells CP 236)).frozen? ⟨w3.heap.size+1,4,none⟩=false:=by
     rw [World.frozen?_alloc_past _ _ _ (by rw [World.size_alloc,hsz3];show w3.heap.size+1<_;omega),World.frozen?_alloc_past _ _ _ (by rw [hsz3];exact hbW),World.frozen?_setCell];exact f4
    clear hsz3;have HW:=Au hW Y9 hWq hWs;have ZX:=Ap hCO hCP;clear hW Y9 hWq hWs hCO hCP hNb;refine Bo.start [14,15,16,17,18,19] (λw'=>w'.cell? ⟨w3.heap.size+1,2,none⟩=some (.slice An N Cn)) (by kernel_rfl) ?_ λhS=>?_
    ·exact s2
    refine' Bo.mx 0 47 ?_
    refine' Bo.mx 1 48 ?_
    refine' Bo.mx 2 49 ?_
    refine' Bo.mx 3 50 ?_
    refine' Bo.mx 4 51 ?_
    refine' Bo.ty 1 5 52 ?_
    refine' Bo.mx 6 53 ?_
    refine' Bo.mx 8 55 ?_
    refine' Bo.mx 9 56 ?_
    refine' Bo.mx 10 57 ?_
    refine' Bo.ty 1 11 58 ?_
    refine' Bo.mx 12 59 ?_
    refine Bo.pair (i:=7) (o:=⟨some 54,_,_,_,_,_⟩) (k:=13) (o':=⟨some 60,_,_,_,_,_⟩) rfl rfl (by kernel_rfl) (λK hK=>?_) (λK hK=>?_)
    ·skip
     go_simp
     refine hK.out _ _ (λ_ h=>?_) ?_
     ·exact ((Bj.refl [] _).alloc _).cell (p:=⟨w3.heap.size+1,2,none⟩) (World.block_lt_of_cell? _ _ h) (by simp) |>.trans h
     clear hK K;try simp only [Act.put,sA,sZ,sS]
     refine' Bo.mx 14 61 ?_
     refine' Bo.mx 15 62 ?_
     refine Bo.pair (i:=13) (o:=⟨some 60,_,_,_,_,_⟩) (k:=16) (o':=⟨none,_,_,_,_,_⟩) rfl rfl (by kernel_rfl) (λK hK=>?_) (λK hK=>?_)
     ·skip
      go_simp
      refine hK.out _ _ (λ_ h=>?_) ?_
      ·exact ((Bj.refl [] _).alloc _).cell (p:=⟨w3.heap.size+1,2,none⟩) (World.block_lt_of_cell? _ _ h) (by simp) |>.trans h
      clear hK K;try simp only [Act.put,sA,sZ,sS]
      refine Bo.one (i:=16) (o:=⟨none,_,_,_,_,_⟩) rfl (by kernel_rfl) λK hK=>?_
      go_simp
      refine hK.out _ _ (λh=>(by cases h)) ?_
      clear hK K;try simp only [Act.put,sA,sZ,sS]
      refine' Bo.mx 17 63 ?_
      refine' Bo.mx 18 64 ?_
      refine Bo.one (i:=19) (o:=⟨none,_,_,_,_,_⟩) rfl (by kernel_rfl) λK hK=>?_
      go_simp
      refine hK.out _ _ (λh=>(by cases h)) ?_
      clear hK K;try simp only [Act.put,sA,sZ,sS]
      refine Bo.done (by kernel_rfl) ?_
      go_wp2_with fail
      go_ret2
      have hNb:N<1000000:=by have h1:=Je.out;have h2:=DY n;have h3:=HL.out;have h4:=HN.out;omega
      have hE:=a5T hNb HW.2.1;rw [ZX.1,ZX.2] at hE;have Za:=HNR.out;rw [Je.out] at Za;exact newEnd HN.out HR.out Je.out HU.out.size hz1 cO HMR.out Ej.out Za EJ.out HW.1 HW.2.2.1 HW.2.2.2 hE
     ·skip
      go_simp
      refine hK.out _ _ (λh=>(by cases h)) ?_
      clear hK K;try simp only [Act.put,sA,sZ,sS]
      refine Bo.one (i:=13) (o:=⟨some 60,_,_,_,_,_⟩) rfl (by kernel_rfl) λK hK=>?_
      go_simp
      refine hK.out _ _ (λ_ h=>?_) ?_
      ·exact ((Bj.refl [] _).alloc _).cell (p:=⟨w3.heap.size+1,2,none⟩) (World.block_lt_of_cell? _ _ h) (by simp) |>.trans h
      clear hK K;try simp only [Act.put,sA,sZ,sS]
      refine' Bo.mx 17 63 ?_
      refine' Bo.mx 18 64 ?_
      refine Bo.one (i:=19) (o:=⟨none,_,_,_,_,_⟩) rfl (by kernel_rfl) λK hK=>?_
      go_simp
      refine hK.out _ _ (λh=>(by cases h)) ?_
      clear hK K;try simp only [Act.put,sA,sZ,sS]
      refine Bo.done (by kernel_rfl) ?_
      go_wp2_with fail
      go_ret2
      have hNb:N<1000000:=by have h1:=Je.out;have h2:=DY n;have h3:=HL.out;have h4:=HN.out;omega
      have hE:=a5V hNb HW.2.1;rw [ZX.1,ZX.2] at hE;have Za:=HNR.out;rw [Je.out] at Za;exact newEnd HN.out HR.out Je.out HU.out.size hz1 cO HMR.out Ej.out Za EJ.out HW.1 HW.2.2.1 HW.2.2.2 hE
    ·skip
     go_simp
     refine hK.out _ _ (λ_ h=>?_) ?_
     ·exact ((Bj.refl [] _).alloc _).cell (p:=⟨w3.heap.size+1,2,none⟩) (World.block_lt_of_cell? _ _ h) (by simp) |>.trans h
     clear hK K;try simp only [Act.put,sA,sZ,sS]
     refine Bo.one (i:=7) (o:=⟨some 54,_,_,_,_,_⟩) rfl (by kernel_rfl) λK hK=>?_
     go_simp
     refine hK.out _ _ (λ_ h=>?_) ?_
     ·exact ((Bj.refl [] _).alloc _).cell (p:=⟨w3.heap.size+1,2,none⟩) (World.block_lt_of_cell? _ _ h) (by simp) |>.trans h
     clear hK K;try simp only [Act.put,sA,sZ,sS]
     refine' Bo.mx 14 61 ?_
     refine' Bo.mx 15 62 ?_
     refine Bo.one (i:=16) (o:=⟨none,_,_,_,_,_⟩) rfl (by kernel_rfl) λK hK=>?_
     go_simp
     refine hK.out _ _ (λh=>(by cases h)) ?_
     clear hK K;try simp only [Act.put,sA,sZ,sS]
     refine' Bo.mx 17 63 ?_
     refine' Bo.mx 18 64 ?_
     refine Bo.one (i:=19) (o:=⟨none,_,_,_,_,_⟩) rfl (by kernel_rfl) λK hK=>?_
     go_simp
     refine hK.out _ _ (λh=>(by cases h)) ?_
     clear hK K;try simp only [Act.put,sA,sZ,sS]
     refine Bo.done (by kernel_rfl) ?_
     go_wp2_with fail
     go_ret2
     have hNb:N<1000000:=by have h1:=Je.out;have h2:=DY n;have h3:=HL.out;have h4:=HN.out;omega
     have hE:=a5U hNb HW.2.1;rw [ZX.1,ZX.2] at hE;have Za:=HNR.out;rw [Je.out] at Za;exact newEnd HN.out HR.out Je.out HU.out.size hz1 cO HMR.out Ej.out Za EJ.out HW.1 HW.2.2.1 HW.2.2.2 hE
   ·have hw64:wrap64 ((M.length:Int) - 1)=(n:Int):=by rw [IntWalk.wrap64_in _ ⟨by omega,Ac HL⟩];omega
    have hdn:decide ((n:Int)<0)=false:=decide_eq_false (by omega);have n0:(0:Int)<=(n:Int):=AY _;have hll:¬k<M.length:=HHH.2.2;have HF:=AX hf;clear hnn h0 hf;go_upto_region 7 with fail
    clear hll;go_wp2_with fail
    go_fit HF.out
    rintro e w1 ⟨rfl,hfr,hu1,hz1⟩;have hcl:=DL _ M.length (KL.all M) w1 ((HS.out.BF HU.out).BF hu1) (KL.DU M) (Ac HL);have yP:=AX hcl;have HFR:=AX hfr;have DJ:=AX (HU.out.trans hu1);clear hcl hfr hu1 hw64;go_wp2_with fail
    go_fit yP.out
    rintro e w2 ⟨Am,Cm,rfl,hmr,hb2⟩;have hu2:=Bj.of_below hb2;have hfr2:Gf w2 wr.heap.size n:=(hu2.block wr.heap.size (lt_of_block HFR.out) (by simp)).trans HFR.out;have HRT:=AX (V5 wr.heap.size n w2 (Ad HL HN) hfr2);have HND:=AX (Uz wr.heap.size n w2 (Ad HL HN) hfr2);have HMR:=AX hmr;have Ej:=AX (DJ.out.trans hu2);have hz2:wr.heap.size<w2.heap.size:=lt_of_block hfr2;have cO:w1.heap.size<=w2.heap.size:=hu2.size;clear hmr hb2 hu2 hfr2;go_wp2_with fail
    go_fit HRT.out
    rintro e w' ⟨rfl,rfl⟩;go_wp2_with fail
    go_fit HND.out
    rintro e w3 ⟨An,Cn,rfl,hnr,hu3⟩;obtain ⟨R,hR⟩:=AU (II n);obtain ⟨N,hN⟩:=AU ((CX n).length);rw [hR,hN];have HNR:=AX hnr;have EJ:=AX hu3;have HR:=AX hR;have Je:=AX hN;clear hnr hu3 hR hN;go_upto_region 11 with fail
    have hW:Bj [] w3 ((w3.alloc (.map #[] 0)).alloc (.cells #[.slice Am M.length Cm,R,.slice An N Cn,.slice none 0 0,.slice none 0 0,.map (some w3.heap.size),.int .i64 0] 229)):=((Bj.refl _ _).alloc _).alloc _
    have Y9:((w3.alloc (.map #[] 0)).alloc (.cells #[.slice Am M.length Cm,R,.slice An N Cn,.slice none 0 0,.slice none 0 0,.map (some w3.heap.size),.int .i64 0] 229)).heap[w3.heap.size+1]? = some (.cells #[.slice Am M.length Cm,R,.slice An N Cn,.slice none 0 0,.slice none 0 0,.map (some w3.heap.size),.int .i64 0] 229 (0,0)):=by
     have:=heap_alloc_new (w3.alloc (.map #[] 0)) (.cells #[.slice Am M.length Cm,R,.slice An N Cn,.slice none 0 0,.slice none 0 0,.map (some w3.heap.size),.int .i64 0] 229);simpa using this
    have hWq:DN ((w3.alloc (.map #[] 0)).alloc (.cells #[.slice Am M.length Cm,R,.slice An N Cn,.slice none 0 0,.slice none 0 0,.map (some w3.heap.size),.int .i64 0] 229)) w3.heap.size 0 (λ_=>0):=(DN.made w3).upd ((Bj.refl [] _).alloc _) (by simp);have hWs:((w3.alloc (.map #[] 0)).alloc (.cells #[.slice Am M.length Cm,R,.slice An N Cn,.slice none 0 0,.slice none 0 0,.map (some w3.heap.size),.int .i64 0] 229)).heap.size=w3.heap.size+2:=by simp
    generalize (w3.alloc (.map #[] 0)).alloc (.cells #[.slice Am M.length Cm,R,.slice An N Cn,.slice none 0 0,.slice none 0 0,.map (some w3.heap.size),.int .i64 0] 229)=W0 at hW Y9 hWq hWs |-;obtain ⟨CO,hCO⟩:=AU (madeCells #[.int .i64 0] (N*1));obtain ⟨CP,hCP⟩:=AU (madeCells #[.int .u64 0,.int .i64 0,.bool false,.bool false] (N*4));have hNb:N<1000000:=by have h1:=Je.out;have h2:=DY n;have h3:=HL.out;have h4:=HN.out;omega
    have mk1:∀W:World,(Instr.makeSlice 163 (.int .i64 (N:Int)) (.int .i64 (N:Int))).run Tryz.prog W=.ok (.slice (some ⟨W.heap.size,0,none⟩) N N) (W.alloc (.cells CO 3)):=λW=>by rw [<-hCO];exact Wh W N hNb
    have mk2:∀W:World,(Instr.makeSlice 227 (.int .i64 (N:Int)) (.int .i64 (N:Int))).run Tryz.prog W=.ok (.slice (some ⟨W.heap.size,0,none⟩) N N) (W.alloc (.cells CP 236)):=λW=>by rw [<-hCP];exact UG W N hNb
    have b2:W0.cell? ⟨w3.heap.size+1,2,none⟩=some (.slice An N Cn):=by simp [World.cell?,Y9]
    have s2:W0.drew.cell? ⟨w3.heap.size+1,2,none⟩=some (.slice An N Cn):=b2;have b3:W0.cell? ⟨w3.heap.size+1,3,none⟩=some (.slice none 0 0):=by simp [World.cell?,Y9]
    have b4:W0.cell? ⟨w3.heap.size+1,4,none⟩=some (.slice none 0 0):=by simp [World.cell?,Y9]
    have f3:W0.frozen? ⟨w3.heap.size+1,3,none⟩=false:=by simp [World.frozen?,Y9]
    have f4:W0.frozen? ⟨w3.heap.size+1,4,none⟩=false:=by simp [World.frozen?,Y9]
    have hbW:w3.heap.size+1<W0.heap.size:=by omega
    have NN0:(0:Int)<=(N:Int):=AY _;have qa3:((W0.alloc (.cells CO 3)).alloc (.cells CP 236)).cell? ⟨w3.heap.size+1,3,none⟩=some (.slice none 0 0):=(Bj.cell (F:=[]) (((Bj.refl [] _).alloc _).alloc _) (p:=⟨w3.heap.size+1,3,none⟩) hbW (by simp)).trans b3;have ga3:((W0.alloc (.cells CO 3)).alloc (.cells CP 236)).frozen? ⟨w3.heap.size+1,3,none⟩=false:=(Bj.frozen (F:=[]) (((Bj.refl [] _).alloc _).alloc _) (p:=⟨w3.heap.size+1,3,none⟩) hbW (by simp)).trans f3;have qa4:((W0.alloc (.cells CO 3)).alloc (.cells CP 236)).cell? ⟨w3.heap.size+1,4,none⟩=some (.slice none 0 0):=(Bj.cell (F:=[]) (((Bj.refl [] _).alloc _).alloc _) (p:=⟨w3.heap.size+1,4,none⟩) hbW (by simp)).trans b4;have ga4:((W0.alloc (.cells CO 3)).alloc (.cells CP 236)).frozen? ⟨w3.heap.size+1,4,none⟩=false:=(Bj.frozen (F:=[]) (((Bj.refl [] _).alloc _).alloc _) (p:=⟨w3.heap.size+1,4,none⟩) hbW (by simp)).trans f4;have qb3:((W0.alloc (.cells CP 236)).alloc (.cells CO 3)).cell? ⟨w3.heap.size+1,3,none⟩=some (.slice none 0 0):=(Bj.cell (F:=[]) (((Bj.refl [] _).alloc _).alloc _) (p:=⟨w3.heap.size+1,3,none⟩) hbW (by simp)).trans b3;have gb3:((W0.alloc (.cells CP 236)).alloc (.cells CO 3)).frozen? ⟨w3.heap.size+1,3,none⟩=false:=(Bj.frozen (F:=[]) (((Bj.refl [] _).alloc _).alloc _) (p:=⟨w3.heap.size+1,3,none⟩) hbW (by simp)).trans f3;have qb4:((W0.alloc (.cells CP 236)).alloc (.cells CO 3)).cell? ⟨w3.heap.size+1,4,none⟩=some (.slice none 0 0):=(Bj.cell (F:=[]) (((Bj.refl [] _).alloc _).alloc _) (p:=⟨w3.heap.size+1,4,none⟩) hbW (by simp)).trans b4;have gb4:((W0.alloc (.cells CP 236)).alloc (.cells CO 3)).frozen? ⟨w3.heap.size+1,4,none⟩=false:=(Bj.frozen (F:=[]) (((Bj.refl [] _).alloc _).alloc _) (p:=⟨w3.heap.size+1,4,none⟩) hbW (by simp)).trans f4;have qc3:(W0.alloc (.cells CO 3)).cell? ⟨w3.heap.size+1,3,none⟩=some (.slice none 0 0):=(Bj.cell (F:=[]) ((Bj.refl [] _).alloc _) (p:=⟨w3.heap.size+1,3,none⟩) hbW (by simp)).trans b3;have gc3:(W0.alloc (.cells CO 3)).frozen? ⟨w3.heap.size+1,3,none⟩=false:=(Bj.frozen (F:=[]) ((Bj.refl [] _).alloc _) (p:=⟨w3.heap.size+1,3,none⟩) hbW (by simp)).trans f3;have qc4:(W0.alloc (.cells CO 3)).cell? ⟨w3.heap.size+1,4,none⟩=some (.slice none 0 0):=(Bj.cell (F:=[]) ((Bj.refl [] _).alloc _) (p:=⟨w3.heap.size+1,4,none⟩) hbW (by simp)).trans b4;have gc4:(W0.alloc (.cells CO 3)).frozen? ⟨w3.heap.size+1,4,none⟩=false:=(Bj.frozen (F:=[]) ((Bj.refl [] _).alloc _) (p:=⟨w3.heap.size+1,4,none⟩) hbW (by simp)).trans f4;have hsz3:(W0.setCell ⟨w3.heap.size+1,3,none⟩ (.slice (some ⟨W0.heap.size,0,none⟩) N N)).heap.size=W0.heap.size:=by simp [World.setCell]
    have qd4:(((W0.setCell ⟨w3.heap.size+1,3,none⟩ (.slice (some ⟨W0.heap.size,0,none⟩) N N)).alloc (.cells CO 3)).alloc (.cells CP 236)).cell? ⟨w3.heap.size+1,4,none⟩=some (.slice none 0 0):=by
     rw [World.cell?_alloc_past _ _ _ (by rw [World.size_alloc,hsz3];show w3.heap.size+1<_;omega),World.cell?_alloc_past _ _ _ (by rw [hsz3];exact hbW),World.cell?_setCell_other _ _ _ _ (by simp)];exact b4
    have gd4:(((W0.setCell ⟨w3.heap.size+1,3,none⟩ (.slice (some ⟨W0.heap.size,0,none⟩) N N)).alloc (.cells CO 3)).alloc (.cells CP 236)).frozen? ⟨w3.heap.size+1,4,none⟩=false:=by
     rw [World.frozen?_alloc_past _ _ _ (by rw [World.size_alloc,hsz3];show w3.heap.size+1<_;omega),World.frozen?_alloc_past _ _ _ (by rw [hsz3];exact hbW),World.frozen?_setCell];exact f4
    clear hsz3;have HW:=Au hW Y9 hWq hWs;have ZX:=Ap hCO hCP;clear hW Y9 hWq hWs hCO hCP hNb;refine Bo.start [14,15,16,17,18,19] (λw'=>w'.cell? ⟨w3.heap.size+1,2,none⟩=some (.slice An N Cn)) (by kernel_rfl) ?_ λhS=>?_
    ·exact s2
    refine' Bo.mx 0 47 ?_
    refine' Bo.mx 1 48 ?_
    refine' Bo.mx 2 49 ?_
    refine' Bo.mx 3 50 ?_
    refine' Bo.mx 4 51 ?_
    refine' Bo.ty 1 5 52 ?_
    refine' Bo.mx 6 53 ?_
    refine' Bo.mx 8 55 ?_
    refine' Bo.mx 9 56 ?_
    refine' Bo.mx 10 57 ?_
    refine' Bo.ty 1 11 58 ?_
    refine' Bo.mx 12 59 ?_
    refine Bo.pair (i:=7) (o:=⟨some 54,_,_,_,_,_⟩) (k:=13) (o':=⟨some 60,_,_,_,_,_⟩) rfl rfl (by kernel_rfl) (λK hK=>?_) (λK hK=>?_)
    ·skip
     go_simp
     refine hK.out _ _ (λ_ h=>?_) ?_
     ·exact ((Bj.refl [] _).alloc _).cell (p:=⟨w3.heap.size+1,2,none⟩) (World.block_lt_of_cell? _ _ h) (by simp) |>.trans h
     clear hK K;try simp only [Act.put,sA,sZ,sS]
     refine' Bo.mx 14 61 ?_
     refine' Bo.mx 15 62 ?_
     refine Bo.pair (i:=13) (o:=⟨some 60,_,_,_,_,_⟩) (k:=16) (o':=⟨none,_,_,_,_,_⟩) rfl rfl (by kernel_rfl) (λK hK=>?_) (λK hK=>?_)
     ·skip
      go_simp
      refine hK.out _ _ (λ_ h=>?_) ?_
      ·exact ((Bj.refl [] _).alloc _).cell (p:=⟨w3.heap.size+1,2,none⟩) (World.block_lt_of_cell? _ _ h) (by simp) |>.trans h
      clear hK K;try simp only [Act.put,sA,sZ,sS]
      refine Bo.one (i:=16) (o:=⟨none,_,_,_,_,_⟩) rfl (by kernel_rfl) λK hK=>?_
      go_simp
      refine hK.out _ _ (λh=>(by cases h)) ?_
      clear hK K;try simp only [Act.put,sA,sZ,sS]
      refine' Bo.mx 17 63 ?_
      refine' Bo.mx 18 64 ?_
      refine Bo.one (i:=19) (o:=⟨none,_,_,_,_,_⟩) rfl (by kernel_rfl) λK hK=>?_
      go_simp
      refine hK.out _ _ (λh=>(by cases h)) ?_
      clear hK K;try simp only [Act.put,sA,sZ,sS]
      refine Bo.done (by kernel_rfl) ?_
      go_wp2_with fail
      go_ret2
      have hNb:N<1000000:=by have h1:=Je.out;have h2:=DY n;have h3:=HL.out;have h4:=HN.out;omega
      have hE:=a5T hNb HW.2.1;rw [ZX.1,ZX.2] at hE;have Za:=HNR.out;rw [Je.out] at Za;exact newEnd HN.out HR.out Je.out HU.out.size hz1 cO HMR.out Ej.out Za EJ.out HW.1 HW.2.2.1 HW.2.2.2 hE
     ·skip
      go_simp
      refine hK.out _ _ (λh=>(by cases h)) ?_
      clear hK K;try simp only [Act.put,sA,sZ,sS]
      refine Bo.one (i:=13) (o:=⟨some 60,_,_,_,_,_⟩) rfl (by kernel_rfl) λK hK=>?_
      go_simp
      refine hK.out _ _ (λ_ h=>?_) ?_
      ·exact ((Bj.refl [] _).alloc _).cell (p:=⟨w3.heap.size+1,2,none⟩) (World.block_lt_of_cell? _ _ h) (by simp) |>.trans h
      clear hK K;try simp only [Act.put,sA,sZ,sS]
      refine' Bo.mx 17 63 ?_
      refine' Bo.mx 18 64 ?_
      refine Bo.one (i:=19) (o:=⟨none,_,_,_,_,_⟩) rfl (by kernel_rfl) λK hK=>?_
      go_simp
      refine hK.out _ _ (λh=>(by cases h)) ?_
      clear hK K;try simp only [Act.put,sA,sZ,sS]
      refine Bo.done (by kernel_rfl) ?_
      go_wp2_with fail
      go_ret2
      have hNb:N<1000000:=by have h1:=Je.out;have h2:=DY n;have h3:=HL.out;have h4:=HN.out;omega
      have hE:=a5V hNb HW.2.1;rw [ZX.1,ZX.2] at hE;have Za:=HNR.out;rw [Je.out] at Za;exact newEnd HN.out HR.out Je.out HU.out.size hz1 cO HMR.out Ej.out Za EJ.out HW.1 HW.2.2.1 HW.2.2.2 hE
    ·skip
     go_simp
     refine hK.out _ _ (λ_ h=>?_) ?_
     ·exact ((Bj.refl [] _).alloc _).cell (p:=⟨w3.heap.size+1,2,none⟩) (World.block_lt_of_cell? _ _ h) (by simp) |>.trans h
     clear hK K;try simp only [Act.put,sA,sZ,sS]
     refine Bo.one (i:=7) (o:=⟨some 54,_,_,_,_,_⟩) rfl (by kernel_rfl) λK hK=>?_
     go_simp
     refine hK.out _ _ (λ_ h=>?_) ?_
     ·exact ((Bj.refl [] _).alloc _).cell (p:=⟨w3.heap.size+1,2,none⟩) (World.block_lt_of_cell? _ _ h) (by simp) |>.trans h
     clear hK K;try simp only [Act.put,sA,sZ,sS]
     refine' Bo.mx 14 61 ?_
     refine' Bo.mx 15 62 ?_
     refine Bo.one (i:=16) (o:=⟨none,_,_,_,_,_⟩) rfl (by kernel_rfl) λK hK=>?_
     go_simp
     refine hK.out _ _ (λh=>(by cases h)) ?_
     clear hK K;try simp only [Act.put,sA,sZ,sS]
     refine' Bo.mx 17 63 ?_
     refine' Bo.mx 18 64 ?_
     refine Bo.one (i:=19) (o:=⟨none,_,_,_,_,_⟩) rfl (by kernel_rfl) λK hK=>?_
     go_simp
     refine hK.out _ _ (λh=>(by cases h)) ?_
     clear hK K;try simp only [Act.put,sA,sZ,sS]
     refine Bo.done (by kernel_rfl) ?_
     go_wp2_with fail
     go_ret2
     have hNb:N<1000000:=by have h1:=Je.out;have h2:=DY n;have h3:=HL.out;have h4:=HN.out;omega
     have hE:=a5U hNb HW.2.1;rw [ZX.1,ZX.2] at hE;have Za:=HNR.out;rw [Je.out] at Za;exact newEnd HN.out HR.out Je.out HU.out.size hz1 cO HMR.out Ej.out Za EJ.out HW.1 HW.2.2.1 HW.2.2.2 hE
