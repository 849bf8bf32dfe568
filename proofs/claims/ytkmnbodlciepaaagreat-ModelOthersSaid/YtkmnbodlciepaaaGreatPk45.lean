/- cover.place, cover.span. A cover: what it holds; Add, Drop. cover.Add, cover.Drop. cover.Drop; what is known of all. -/
import Derived.Deep.QuietTactic
import Derived.WalkSpells
import Derived.Test.YtkmnbodlciepaaaGreatPk44
set_option maxHeartbeats 2000000
set_option maxRecDepth 100000
namespace Go.Proofs.YtkmnbodlciepaaaGreat
open Go.RowKit
theorem MarksOk.le {M:List Int} (h:MarksOk M):M.Pairwise (·≤·):=h.rise.imp fun h=>Int.le_of_lt h
theorem mem_below {M:List Int} (h:M.Pairwise (· < ·)) (x:Int):x∈M↔M[below M x]? = some x:=by
 constructor
 ·intro hx
  obtain ⟨i,hi⟩:=List.mem_iff_getElem?.1 hx
  have hat:=below_at (h.imp fun h=>Int.le_of_lt h) x
  have h1:i≤below M x∨below M x<i:=by omega
  have h2:=hat i x hi
  have h3:¬i<below M x:=fun hc=>by have:=h2.2 hc;omega
  rcases Nat.lt_or_ge (below M x) i with h4 | h4
  ·have hil:=(List.getElem?_eq_some_iff.1 hi).1
   have hb:M[below M x]? = some (M[below M x]'(by omega)):=List.getElem?_eq_getElem _
   have h5:=hat (below M x) _ hb
   have h6:=List.pairwise_iff_getElem.1 h (below M x) i (by omega) hil h4
   have h7:=(List.getElem?_eq_some_iff.1 hi).2
   rw [h7] at h6
   have:=h5.1 h6
   omega
  ·have:i=below M x:=by omega
   rw [←this];exact hi
 ·intro hx
  exact List.mem_of_getElem? hx
theorem isB_true {M:List Int} {x:Int} (h:x∈M):decide (x∈M)=true:=decide_eq_true h
theorem placeC (b:Nat) (mv nv ov pv:Value) (hb:Nat) (M:List Int) (L:List Nd) (O:List Int) (P:List Part) (root en:Int) (w:World) (x:Int) (h:CovM w b mv nv ov pv hb M L O P root en) (hM:MarksOk M) :
 Calls Tryz.prog 136 #[.pointer (some ⟨b,0,none⟩),.int .i64 x] w fun e w'=>e=.returned (.tuple #[.int .i64 (below M x:Nat),.bool (decide (x∈M))])∧Upd [] w w':=by
 have hf:=firstC mv M x w hM.le (See.of_row h.marks) (by have:=hM.len;omega)
 have hmem:=mem_below hM.rise x
 have hbl:=below_le M x
 have c0:=h.cells.1
 obtain ⟨Am,Cm,rfl⟩:=own_form h.marks
 have HF:=Lib.hid hf
 have H:=Lib.hid h
 have HME:=Lib.hid hmem
 have b0:(0:Int)≤((below M x:Nat):Int):=Int.natCast_nonneg _
 obtain ⟨p,hp⟩:∃p,below M x=p:=⟨_,rfl⟩
 rw [hp] at HF HME hbl b0 ⊢
 have HLN:=Lib.hid hM.len
 have HBL:=Lib.hid hbl
 clear hf h hmem hp hbl hM
 go_enter Tryz.func136,Tryz.ntmps136
 go_wp2_with fail
 (with_reducible refine HF.out.mono ?_)
 rintro e w1 ⟨⟨k,rfl,hk⟩,hu⟩
 have HU:=Lib.hid hu
 have h1:=H.out.upd0 hu
 have d0:=h1.cells.1
 have H1:=Lib.hid h1
 clear hu hk h1 c0
 by_cases hlt:p<M.length
 ·obtain ⟨y,hy⟩:∃y,M[p]? = some y:=⟨_,List.getElem?_eq_getElem hlt⟩
  obtain ⟨gm,Cm',hmm,em,-⟩:=row_at H1.out.marks hy
  cases hmm
  have m0:w1.cell? ⟨gm,p,none⟩=some (.int .i64 y):=by
   have:=em 0 _ rfl
   simpa [KL] using this
  have b1:(p:Int)<(M.length:Int):=by omega
  have HY:=Lib.hid hy
  clear hy em
  by_cases hyx:y=x
  ·have hin:x∈M:=HME.out.2 (by rw [HY.out,hyx])
   have HIN:=Lib.hid (isB_true hin)
   have hd:(y==x)=true:=by simp [hyx]
   clear hyx hin
   go_wp2_with fail
   go_quiet (fail)
   go_wp2_with fail
   go_ret2
   exact ⟨by rw [HIN.out];rfl,HU.out.drewN _⟩
  ·have hin:decide (x∈M)=false:=decide_eq_false (fun hc=>hyx (by have:=HME.out.1 hc;rw [HY.out] at this;exact Option.some.inj this))
   have HIN:=Lib.hid hin
   have hd:(y==x)=false:=by simp [hyx]
   clear hyx hin
   go_wp2_with fail
   go_quiet (fail)
   go_wp2_with fail
   go_ret2
   exact ⟨by rw [HIN.out];rfl,HU.out.drewN _⟩
 ·have hin:decide (x∈M)=false:=decide_eq_false (fun hc=>by have:=(List.getElem?_eq_some_iff.1 (HME.out.1 hc)).1;omega)
  have HIN:=Lib.hid hin
  have hd:decide ((p:Int)<(M.length:Int))=false:=decide_eq_false (by omega)
  have hd2:decide (p<M.length)=false:=decide_eq_false hlt
  clear hin
  go_wp2_with fail
  go_quiet (fail)
  go_wp2_with fail
  go_ret2
  exact ⟨by rw [HIN.out];rfl,HU.out.drewN _⟩
def spanOk (M:List Int) (lo hi:Int):Bool:=decide (lo∈M)&&decide (hi∈M)&&decide (below M lo≤below M hi)
def SpanPost (M:List Int) (lo hi:Int) (w:World) (e:Ending) (w':World):Prop:=
 e=.returned (.tuple #[.agg #[.int .i64 (below M lo:Nat),.int .i64 (below M hi:Nat)],.bool (spanOk M lo hi)])∧Upd [] w w'
theorem spanC (b:Nat) (mv nv ov pv:Value) (hb:Nat) (M:List Int) (L:List Nd) (O:List Int) (P:List Part) (root en:Int) (w:World) (lo hi:Int) (h:CovM w b mv nv ov pv hb M L O P root en) (hM:MarksOk M) :
 Calls Tryz.prog 101 #[.pointer (some ⟨b,0,none⟩),.int .i64 lo,.int .i64 hi] w (SpanPost M lo hi w):=by
 have hu0:Upd [] w (w.alloc (.cells #[.int .i64 0,.int .i64 0] 152)):=(Upd.refl _ _).alloc _
 have hp1:=placeC b mv nv ov pv hb M L O P root en _ lo (h.upd0 hu0) hM
 have hp2:=fun w1 (hu:Upd [] w w1)=>placeC b mv nv ov pv hb M L O P root en w1 hi (h.upd0 hu) hM
 have hr0:(w.alloc (.cells #[.int .i64 0,.int .i64 0] 152)).heap[w.heap.size]? = some (.cells #[.int .i64 0,.int .i64 0] 152 (0,0)):=heap_alloc_new w _
 unfold SpanPost spanOk
 obtain ⟨p,hp⟩:∃p,below M lo=p:=⟨_,rfl⟩
 obtain ⟨q,hq⟩:∃q,below M hi=q:=⟨_,rfl⟩
 obtain ⟨b1,hb1⟩:∃b1,decide (lo∈M)=b1:=⟨_,rfl⟩
 obtain ⟨b2,hb2⟩:∃b2,decide (hi∈M)=b2:=⟨_,rfl⟩
 obtain ⟨b3,hb3⟩:∃b3,decide (p≤q)=b3:=⟨_,rfl⟩
 rw [hp,hb1] at hp1 ⊢
 rw [hq,hb2] at hp2 ⊢
 rw [hb3]
 have H1:=Lib.hid hp1
 have H2:=Lib.hid hp2
 have HU0:=Lib.hid hu0
 have HR0:=Lib.hid hr0
 have HN:=Lib.hid (show w.heap.size<(w.alloc (.cells #[.int .i64 0,.int .i64 0] 152)).heap.size by simp)
 have bp:(0:Int)≤(p:Int):=Int.natCast_nonneg _
 have bq:(0:Int)≤(q:Int):=Int.natCast_nonneg _
 clear hp1 hp2 hu0 hr0 h hM hp hq hb1 hb2
 go_enter Tryz.func101,Tryz.ntmps101
 go_wp2_with fail
 (with_reducible refine H1.out.mono ?_)
 rintro e w1 ⟨rfl,hu1⟩
 have HH2:=Lib.hid (H2.out w1 (HU0.out.trans hu1))
 have HU1:=Lib.hid hu1
 clear hu1
 go_wp2_with fail
 (with_reducible refine HH2.out.mono ?_)
 rintro e w2 ⟨rfl,hu2⟩
 have hh:=(hu2.block w.heap.size (Nat.lt_of_lt_of_le HN.out HU1.out.size) (by simp)).trans ((HU1.out.block w.heap.size HN.out (by simp)).trans HR0.out)
 have e0:w2.cell? ⟨w.heap.size,0,none⟩=some (.int .i64 0):=by simp [World.cell?,hh]
 have e1:w2.cell? ⟨w.heap.size,1,none⟩=some (.int .i64 0):=by simp [World.cell?,hh]
 have f0:w2.frozen? ⟨w.heap.size,0,none⟩=false:=by simp [World.frozen?,hh]
 have f1:w2.frozen? ⟨w.heap.size,1,none⟩=false:=by simp [World.frozen?,hh]
 have HU2:=Lib.hid ((((HU0.out.trans HU1.out).trans hu2).setCell (p:=⟨w.heap.size,0,none⟩) (.inr (Nat.le_refl _)) (.int .i64 (p:Int))).setCell (p:=⟨w.heap.size,1,none⟩) (.inr (Nat.le_refl _)) (.int .i64 (q:Int)))
 clear hh hu2
 cases b1
 ·go_wp2_with fail
  refine bodyPost_ret (v:=.tuple #[.agg #[.int .i64 (p:Int),.int .i64 (q:Int)],.bool false]) (by simp [results,Tryz.results101,go_sem,e0,e1]) rfl ⟨rfl,HU2.out⟩
 ·cases b2
  ·go_wp2_with fail
   refine bodyPost_ret (v:=.tuple #[.agg #[.int .i64 (p:Int),.int .i64 (q:Int)],.bool false]) (by simp [results,Tryz.results101,go_sem,e0,e1]) rfl ⟨rfl,HU2.out⟩
  ·go_wp2_with fail
   refine bodyPost_ret (v:=.tuple #[.agg #[.int .i64 (p:Int),.int .i64 (q:Int)],.bool b3]) (by simp [results,Tryz.results101,go_sem,e0,e1]) rfl ⟨rfl,HU2.out⟩
def IsCov (w:World) (b:Nat) (F:List Nat) (M:List Int) (H:List (Nat×Nat)) (N:Nat):Prop:=
 ∃mv nv ov pv hb en,F=b::hb::(blk mv++(blk nv++(blk ov++blk pv)))∧CovM w b mv nv ov pv hb M (nodesN (M.length - 1)) (oN (cntH H) (M.length - 1)) (pN (cntH H) M (M.length - 1)) (rootI (M.length - 1)) en∧HeldAt w hb N (fun s=>(H.count s:Int))
theorem IsCov.upd {w w':World} {b:Nat} {F:List Nat} {M:List Int} {H:List (Nat×Nat)} {N:Nat} (h:IsCov w b F M H N) {G:List Nat} (hu:Upd G w w') (hd:∀y∈F,y∉G):IsCov w' b F M H N:=by
 obtain ⟨mv,nv,ov,pv,hb,en,rfl,h1,h2⟩:=h
 exact ⟨mv,nv,ov,pv,hb,en,rfl,h1.upd hu (hd b (by simp)) (fun y hy=>hd y (by simp [hy])) (fun y hy=>hd y (by simp [hy])) (fun y hy=>hd y (by simp [hy])) (fun y hy=>hd y (by simp [hy])),h2.upd hu (hd hb (by simp))⟩
theorem IsCov.upd0 {w w':World} {b:Nat} {F:List Nat} {M:List Int} {H:List (Nat×Nat)} {N:Nat} (h:IsCov w b F M H N) (hu:Upd [] w w'):IsCov w' b F M H N:=h.upd hu (by simp)
theorem IsCov.lt {w:World} {b:Nat} {F:List Nat} {M:List Int} {H:List (Nat×Nat)} {N:Nat} (h:IsCov w b F M H N):∀y∈F,y<w.heap.size:=by
 obtain ⟨mv,nv,ov,pv,hb,en,rfl,h1,h2⟩:=h
 intro y hy
 simp only [List.mem_cons,List.mem_append] at hy
 rcases hy with rfl | rfl | hy | hy | hy | hy
 ·exact lt_of_block h1.head
 ·exact h2.lt
 ·exact own_lt h1.marks y hy
 ·exact own_lt h1.nodes y hy
 ·exact own_lt h1.often y hy
 ·exact own_lt h1.parts y hy
def HOkC (M:List Int) (H:List (Nat×Nat)):Prop:=∀s∈H,s.1≤s.2∧s.2<M.length
theorem nodesN_at (n:Nat) (h:n≠0):NodesAt (nodesN n) 0 n 0:=⟨[],[],by unfold nodesN;rw [if_neg h];simp,rfl⟩
theorem lg_small {n:Nat} (h:n<1000000):lg n≤20:=bitsN_le (n - 1) 20 (by omega)
theorem same_empty {c c':Cnt} {s:Nat×Nat} {y:Int} (h:Step c c' s y) (he:s.1=s.2) {f t:Nat} (pf pt:Nat) (hf:f<t):SameOn c c' f t pf pt:=by
 have hz:∀f' t' pf' pt',f'<t'→can s f' t' pf' pt'=0:=fun f' t' pf' pt' hlt=>by unfold can;rw [if_neg (by omega)]
 exact ⟨by rw [h,hz _ _ _ _ hf];omega,fun f' t' pf' pt' _ a2 _ _ _=>by rw [h,hz _ _ _ _ a2];omega⟩
theorem cntH_le (H:List (Nat×Nat)) (f t pf pt:Nat):cntH H f t pf pt≤H.length:=by
 induction H with
 |nil=>simp [cntH]
 |cons s H ih=>
  rw [cntH_cons,List.length_cons]
  have:can s f t pf pt≤1:=by unfold can;split<;>simp
  omega
def MvPost (w:World) (b:Nat) (F:List Nat) (M:List Int) (H:List (Nat×Nat)) (N k:Nat) (e:Ending) (w':World):Prop:=
 e=.returned (.int .i64 (k:Int))∧IsCov w' b F M H N∧Upd F w w'
theorem moveC (b:Nat) (F:List Nat) (M:List Int) (H H':List (Nat×Nat)) (N:Nat) (w:World) (s:Nat×Nat) (y:Int) (h:IsCov w b F M H N) (hM:MarksOk M) (hN:N<1000000) (hH:H.length≤1000000) (hs:s.1≤s.2∧s.2<M.length)
 (hst:Step (cntH H) (cntH H') s y) (hct:∀u,(H'.count u:Int)=if u=s then (H.count s:Int)+y else (H.count u:Int)) (hy0 : -1≤y) (hy1:y≤1) :
 Calls Tryz.prog 102 #[.pointer (some ⟨b,0,none⟩),.agg #[.int .i64 (s.1:Int),.int .i64 (s.2:Int)],.int .i64 y] w (MvPost w b F M H' (N+1) (entN s (M.length - 1))):=by
 obtain ⟨mv,nv,ov,pv,hb,en,rfl,h1,h2⟩:=h
 obtain ⟨s1,s2⟩:=s
 dsimp only at hs ⊢
 have hl:=hM.len
 have hcl:=List.count_le_length (a:=(s1,s2)) (l:=H)
 obtain ⟨n,hn⟩:∃n,M.length - 1=n:=⟨_,rfl⟩
 rw [hn] at h1 ⊢
 have hmv:=moveHeld b mv nv ov pv hb N M (nodesN n) (oN (cntH H) n) (oN (cntH H') n) (pN (cntH H) M n) (pN (cntH H') M n) (rootI n) en w _ s1 s2 y (entN (s1,s2) n) h1 h2 hN (by omega) (by omega) hy0 hy1 (by omega) (by omega)
  (fun w2 hw2 hne=>by
   have hn0:n≠0:=by omega
   have hep:=ent_any (a:=s1) (b:=s2) n 0 n (by omega)
   have hlg:=lg_small (n:=n) (by omega)
   have e1:entN (s1,s2) n=ent s1 s2 0 n:=by unfold entN;rw [if_neg hne]
   have e2:rootI n=((0+2*(n - 0) - 2:Nat):Int):=by unfold rootI;rw [if_neg hn0];omega
   unfold oN pN at hw2 ⊢
   rw [if_neg hn0,if_neg hn0] at hw2
   rw [if_neg hn0,if_neg hn0,e1]
   have:=chgCov b mv nv ov pv hb M (nodesN n) (rootI n) (cntH H) (cntH H') s1 s2 y hM hst hy0 hy1 (fun f t pf pt=>⟨cntH_nonneg _ _ _ _ _,by have:=cntH_le H f t pf pt;omega⟩)
    n 0 n 0 (n+1) 0 [] [] [] [] 0 w2 (by omega) (by omega) (by omega) rfl rfl (nodesN_at n hn0) (by omega) (by omega) (by rw [Nat.sub_zero] at hep;omega) (by simpa using hw2)
   rw [←e2] at this
   simpa using this)
  (fun he=>by
   refine ⟨by unfold entN;rw [if_pos he],?_,?_⟩
   ·unfold oN
    by_cases hn0:n=0
    ·rw [if_pos hn0,if_pos hn0]
    ·rw [if_neg hn0,if_neg hn0,oL_same (by omega) (same_empty hst he 0 (n+1) (by omega))]
   ·unfold pN
    by_cases hn0:n=0
    ·rw [if_pos hn0,if_pos hn0]
    ·rw [if_neg hn0,if_neg hn0,pL_same (by omega) (same_empty hst he 0 (n+1) (by omega))])
 refine hmv.mono ?_
 rintro e w' ⟨rfl,⟨en',g1⟩,g2,g3⟩
 refine ⟨rfl,⟨mv,nv,ov,pv,hb,en',rfl,by rw [hn];exact g1,?_⟩,g3.mono fun x hx=>?_⟩
 ·have e:(fun s=>(H'.count s:Int))=fun u=>if u=(s1,s2) then (H.count (s1,s2):Int)+y else (H.count u:Int):=funext hct
  rw [e];exact g2
 ·simp only [covF,List.mem_cons,List.mem_append] at hx
  refine .inl ?_
  simp only [List.mem_cons,List.mem_append]
  rcases hx with rfl | rfl | hx | hx<;>simp [*]
theorem IsCov.cell5 {w:World} {b:Nat} {F:List Nat} {M:List Int} {H:List (Nat×Nat)} {N:Nat} (h:IsCov w b F M H N):∃hb,w.cell? ⟨b,5,none⟩=some (.map (some hb))∧HeldAt w hb N (fun s=>(H.count s:Int)):=by
 obtain ⟨mv,nv,ov,pv,hb,en,rfl,h1,h2⟩:=h
 exact ⟨hb,h1.cells.2.2.2.2.2.1,h2⟩
theorem covNone (b:Nat) (F:List Nat) (M:List Int) (H:List (Nat×Nat)) (N:Nat) (w:World) (h:IsCov w b F M H N) :
 Calls Tryz.prog 100 #[.pointer (some ⟨b,0,none⟩)] w fun e w'=>e=.returned (.bool false)∧w=w':=by
 obtain ⟨hb,c5,-⟩:=h.cell5
 have hmn:∀(w:World),(binOp .eql 148 (.map (some hb)) (.map none)).run Tryz.prog w=.ok (.bool false) w:=fun w=>run_eql_map_nil (P:=Tryz.prog) w 148 152 3 (some hb) Tryz.underlying148
 clear h
 go_enter Tryz.func100,Tryz.ntmps100
 go_wp2_with fail
 go_ret
 exact ⟨rfl,rfl⟩
def spanP (M:List Int) (lo hi:Int):Nat×Nat:=(below M lo,below M hi)
theorem spanOk_in {M:List Int} {lo hi:Int} (hM:MarksOk M) (h:spanOk M lo hi=true):(spanP M lo hi).1≤(spanP M lo hi).2∧(spanP M lo hi).2<M.length:=by
 unfold spanOk at h
 simp only [Bool.and_eq_true,decide_eq_true_eq] at h
 have:=(List.getElem?_eq_some_iff.1 ((mem_below hM.rise hi).1 h.1.2)).1
 exact ⟨h.2,this⟩
def addH (M:List Int) (H:List (Nat×Nat)) (lo hi:Int):List (Nat×Nat):=if spanOk M lo hi=true then spanP M lo hi::H else H
def addK (M:List Int) (lo hi:Int):Nat:=if spanOk M lo hi=true then entN (spanP M lo hi) (M.length - 1) else 0
def addX (M:List Int) (lo hi:Int):Int:=if spanOk M lo hi=true then 0 else 2
def dropH (M:List Int) (H:List (Nat×Nat)) (lo hi:Int):List (Nat×Nat):=if spanOk M lo hi=true then H.erase (spanP M lo hi) else H
def dropK (M:List Int) (H:List (Nat×Nat)) (lo hi:Int):Nat:=if spanOk M lo hi=true then (if spanP M lo hi∈H then entN (spanP M lo hi) (M.length - 1) else 0) else 0
def dropX (M:List Int) (H:List (Nat×Nat)) (lo hi:Int):Int:=if spanOk M lo hi=true then (if spanP M lo hi∈H then 0 else 160) else 2
def AdPost (w:World) (b:Nat) (F:List Nat) (M:List Int) (H:List (Nat×Nat)) (N k:Nat) (x:Int) (e:Ending) (w':World):Prop:=
 e=.returned (.tuple #[.int .i64 (k:Int),.int .i64 x])∧(∃N',N'≤N+1∧IsCov w' b F M H N')∧Upd F w w'
theorem add_hok {M:List Int} {H:List (Nat×Nat)} {lo hi:Int} (hM:MarksOk M) (h:HOkC M H):HOkC M (addH M H lo hi):=by
 unfold addH
 split
 ·rename_i hs
  intro s hs'
  rcases List.mem_cons.1 hs' with rfl | hs'
  ·exact spanOk_in hM hs
  ·exact h s hs'
 ·exact h
theorem drop_hok {M:List Int} {H:List (Nat×Nat)} {lo hi:Int} (h:HOkC M H):HOkC M (dropH M H lo hi):=by
 unfold dropH
 split
 ·exact fun s hs=>h s (List.mem_of_mem_erase hs)
 ·exact h
theorem addC (b:Nat) (F:List Nat) (M:List Int) (H:List (Nat×Nat)) (N:Nat) (w:World) (lo hi:Int) (h:IsCov w b F M H N) (hM:MarksOk M) (hN:N<1000000) (hH:H.length≤1000000) :
 Calls Tryz.prog 42 #[.pointer (some ⟨b,0,none⟩),.int .i64 lo,.int .i64 hi] w (AdPost w b F M (addH M H lo hi) N (addK M lo hi) (addX M lo hi)):=by
 have hnn:=covNone b F M H N w h
 have hsp:Calls Tryz.prog 101 #[.pointer (some ⟨b,0,none⟩),.int .i64 lo,.int .i64 hi] w (SpanPost M lo hi w):=by
  obtain ⟨mv,nv,ov,pv,hb,en,rfl,h1,h2⟩:=h
  exact spanC b mv nv ov pv hb M _ _ _ _ en w lo hi h1 hM
 have HN:=Lib.hid hnn
 unfold SpanPost at hsp
 by_cases hok:spanOk M lo hi=true
 ·have hin:=spanOk_in hM hok
  have hmv:=fun w1 (hu:Upd [] w w1)=>moveC b F M H (spanP M lo hi::H) N w1 (spanP M lo hi) 1 (h.upd0 hu) hM hN hH hin (fun f t pf pt=>by rw [cntH_cons];omega) (fun u=>by
   rw [List.count_cons]
   by_cases hu:u=spanP M lo hi
   ·rw [if_pos hu,hu];simp
   ·rw [if_neg hu,if_neg (by simpa using Ne.symm hu)];simp) (by omega) (by omega)
  have e1:addH M H lo hi=spanP M lo hi::H:=by unfold addH;rw [if_pos hok]
  have e2:addK M lo hi=entN (spanP M lo hi) (M.length - 1):=by unfold addK;rw [if_pos hok]
  have e3:addX M lo hi=0:=by unfold addX;rw [if_pos hok]
  rw [e1,e2,e3]
  rw [hok] at hsp
  unfold spanP at hmv ⊢
  obtain ⟨p,hp⟩:∃p,below M lo=p:=⟨_,rfl⟩
  obtain ⟨q,hq⟩:∃q,below M hi=q:=⟨_,rfl⟩
  rw [hp,hq] at hsp hmv ⊢
  dsimp only at hmv
  obtain ⟨K,hK⟩:∃K,entN (p,q) (M.length - 1)=K:=⟨_,rfl⟩
  rw [hK] at hmv ⊢
  have HS:=Lib.hid hsp
  have HM:=Lib.hid hmv
  clear hnn hsp hmv hok hin e1 e2 e3 hp hq hK h hM
  go_enter Tryz.func42,Tryz.ntmps42
  go_wp2_with fail
  (with_reducible refine HN.out.mono ?_)
  rintro e w' ⟨rfl,rfl⟩
  go_wp2_with fail
  (with_reducible refine HS.out.mono ?_)
  rintro e w1 ⟨rfl,hu1⟩
  have hu2:Upd [] w (w1.alloc (.cells #[.int .i64 (p:Int),.int .i64 (q:Int)] 152)):=hu1.alloc _
  have HM2:=Lib.hid (HM.out _ hu2)
  have HU2:=Lib.hid hu2
  clear hu1 hu2
  go_wp2_with fail
  (with_reducible refine HM2.out.mono ?_)
  rintro e w2 ⟨rfl,g1,g2⟩
  have HG:=Lib.hid (And.intro g1 g2)
  clear g1 g2
  go_wp2_with fail
  go_ret2
  exact ⟨rfl,⟨N+1,Nat.le_refl _,HG.out.1⟩,(HU2.out.mono (by simp)).trans HG.out.2⟩
 ·have e1:addH M H lo hi=H:=by unfold addH;rw [if_neg hok]
  have e2:addK M lo hi=0:=by unfold addK;rw [if_neg hok]
  have e3:addX M lo hi=2:=by unfold addX;rw [if_neg hok]
  have hokf:spanOk M lo hi=false:=by simpa using hok
  rw [e1,e2,e3]
  rw [hokf] at hsp
  obtain ⟨p,hp⟩:∃p,below M lo=p:=⟨_,rfl⟩
  obtain ⟨q,hq⟩:∃q,below M hi=q:=⟨_,rfl⟩
  rw [hp,hq] at hsp
  have HS:=Lib.hid hsp
  have HH:=Lib.hid h
  clear hnn hsp hok hokf e1 e2 e3 hp hq h hM
  go_enter Tryz.func42,Tryz.ntmps42
  go_wp2_with fail
  (with_reducible refine HN.out.mono ?_)
  rintro e w' ⟨rfl,rfl⟩
  go_wp2_with fail
  (with_reducible refine HS.out.mono ?_)
  rintro e w1 ⟨rfl,hu1⟩
  have HU1:=Lib.hid hu1
  clear hu1
  go_wp2_with fail
  go_ret2
  exact ⟨rfl,⟨N,Nat.le_succ N,HH.out.upd0 (HU1.out.alloc _)⟩,(HU1.out.alloc _).mono (by simp)⟩
attribute [local go_sem ↓] Go.wp_at_zero Go.wp_at_succ
theorem dropC (b:Nat) (F:List Nat) (M:List Int) (H:List (Nat×Nat)) (N:Nat) (w:World) (lo hi:Int) (h:IsCov w b F M H N) (hM:MarksOk M) (hN:N<1000000) (hH:H.length≤1000000) :
 Calls Tryz.prog 43 #[.pointer (some ⟨b,0,none⟩),.int .i64 lo,.int .i64 hi] w (AdPost w b F M (dropH M H lo hi) N (dropK M H lo hi) (dropX M H lo hi)):=by
 have hnn:=covNone b F M H N w h
 have hsp:Calls Tryz.prog 101 #[.pointer (some ⟨b,0,none⟩),.int .i64 lo,.int .i64 hi] w (SpanPost M lo hi w):=by
  obtain ⟨mv,nv,ov,pv,hb,en,rfl,h1,h2⟩:=h
  exact spanC b mv nv ov pv hb M _ _ _ _ en w lo hi h1 hM
 have HN:=Lib.hid hnn
 unfold SpanPost at hsp
 by_cases hok:spanOk M lo hi=true
 ·have hin:=spanOk_in hM hok
  rw [hok] at hsp
  have hl:=hM.len
  have hlk:∀w1,Upd [] w w1→∃hb,w1.cell? ⟨b,5,none⟩=some (.map (some hb))∧∀n,(Instr.lookup 148 (.map (some hb)) (.agg #[.int .i64 (below M lo:Nat),.int .i64 (below M hi:Nat)]) false).run Tryz.prog (w1.drewN n)=.ok (.int .i64 (H.count (spanP M lo hi):Int)) (w1.drewN n):=fun w1 hu=>by
   obtain ⟨hb,c5,h2⟩:=(h.upd0 hu).cell5
   unfold spanP at hin
   dsimp only at hin
   exact ⟨hb,c5,fun n=>(show HeldAt (w1.drewN n) hb N (fun s=>(H.count s:Int)) from h2).look (spanP M lo hi) (by unfold spanP;dsimp only;omega) (by unfold spanP;dsimp only;omega)⟩
  by_cases hmem:spanP M lo hi∈H
  ·have hcp:0<H.count (spanP M lo hi):=List.count_pos_iff.2 hmem
   have hmv:=fun w1 (hu:Upd [] w w1)=>moveC b F M H (H.erase (spanP M lo hi)) N w1 (spanP M lo hi) (-1) (h.upd0 hu) hM hN hH hin (fun f t pf pt=>by
    rw [cntH_perm (List.perm_cons_erase hmem),cntH_cons];omega) (fun u=>by
    rw [List.count_erase]
    by_cases hu:u=spanP M lo hi
    ·rw [if_pos hu,hu];simp;omega
    ·rw [if_neg hu,if_neg (by simpa using Ne.symm hu)];simp) (by omega) (by omega)
   have e1:dropH M H lo hi=H.erase (spanP M lo hi):=by unfold dropH;rw [if_pos hok]
   have e2:dropK M H lo hi=entN (spanP M lo hi) (M.length - 1):=by unfold dropK;rw [if_pos hok,if_pos hmem]
   have e3:dropX M H lo hi=0:=by unfold dropX;rw [if_pos hok,if_pos hmem]
   rw [e1,e2,e3]
   obtain ⟨ct,hct⟩:∃ct,H.count (spanP M lo hi)=ct:=⟨_,rfl⟩
   rw [hct] at hlk hcp
   have hd:((ct:Int)==0)=false:=by simp;omega
   unfold spanP at hmv ⊢
   obtain ⟨p,hp⟩:∃p,below M lo=p:=⟨_,rfl⟩
   obtain ⟨q,hq⟩:∃q,below M hi=q:=⟨_,rfl⟩
   rw [hp,hq] at hsp hmv hlk ⊢
   dsimp only at hmv
   obtain ⟨K,hK⟩:∃K,entN (p,q) (M.length - 1)=K:=⟨_,rfl⟩
   rw [hK] at hmv ⊢
   obtain ⟨H',hH'⟩:∃H',H.erase (p,q)=H':=⟨_,rfl⟩
   rw [hH'] at hmv ⊢
   have HS:=Lib.hid hsp
   have HM:=Lib.hid hmv
   have HL:=Lib.hid hlk
   clear hnn hsp hmv hok hin e1 e2 e3 hp hq hK h hM hlk hmem hct hcp hl hH'
   go_enter Tryz.func43,Tryz.ntmps43
   go_wp2_with fail
   (with_reducible refine HN.out.mono ?_)
   rintro e w' ⟨rfl,rfl⟩
   go_wp2_with fail
   (with_reducible refine HS.out.mono ?_)
   rintro e w1 ⟨rfl,hu1⟩
   have hu2:Upd [] w (w1.alloc (.cells #[.int .i64 (p:Int),.int .i64 (q:Int)] 152)):=hu1.alloc _
   have x0:(w1.alloc (.cells #[.int .i64 (p:Int),.int .i64 (q:Int)] 152)).cell? ⟨w1.heap.size,0,none⟩=some (.int .i64 (p:Int)):=by rw [World.cell?_alloc_at _ _ _ _ rfl];rfl
   have x1:(w1.alloc (.cells #[.int .i64 (p:Int),.int .i64 (q:Int)] 152)).cell? ⟨w1.heap.size,1,none⟩=some (.int .i64 (q:Int)):=by rw [World.cell?_alloc_at _ _ _ _ rfl];rfl
   have HU2:=Lib.hid hu2
   clear hu1 hu2
   go_upto_region 6 with fail
   generalize (w1.alloc (.cells #[.int .i64 (p:Int),.int .i64 (q:Int)] 152))=W2 at x0 x1 HU2 ⊢
   obtain ⟨hb,c5',lk⟩:=HL.out _ HU2.out
   go_quiet (fail)
   have x0':(W2.drewN nq).cell? ⟨w1.heap.size,0,none⟩=some (.int .i64 (p:Int)):=x0
   have x1':(W2.drewN nq).cell? ⟨w1.heap.size,1,none⟩=some (.int .i64 (q:Int)):=x1
   have HM2:=Lib.hid (HM.out _ (HU2.out.drewN nq))
   have HU3:=Lib.hid (HU2.out.drewN nq)
   clear lk c5' x0 x1 HL
   generalize W2.drewN nq=W3 at x0' x1' HM2 HU3 ⊢
   go_wp2_with fail
   (with_reducible refine HM2.out.mono ?_)
   rintro e w2 ⟨rfl,g1,g2⟩
   have HG:=Lib.hid (And.intro g1 g2)
   clear g1 g2
   go_wp2_with fail
   go_ret2
   exact ⟨rfl,⟨N+1,Nat.le_refl _,HG.out.1⟩,(HU3.out.mono (by simp)).trans HG.out.2⟩
  ·have hcp:H.count (spanP M lo hi)=0:=List.count_eq_zero.2 hmem
   have e1:dropH M H lo hi=H:=by unfold dropH;rw [if_pos hok,List.erase_of_not_mem hmem]
   have e2:dropK M H lo hi=0:=by unfold dropK;rw [if_pos hok,if_neg hmem]
   have e3:dropX M H lo hi=160:=by unfold dropX;rw [if_pos hok,if_neg hmem]
   rw [e1,e2,e3]
   rw [hcp] at hlk
   obtain ⟨p,hp⟩:∃p,below M lo=p:=⟨_,rfl⟩
   obtain ⟨q,hq⟩:∃q,below M hi=q:=⟨_,rfl⟩
   rw [hp,hq] at hsp hlk
   have HS:=Lib.hid hsp
   have HL:=Lib.hid hlk
   have HH:=Lib.hid h
   clear hnn hsp hok hin e1 e2 e3 hp hq h hM hlk hmem hcp hl
   go_enter Tryz.func43,Tryz.ntmps43
   go_wp2_with fail
   (with_reducible refine HN.out.mono ?_)
   rintro e w' ⟨rfl,rfl⟩
   go_wp2_with fail
   (with_reducible refine HS.out.mono ?_)
   rintro e w1 ⟨rfl,hu1⟩
   have hu2:Upd [] w (w1.alloc (.cells #[.int .i64 (p:Int),.int .i64 (q:Int)] 152)):=hu1.alloc _
   have x0:(w1.alloc (.cells #[.int .i64 (p:Int),.int .i64 (q:Int)] 152)).cell? ⟨w1.heap.size,0,none⟩=some (.int .i64 (p:Int)):=by rw [World.cell?_alloc_at _ _ _ _ rfl];rfl
   have x1:(w1.alloc (.cells #[.int .i64 (p:Int),.int .i64 (q:Int)] 152)).cell? ⟨w1.heap.size,1,none⟩=some (.int .i64 (q:Int)):=by rw [World.cell?_alloc_at _ _ _ _ rfl];rfl
   have HU2:=Lib.hid hu2
   clear hu1 hu2
   go_upto_region 6 with fail
   generalize (w1.alloc (.cells #[.int .i64 (p:Int),.int .i64 (q:Int)] 152))=W2 at x0 x1 HU2 ⊢
   obtain ⟨hb,c5',lk⟩:=HL.out _ HU2.out
   go_quiet (fail)
   go_wp2_with fail
   go_ret2
   exact ⟨rfl,⟨N,Nat.le_succ N,HH.out.upd0 (HU2.out.drewN nq)⟩,(HU2.out.drewN nq).mono (by simp)⟩
 ·have e1:dropH M H lo hi=H:=by unfold dropH;rw [if_neg hok]
  have e2:dropK M H lo hi=0:=by unfold dropK;rw [if_neg hok]
  have e3:dropX M H lo hi=2:=by unfold dropX;rw [if_neg hok]
  have hokf:spanOk M lo hi=false:=by simpa using hok
  rw [e1,e2,e3]
  rw [hokf] at hsp
  obtain ⟨p,hp⟩:∃p,below M lo=p:=⟨_,rfl⟩
  obtain ⟨q,hq⟩:∃q,below M hi=q:=⟨_,rfl⟩
  rw [hp,hq] at hsp
  have HS:=Lib.hid hsp
  have HH:=Lib.hid h
  clear hnn hsp hok hokf e1 e2 e3 hp hq h hM
  go_enter Tryz.func43,Tryz.ntmps43
  go_wp2_with fail
  (with_reducible refine HN.out.mono ?_)
  rintro e w' ⟨rfl,rfl⟩
  go_wp2_with fail
  (with_reducible refine HS.out.mono ?_)
  rintro e w1 ⟨rfl,hu1⟩
  have HU1:=Lib.hid hu1
  clear hu1
  go_wp2_with fail
  go_ret2
  exact ⟨rfl,⟨N,Nat.le_succ N,HH.out.upd0 (HU1.out.alloc _)⟩,(HU1.out.alloc _).mono (by simp)⟩
def wholeP (M:List Int) (H:List (Nat×Nat)):Part:=if M.length - 1=0 then ⟨0,0,false,false⟩ else partV (cntH H) (mf M) 0 (M.length - 1) 0 (M.length - 1+1)
theorem wholeC (b:Nat) (F:List Nat) (M:List Int) (H:List (Nat×Nat)) (N:Nat) (w:World) (h:IsCov w b F M H N) :
 Calls Tryz.prog 105 #[.pointer (some ⟨b,0,none⟩)] w (KnownPost (wholeP M H) w):=by
 have hu0:Upd [] w (w.alloc (.cells #[.int .u64 0,.int .i64 0,.bool false,.bool false] 160)):=(Upd.refl _ _).alloc _
 have hnn:=covNone b F M H N _ (h.upd0 hu0)
 obtain ⟨mv,nv,ov,pv,hb,en,rfl,h1,h2⟩:=h
 have hbw:b<w.heap.size:=lt_of_block h1.head
 obtain ⟨n,hn⟩:∃n,M.length - 1=n:=⟨_,rfl⟩
 unfold wholeP
 rw [hn] at h1 ⊢
 have c1:=h1.cells.2.1
 have HN:=Lib.hid hnn
 clear hnn h2
 by_cases hn0:n=0
 ·have e1:rootI n = -1:=by unfold rootI;rw [if_pos hn0]
  rw [e1] at c1
  rw [if_pos hn0]
  clear h1 hn0 hn e1
  go_enter Tryz.func105,Tryz.ntmps105
  go_wp2_with fail
  (with_reducible refine HN.out.mono ?_)
  rintro e w' ⟨rfl,rfl⟩
  go_wp2_with fail
  refine bodyPost_ret (v:=partVal ⟨0,0,false,false⟩) (by simp [results,Tryz.results105,go_sem,partVal]) rfl ⟨rfl,(Upd.refl _ _).alloc _⟩
 ·obtain ⟨r,hr⟩:∃r,2*n - 2=r:=⟨_,rfl⟩
  have e1:rootI n=(r:Int):=by unfold rootI;rw [if_neg hn0,hr]
  rw [e1] at c1
  rw [if_neg hn0]
  have hP:(pN (cntH H) M n)[r]? = some (partV (cntH H) (mf M) 0 n 0 (n+1)):=by
   unfold pN
   rw [if_neg hn0,pL_kids]
   have:=get_mid [] (pK (cntH H) (mf M) 0 n) [] (partV (cntH H) (mf M) 0 n 0 (n+1)) (k:=r) (by rw [pK_len _ _ (by omega)];simp;omega)
   simpa using this
  obtain ⟨gp,Cp,rfl,ep,-⟩:=row_at h1.parts hP
  have c4:=h1.cells.2.2.2.2.1
  have hrl:=(List.getElem?_eq_some_iff.1 hP).1
  obtain ⟨N',hN'⟩:∃N',(pN (cntH H) M n).length=N':=⟨_,rfl⟩
  rw [hN'] at c4 hrl
  obtain ⟨V,hV⟩:∃V,partV (cntH H) (mf M) 0 n 0 (n+1)=V:=⟨_,rfl⟩
  rw [hV] at ep ⊢
  obtain ⟨pl,pr,pf,pa⟩:=V
  have p0:w.cell? ⟨gp,r*4,none⟩=some (.int .u64 pl):=ep 0 _ rfl
  have p1:w.cell? ⟨gp,r*4+1,none⟩=some (.int .i64 pr):=ep 1 _ rfl
  have p2:w.cell? ⟨gp,r*4+2,none⟩=some (.bool pf):=ep 2 _ rfl
  have p3:w.cell? ⟨gp,r*4+3,none⟩=some (.bool pa):=ep 3 _ rfl
  have hgp:gp<w.heap.size:=World.block_lt_of_cell? w _ p0
  have r0:(0:Int)≤(r:Int):=Int.natCast_nonneg _
  have r1:(r:Int)<(N':Int):=by omega
  have HS:=Lib.hid (And.intro ((hu0.cell (p:=⟨b,4,none⟩) hbw (by simp)).trans c4) (And.intro ((hu0.cell (p:=⟨b,1,none⟩) hbw (by simp)).trans c1) (And.intro ((hu0.cell (p:=⟨gp,r*4,none⟩) hgp (by simp)).trans p0) (And.intro ((hu0.cell (p:=⟨gp,r*4+1,none⟩) hgp (by simp)).trans p1) (And.intro ((hu0.cell (p:=⟨gp,r*4+2,none⟩) hgp (by simp)).trans p2) ((hu0.cell (p:=⟨gp,r*4+3,none⟩) hgp (by simp)).trans p3))))))
  have hd:decide ((r:Int)<0)=false:=decide_eq_false (by omega)
  clear h1 hn0 hn e1 hr hP ep hrl hN' hV p0 p1 p2 p3 c4 hu0
  go_enter Tryz.func105,Tryz.ntmps105
  go_wp2_with fail
  (with_reducible refine HN.out.mono ?_)
  rintro e w' ⟨rfl,rfl⟩
  go_upto_region 3 with fail
  refine GoT.start [10] (fun w'=>w'.cell? ⟨b,4,none⟩=some (.slice (some ⟨gp,0,none⟩) N' Cp)∧w'.cell? ⟨b,1,none⟩=some (.int .i64 (r:Int))∧w'.cell? ⟨gp,r*4,none⟩=some (.int .u64 pl)∧w'.cell? ⟨gp,r*4+1,none⟩=some (.int .i64 pr)∧w'.cell? ⟨gp,r*4+2,none⟩=some (.bool pf)∧w'.cell? ⟨gp,r*4+3,none⟩=some (.bool pa)) (by kernel_rfl) ?_ fun hS=>?_
  ·exact HS.out
  refine' GoT.mv (i:=0) (oi:=⟨some 13,_,_,_,_,_⟩) rfl (by rfl) ?y3_0 ?_
  case y3_0=>intro w;go_simp<;>with_reducible rfl
  simp only [Act.put,sA,sZ,sS]
  refine' GoT.mv (i:=1) (oi:=⟨some 14,_,_,_,_,_⟩) rfl (by rfl) ?y3_1 ?_
  case y3_1=>intro w;go_simp<;>with_reducible rfl
  simp only [Act.put,sA,sZ,sS]
  refine' GoT.mv (i:=2) (oi:=⟨some 15,_,_,_,_,_⟩) rfl (by rfl) ?y3_2 ?_
  case y3_2=>intro w;go_simp<;>with_reducible rfl
  simp only [Act.put,sA,sZ,sS]
  refine' GoT.tk 1 (i:=3) (oi:=⟨some 16,_,_,_,_,_⟩) rfl (by rfl) ?y3_3 ?_
  case y3_3=>intro w hSw;go_simp<;>with_reducible rfl
  simp only [Act.put,sA,sZ,sS]
  refine' GoT.mv (i:=4) (oi:=⟨some 17,_,_,_,_,_⟩) rfl (by rfl) ?y3_4 ?_
  case y3_4=>intro w;go_simp<;>with_reducible rfl
  simp only [Act.put,sA,sZ,sS]
  refine' GoT.mv (i:=5) (oi:=⟨some 18,_,_,_,_,_⟩) rfl (by rfl) ?y3_5 ?_
  case y3_5=>intro w;go_simp<;>with_reducible rfl
  simp only [Act.put,sA,sZ,sS]
  refine' GoT.mv (i:=6) (oi:=⟨some 19,_,_,_,_,_⟩) rfl (by rfl) ?y3_6 ?_
  case y3_6=>intro w;go_simp<;>with_reducible rfl
  simp only [Act.put,sA,sZ,sS]
  refine' GoT.tk 1 (i:=7) (oi:=⟨some 20,_,_,_,_,_⟩) rfl (by rfl) ?y3_7 ?_
  case y3_7=>intro w hSw;go_simp<;>with_reducible rfl
  simp only [Act.put,sA,sZ,sS]
  refine' GoT.mv (i:=8) (oi:=⟨some 21,_,_,_,_,_⟩) rfl (by rfl) ?y3_8 ?_
  case y3_8=>intro w;go_simp<;>with_reducible rfl
  simp only [Act.put,sA,sZ,sS]
  refine' GoT.tk 1 (i:=9) (oi:=⟨some 22,_,_,_,_,_⟩) rfl (by rfl) ?y3_9 ?_
  case y3_9=>intro w hSw;go_simp<;>with_reducible rfl
  simp only [Act.put,sA,sZ,sS]
  refine GoT.one (i:=10) (o:=⟨none,_,_,_,_,_⟩) rfl (by kernel_rfl) fun K hK=>?_
  go_simp
  refine hK.out _ _ (fun h=>(by cases h)) ?_
  clear hK K
  try simp only [Act.put,sA,sZ,sS]
  refine GoT.done (by kernel_rfl) ?_
  go_wp2_with fail
  refine bodyPost_ret (v:=partVal ⟨pl,pr,pf,pa⟩) (by simp [results,Tryz.results105,go_sem,partVal]) rfl ⟨rfl,((Upd.refl _ _).alloc _).drew⟩
theorem longC (b:Nat) (F:List Nat) (M:List Int) (H:List (Nat×Nat)) (N:Nat) (w:World) (h:IsCov w b F M H N) :
 Calls Tryz.prog 46 #[.pointer (some ⟨b,0,none⟩)] w fun e w'=>e=.returned (.int .u64 (wholeP M H).long)∧Upd [] w w':=by
 have hw:=wholeC b F M H N w h
 obtain ⟨V,hV⟩:∃V,wholeP M H=V:=⟨_,rfl⟩
 rw [hV] at hw ⊢
 obtain ⟨pl,pr,pf,pa⟩:=V
 unfold KnownPost partVal at hw
 dsimp only at hw ⊢
 have hfd:∀w:World,(Instr.field 160 (.agg #[.int .u64 pl,.int .i64 pr,.bool pf,.bool pa]) 0).run Tryz.prog w=.ok (.int .u64 pl) w:=fun _=>by kernel_rfl
 have HW:=Lib.hid hw
 clear hw hV h
 go_enter Tryz.func46,Tryz.ntmps46
 go_wp2_with fail
 (with_reducible refine HW.out.mono ?_)
 rintro e w1 ⟨rfl,hu⟩
 have HU:=Lib.hid hu
 clear hu
 go_wp2_with fail
 go_ret
 exact ⟨rfl,HU.out⟩
theorem runsC (b:Nat) (F:List Nat) (M:List Int) (H:List (Nat×Nat)) (N:Nat) (w:World) (h:IsCov w b F M H N) :
 Calls Tryz.prog 107 #[.pointer (some ⟨b,0,none⟩)] w fun e w'=>e=.returned (.int .i64 (wholeP M H).runs)∧Upd [] w w':=by
 have hw:=wholeC b F M H N w h
 obtain ⟨V,hV⟩:∃V,wholeP M H=V:=⟨_,rfl⟩
 rw [hV] at hw ⊢
 obtain ⟨pl,pr,pf,pa⟩:=V
 unfold KnownPost partVal at hw
 dsimp only at hw ⊢
 have hfd:∀w:World,(Instr.field 160 (.agg #[.int .u64 pl,.int .i64 pr,.bool pf,.bool pa]) 1).run Tryz.prog w=.ok (.int .i64 pr) w:=fun _=>by kernel_rfl
 have HW:=Lib.hid hw
 clear hw hV h
 go_enter Tryz.func107,Tryz.ntmps107
 go_wp2_with fail
 (with_reducible refine HW.out.mono ?_)
 rintro e w1 ⟨rfl,hu⟩
 have HU:=Lib.hid hu
 clear hu
 go_wp2_with fail
 go_ret
 exact ⟨rfl,HU.out⟩
end Go.Proofs.YtkmnbodlciepaaaGreat
