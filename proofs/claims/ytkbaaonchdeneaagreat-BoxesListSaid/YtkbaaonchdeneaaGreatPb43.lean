/- cover.move: a span is held once more, or less. cover.place, cover.span. A cover: what it holds; -/
import Derived.Test.YtkbaaonchdeneaaGreatPb41
import Derived.Test.YtkbaaonchdeneaaGreatPb42
set_option maxHeartbeats 4000000
set_option maxRecDepth 100000
namespace Go.Proofs.YtkbaaonchdeneaaGreat
open Go.RowKit
open Go.ChangeMaps (setBlock heap_setBlock_same heap_setBlock_other)
attribute [local go_sem ↓] Go.wp_at_zero Go.wp_at_succ
theorem Ud (w:World) (b:Nat) (o':Obj):Bf [b] w (setBlock w b o'):=
 ⟨rfl,rfl,rfl,by simp [setBlock],fun k _ hk=>by
  have hne:b≠k:=fun e=>hk (by simp [e])
  simp [setBlock,hne]⟩
theorem Ru (w:World) (b:Nat) (o':Obj) (h:b<w.heap.size):(setBlock w b o').heap[b]? = some o':=by
 simp [setBlock,h]
def oN (c:Cnt) (n:Nat):List Int:=if n=0 then [] else oL c 0 n 0 (n+1)
def pN (c:Cnt) (M:List Int) (n:Nat):List Part:=if n=0 then [] else pL c (mf M) 0 n 0 (n+1)
def La (s:Nat×Nat) (n:Nat):Nat:=if s.1=s.2 then 0 else ent s.1 s.2 0 n
def yT (w:World) (b:Nat) (mv nv ov pv:Value) (hb N:Nat) (M:List Int) (L:List Nd) (O:List Int) (P:List Part) (root:Int) (q:Nat×Nat→Int) (k:Nat) (e:Ending) (w':World):Prop:=
 e=.returned (.int .i64 (k:Int))∧(∃en,Gm w' b mv nv ov pv hb M L O P root en)∧Ei w' hb N q∧Bf (hb::IC b ov pv) w w'
theorem yU (b:Nat) (mv nv ov pv:Value) (hb N:Nat) (M:List Int) (L:List Nd) (O O':List Int) (P P':List Part) (root en:Int) (w:World) (q:Nat×Nat→Int) (s1 s2:Nat) (y:Int) (k:Nat)
 (h:Gm w b mv nv ov pv hb M L O P root en) (hq:Ei w hb N q) (hN:N<1000000) (hs1:s1<1000000) (hs2:s2<1000000) (hy0 : -1≤y) (hy1:y≤1) (hq0:0≤q (s1,s2)) (hq1:q (s1,s2)≤1000000)
 (hch:∀w2,Gm w2 b mv nv ov pv hb M L O P root 0→s1≠s2→Calls Tryz.prog 227 #[.pointer (some ⟨b,0,none⟩),.int .i64 root,.agg #[.int .i64 (s1:Int),.int .i64 (s2:Int)],.int .i64 y] w2 (SB w2 b mv nv ov pv hb M L O' P' root (k:Int)))
 (hk:s1=s2→k=0∧O'=O∧P'=P) :
 Calls Tryz.prog 157 #[.pointer (some ⟨b,0,none⟩),.agg #[.int .i64 (s1:Int),.int .i64 (s2:Int)],.int .i64 y] w (yT w b mv nv ov pv hb (N+1) M L O' P' root (fun u=>if u=(s1,s2) then q (s1,s2)+y else q u) k):=by
 have hwf:(Lit.int .i64 (q (s1,s2)+y)).wf=true:=by simp [Lit.wf,IntKind.min,IntKind.max,IntKind.signed,IntKind.bits];omega
 have hu1:Bf [] w (w.alloc (.cells #[.int .i64 (s1:Int),.int .i64 (s2:Int)] 230)):=(Bf.refl _ _).alloc _;have h1:=h.Bh hu1;have hq1':=hq.upd hu1 (by simp);have x0:(w.alloc (.cells #[.int .i64 (s1:Int),.int .i64 (s2:Int)] 230)).cell? ⟨w.heap.size,0,none⟩=some (.int .i64 (s1:Int)):=by rw [World.cell?_alloc_at _ _ _ _ rfl];rfl
 have x1:(w.alloc (.cells #[.int .i64 (s1:Int),.int .i64 (s2:Int)] 230)).cell? ⟨w.heap.size,1,none⟩=some (.int .i64 (s2:Int)):=by rw [World.cell?_alloc_at _ _ _ _ rfl];rfl
 have hz1:w.heap.size<(w.alloc (.cells #[.int .i64 (s1:Int),.int .i64 (s2:Int)] 230)).heap.size:=by simp
 have hbh:b≠hb:=h.bh;have hbF:b∈IC b ov pv:=by simp [IC]
 have hhl:hb<w.heap.size:=hq.lt;have GY:=AQ h.lt;have hwq:IntKind.i64.wrap (q (s1,s2)+y)=q (s1,s2)+y:=IntWalk.i64_in _ ⟨by omega,by omega⟩;have HCH:=AQ hch;have HKK:=AQ hk;clear hch hk h hq;go_enter Tryz.func157,Tryz.ntmps157
 go_upto_region 1 with fail
 generalize (w.alloc (.cells #[.int .i64 (s1:Int),.int .i64 (s2:Int)] 230))=W1 at hu1 h1 hq1' x0 x1 hz1 ⊢;obtain ⟨st,o1,ME,LK0,rest⟩:=(show Ei W1.drew hb N q from hq1').move hN (s1,s2) hs1 hs2 y hwf;have LK:(Instr.lookup 226 (.map (some hb)) (.agg #[.int .i64 (s1:Int),.int .i64 (s2:Int)]) false).run Tryz.prog W1.drew=.ok (.int .i64 (q (s1,s2))) W1.drew:=LK0;have ME1:(Instr.mapEntry 226 (.map (some hb)) (.agg #[.int .i64 (s1:Int),.int .i64 (s2:Int)])).run Tryz.prog W1.drew=.ok (.tuple #[.int .i64 (q (s1,s2)),.int .i64 (st:Int)]) (setBlock W1.drew hb o1):=ME;have a5c:hb<W1.drew.heap.size:=hq1'.lt;have hw2:(setBlock W1.drew hb o1).heap[hb]? = some o1:=Ru _ _ _ a5c;have SU:=Ud W1.drew hb o1;obtain ⟨LK2,o2,ES,hfin⟩:=rest _ hw2;have a8e:(Instr.lookup 226 (.map (some hb)) (.agg #[.int .i64 (s1:Int),.int .i64 (s2:Int)]) false).run Tryz.prog (setBlock W1.drew hb o1)=.ok (.int .i64 (q (s1,s2))) (setBlock W1.drew hb o1):=LK2;have SU2:=Ud (setBlock W1.drew hb o1) hb o2;have dZ:=hfin (setBlock (setBlock W1.drew hb o1) hb o2) (Ru _ _ o2 (by simpa [setBlock] using a5c));have UU:=SU.trans SU2;have Gv:=AQ dZ;have HUU:=AQ UU;clear ME LK0 rest hfin dZ UU SU2 hw2 a5c LK2;generalize setBlock (setBlock W1.drew hb o1) hb o2=W3 at *;generalize setBlock W1.drew hb o1=W2 at *;obtain ⟨-,-,-,-,-,y5,-,-⟩:=h1.cells;have b1L:b<W1.heap.size:=lt_of_block h1.head;have LK2:=a8e;have y0:=x0;have y1:=x1;have H1:=AQ h1;have b1M:=Ai SU LK2;clear a8e h1 hq1' x0 x1;refine Bj.start [7,10] (fun w'=>w'.cell? ⟨b,5,none⟩=some (.map (some hb))∧w'.cell? ⟨w.heap.size,0,none⟩=some (.int .i64 (s1:Int))∧w'.cell? ⟨w.heap.size,1,none⟩=some (.int .i64 (s2:Int))∧(Instr.lookup 226 (.map (some hb)) (.agg #[.int .i64 (s1:Int),.int .i64 (s2:Int)]) false).run Tryz.prog w'=.ok (.int .i64 (q (s1,s2))) w') (by kernel_rfl) ?_ fun hS=>?_
 ·exact ⟨y5,y0,y1,LK⟩
 refine' Bj.mw 0 (oi:=⟨some 7,_,_,_,_,_⟩) ?_
 simp only [Act.put,sA,sZ,sS];refine' Bj.mw 1 (oi:=⟨some 8,_,_,_,_,_⟩) ?_
 simp only [Act.put,sA,sZ,sS];refine' Bj.mw 2 (oi:=⟨some 9,_,_,_,_,_⟩) ?_
 simp only [Act.put,sA,sZ,sS];refine' Bj.tl 2 3 (oi:=⟨some 10,_,_,_,_,_⟩) ?_
 simp only [Act.put,sA,sZ,sS];refine' Bj.tl 2 4 (oi:=⟨some 11,_,_,_,_,_⟩) ?_
 simp only [Act.put,sA,sZ,sS];refine' Bj.tl 2 5 (oi:=⟨some 12,_,_,_,_,_⟩) ?_
 simp only [Act.put,sA,sZ,sS];refine' Bj.mw 6 (oi:=⟨some 13,_,_,_,_,_⟩) ?_
 simp only [Act.put,sA,sZ,sS];refine' Bj.mw 7 (oi:=⟨some 14,_,_,_,_,_⟩) ?_
 simp only [Act.put,sA,sZ,sS];refine Bj.one (i:=8) (o:=⟨some 15,_,_,_,_,_⟩) rfl (by kernel_rfl) fun K hK=>?_
 go_simp
 refine hK.out _ _ (fun _ h=>?_) ?_
 ·exact ⟨(SU.cell (p:=⟨b,5,none⟩) b1L (by simpa using hbh)).trans h.1,(SU.cell (p:=⟨w.heap.size,0,none⟩) hz1 (by simp;omega)).trans h.2.1,(SU.cell (p:=⟨w.heap.size,1,none⟩) hz1 (by simp;omega)).trans h.2.2.1,LK2⟩
 clear hK K;try simp only [Act.put,sA,sZ,sS]
 refine' Bj.mw 9 (oi:=⟨some 16,_,_,_,_,_⟩) ?_
 simp only [Act.put,sA,sZ,sS];refine Bj.one (i:=10) (o:=⟨none,_,_,_,_,_⟩) rfl (by kernel_rfl) fun K hK=>?_
 go_simp
 refine hK.out _ _ (fun h=>(by cases h)) ?_
 clear hK K;try simp only [Act.put,sA,sZ,sS]
 refine Bj.done (by kernel_rfl) ?_
 have h3:=(H1.out.Bh ((Bf.refl [] W1).drew)).upd HUU.out (by simpa using hbh) (fun y hy hc=>H1.out.hm (by simp at hc;rw [←hc];exact hy)) (fun y hy hc=>H1.out.hn (by simp at hc;rw [←hc];exact hy)) (fun y hy hc=>H1.out.ho (by simp at hc;rw [←hc];exact hy)) (fun y hy hc=>H1.out.hp (by simp at hc;rw [←hc];exact hy));have z0:W3.cell? ⟨w.heap.size,0,none⟩=some (.int .i64 (s1:Int)):=(HUU.out.cell (p:=⟨w.heap.size,0,none⟩) hz1 (by simp;omega)).trans y0;have z1:W3.cell? ⟨w.heap.size,1,none⟩=some (.int .i64 (s2:Int)):=(HUU.out.cell (p:=⟨w.heap.size,1,none⟩) hz1 (by simp;omega)).trans y1;have hz3:w.heap.size<W3.heap.size:=Bc hz1 HUU.out.size;obtain ⟨-,-,-,-,-,-,c6,cf⟩:=h3.cells;have f6:=cf 6;have hu3:Bf [hb] w W3:=((hu1.drew).mono (by simp)).trans HUU.out;have H3:=AQ h3;have Gj:=AQ hu3;clear h3 hu3 hu1 cf y5 y0 y1 LK LK2 ME1 ES SU b1M;by_cases hs:s1=s2
 ·obtain ⟨rfl,rfl,rfl⟩:=HKK.out hs;have hd:((s1:Int)==(s2:Int))=true:=by rw [hs];simp
  have HE:=AQ hs;clear hs;go_wp2_with fail
  go_ret
  exact ⟨rfl,⟨_,H3.out⟩,Gv.out,Gj.out.mono (by simp)⟩
 ·have hd:((s1:Int)==(s2:Int))=false:=by simp;omega
  have HS:=AQ hs;clear hs;have hbl:(⟨b,6,none⟩:Addr)≠⟨w.heap.size,0,none⟩:=fun e=>by have:=GY.out b (by simp [IC]);injection e with e _ _;omega
  have a8f:(⟨b,6,none⟩:Addr)≠⟨w.heap.size,1,none⟩:=fun e=>by injection e with _ e _;omega
  have h4:=H3.out.enter 0;have k0:(W3.setCell ⟨b,6,none⟩ (.int .i64 0)).cell? ⟨w.heap.size,0,none⟩=some (.int .i64 (s1:Int)):=(World.cell?_setCell_other _ _ _ _ hbl).trans z0;have k1:(W3.setCell ⟨b,6,none⟩ (.int .i64 0)).cell? ⟨w.heap.size,1,none⟩=some (.int .i64 (s2:Int)):=(World.cell?_setCell_other _ _ _ _ a8f).trans z1;have HK:=Ai k0 k1;have HF4:=AQ (show Ei (W3.setCell ⟨b,6,none⟩ (.int .i64 0)) hb (N+1) (fun u=>if u=(s1,s2) then q (s1,s2)+y else q u) from Gv.out.upd ((Bf.refl [b] W3).setCell (p:=⟨b,6,none⟩) (.inl (by simp)) _) (by simpa using Ne.symm hbh));have H4:=AQ h4;have Zu:=AQ (show Bf (hb::IC b ov pv) w (W3.setCell ⟨b,6,none⟩ (.int .i64 0)) from (Gj.out.mono (by simp)).setCell (.inl (by simp [IC])) _);clear k0 k1 h4 hbl a8f;go_upto_region 5 with fail
  generalize W3.setCell ⟨b,6,none⟩ (.int .i64 0)=W4 at HK H4 Zu HF4 ⊢;have r1:W4.drew.cell? ⟨b,1,none⟩=some (.int .i64 root):=H4.out.cells.2.1;have r0:=HK.out;have hc:=HCH.out W4.drew (H4.out.Bh ((Bf.refl [] W4).drew)) HS.out;have HC:=AQ hc;clear hc z0 z1 c6 f6;refine Bj.start [7] (fun w'=>w'.cell? ⟨b,1,none⟩=some (.int .i64 root)∧w'.cell? ⟨w.heap.size,0,none⟩=some (.int .i64 (s1:Int))∧w'.cell? ⟨w.heap.size,1,none⟩=some (.int .i64 (s2:Int))) (by kernel_rfl) ?_ fun hS=>?_
  ·exact ⟨r1,r0⟩
  refine' Bj.mw 0 (oi:=⟨some 25,_,_,_,_,_⟩) ?_
  simp only [Act.put,sA,sZ,sS];refine' Bj.mw 1 (oi:=⟨some 26,_,_,_,_,_⟩) ?_
  simp only [Act.put,sA,sZ,sS];refine' Bj.mw 2 (oi:=⟨some 27,_,_,_,_,_⟩) ?_
  simp only [Act.put,sA,sZ,sS];refine' Bj.mw 3 (oi:=⟨some 28,_,_,_,_,_⟩) ?_
  simp only [Act.put,sA,sZ,sS];refine' Bj.tl 1 4 (oi:=⟨some 29,_,_,_,_,_⟩) ?_
  simp only [Act.put,sA,sZ,sS];refine' Bj.tl 1 5 (oi:=⟨some 30,_,_,_,_,_⟩) ?_
  simp only [Act.put,sA,sZ,sS];refine' Bj.mw 6 (oi:=⟨some 31,_,_,_,_,_⟩) ?_
  simp only [Act.put,sA,sZ,sS];refine Bj.one (i:=7) (o:=⟨some 32,_,_,_,_,_⟩) rfl (by kernel_rfl) fun K hK=>?_
  go_simp
  go_at_call 227
  (with_reducible refine HC.out.mono ?_);rintro e w6 ⟨rfl,h6,Ol⟩;have l6:w6.cell? ⟨b,6,none⟩=some (.int .i64 (k:Int)):=h6.cells.2.2.2.2.2.2.1;have H6:=AQ h6;have Jv:=AQ Ol;clear h6 Ol;refine hK.out _ _ (fun h=>(by cases h)) ?_
  clear hK K;try simp only [Act.put,sA,sZ,sS]
  refine Bj.done (by kernel_rfl) ?_
  go_wp2_with fail
  go_ret
  have hF:Ei w6 hb (N+1) (fun u=>if u=(s1,s2) then q (s1,s2)+y else q u):=by
   have g1:Ei W4.drew hb (N+1) (fun u=>if u=(s1,s2) then q (s1,s2)+y else q u):=HF4.out;exact g1.upd Jv.out (by simp [IC,hbh.symm,H4.out.ho,H4.out.hp])
  exact ⟨rfl,⟨_,H6.out⟩,hF,Zu.out.drew.trans (Jv.out.mono (fun x hx=>.inl (List.mem_cons_of_mem _ hx)))⟩
theorem Dp.le {M:List Int} (h:Dp M):M.Pairwise (·≤·):=h.rise.imp fun h=>Int.le_of_lt h
theorem Zc {M:List Int} (h:M.Pairwise (· < ·)) (x:Int):x∈M↔M[below M x]? = some x:=by
 constructor
 ·intro hx;obtain ⟨i,hi⟩:=List.mem_iff_getElem?.1 hx;have hat:=Nv (h.imp fun h=>Int.le_of_lt h) x;have h1:i≤below M x∨below M x<i:=by omega
  have h2:=hat i x hi;have h3:¬i<below M x:=fun hc=>by have:=h2.2 hc;omega
  rcases Nat.lt_or_ge (below M x) i with h4 | h4
  ·have hil:=(AV hi).1;have hb:M[below M x]? = some (M[below M x]'(by omega)):=AX _;have h5:=hat (below M x) _ hb;have h6:=List.pairwise_iff_getElem.1 h (below M x) i (by omega) hil h4;have h7:=(AV hi).2;rw [h7] at h6;have:=h5.1 h6;omega
  ·have:i=below M x:=by omega
   rw [←this];exact hi
 ·intro hx;exact List.mem_of_getElem? hx
theorem yV {M:List Int} {x:Int} (h:x∈M):decide (x∈M)=true:=decide_eq_true h
theorem yX (b:Nat) (mv nv ov pv:Value) (hb:Nat) (M:List Int) (L:List Nd) (O:List Int) (P:List Part) (root en:Int) (w:World) (x:Int) (h:Gm w b mv nv ov pv hb M L O P root en) (hM:Dp M) :
 Calls Tryz.prog 226 #[.pointer (some ⟨b,0,none⟩),.int .i64 x] w fun e w'=>e=.returned (.tuple #[.int .i64 (below M x:Nat),.bool (decide (x∈M))])∧Bf [] w w':=by
 have hf:=a4B mv M x w hM.le (See.BX h.marks) (by have:=hM.len;omega);have hmem:=Zc hM.rise x;have hbl:=below_le M x;have c0:=h.cells.1;obtain ⟨Am,Cm,rfl⟩:=Bv h.marks;have HF:=AQ hf;have H:=AQ h;have HME:=AQ hmem;have b0:(0:Int)≤((below M x:Nat):Int):=AU _;obtain ⟨p,hp⟩:=AO (below M x);rw [hp] at HF HME hbl b0 ⊢;have Om:=AQ hM.len;have HBL:=AQ hbl;clear hf h hmem hp hbl hM;go_enter Tryz.func226,Tryz.ntmps226
 go_wp2_with fail
 (with_reducible refine HF.out.mono ?_);rintro e w1 ⟨⟨k,rfl,hk⟩,hu⟩;have HU:=AQ hu;have h1:=H.out.Bh hu;have d0:=h1.cells.1;have H1:=AQ h1;clear hu hk h1 c0;by_cases hlt:p<M.length
 ·obtain ⟨y,hy⟩:∃y,M[p]? = some y:=⟨_,AX hlt⟩;obtain ⟨gm,Cm',hmm,em,-⟩:=EP H1.out.marks hy
  cases hmm
  have m0:w1.cell? ⟨gm,p,none⟩=some (.int .i64 y):=by
   have:=em 0 _ rfl;simpa [KL] using this
  have b1:(p:Int)<(M.length:Int):=by omega
  have HY:=AQ hy;clear hy em;by_cases hyx:y=x
  ·have hin:x∈M:=HME.2 (by rw [HY.out,hyx]);have ZE:=AQ (yV hin);have hd:(y==x)=true:=by simp [hyx]
   clear hyx hin;go_wp2_with fail
   go_quiet (fail)
   go_wp2_with fail
   go_ret2
   exact ⟨by rw [ZE.out];rfl,HU.out.drewN _⟩
  ·have hin:decide (x∈M)=false:=decide_eq_false (fun hc=>hyx (by have:=HME.1 hc;rw [HY.out] at this;exact Option.some.inj this));have ZE:=AQ hin;have hd:(y==x)=false:=by simp [hyx]
   clear hyx hin;go_wp2_with fail
   go_quiet (fail)
   go_wp2_with fail
   go_ret2
   exact ⟨by rw [ZE.out];rfl,HU.out.drewN _⟩
 ·have hin:decide (x∈M)=false:=decide_eq_false (fun hc=>by have:=(AV (HME.1 hc)).1;omega);have ZE:=AQ hin;have hd:decide ((p:Int)<(M.length:Int))=false:=decide_eq_false (by omega);have hd2:decide (p<M.length)=false:=decide_eq_false hlt;clear hin;go_wp2_with fail
  go_quiet (fail)
  go_wp2_with fail
  go_ret2
  exact ⟨by rw [ZE.out];rfl,HU.out.drewN _⟩
def Ia (M:List Int) (lo hi:Int):Bool:=decide (lo∈M)&&decide (hi∈M)&&decide (below M lo≤below M hi)
def ND (M:List Int) (lo hi:Int) (w:World) (e:Ending) (w':World):Prop:=
 e=.returned (.tuple #[.agg #[.int .i64 (below M lo:Nat),.int .i64 (below M hi:Nat)],.bool (Ia M lo hi)])∧Bf [] w w'
theorem a2i (b:Nat) (mv nv ov pv:Value) (hb:Nat) (M:List Int) (L:List Nd) (O:List Int) (P:List Part) (root en:Int) (w:World) (lo hi:Int) (h:Gm w b mv nv ov pv hb M L O P root en) (hM:Dp M) :
 Calls Tryz.prog 156 #[.pointer (some ⟨b,0,none⟩),.int .i64 lo,.int .i64 hi] w (ND M lo hi w):=by
 have hu0:Bf [] w (w.alloc (.cells #[.int .i64 0,.int .i64 0] 230)):=(Bf.refl _ _).alloc _;have hp1:=yX b mv nv ov pv hb M L O P root en _ lo (h.Bh hu0) hM;have hp2:=fun w1 (hu:Bf [] w w1)=>yX b mv nv ov pv hb M L O P root en w1 hi (h.Bh hu) hM
 have hr0:(w.alloc (.cells #[.int .i64 0,.int .i64 0] 230)).heap[w.heap.size]? = some (.cells #[.int .i64 0,.int .i64 0] 230 (0,0)):=heap_alloc_new w _;unfold ND Ia;obtain ⟨p,hp⟩:=AO (below M lo);obtain ⟨q,hq⟩:=AO (below M hi);obtain ⟨b1,hb1⟩:=AO (decide (lo∈M));obtain ⟨b2,hb2⟩:=AO (decide (hi∈M));obtain ⟨b3,hb3⟩:∃b3,decide (p≤q)=b3:=⟨_,rfl⟩;rw [hp,hb1] at hp1 ⊢;rw [hq,hb2] at hp2 ⊢;rw [hb3];have H1:=AQ hp1;have H2:=AQ hp2;have ET:=AQ hu0;have HR0:=AQ hr0;have HN:=AQ (show w.heap.size<(w.alloc (.cells #[.int .i64 0,.int .i64 0] 230)).heap.size by simp);have bp:(0:Int)≤(p:Int):=AU _;have bq:(0:Int)≤(q:Int):=AU _;clear hp1 hp2 hu0 hr0 h hM hp hq hb1 hb2;go_enter Tryz.func156,Tryz.ntmps156
 go_wp2_with fail
 (with_reducible refine H1.out.mono ?_);rintro e w1 ⟨rfl,hu1⟩;have Us:=AQ (H2.out w1 (ET.out.trans hu1));have FY:=AQ hu1;clear hu1;go_wp2_with fail
 (with_reducible refine Us.out.mono ?_);rintro e w2 ⟨rfl,hu2⟩;have hh:=(hu2.block w.heap.size (Bc HN.out FY.out.size) (by simp)).trans ((FY.out.block w.heap.size HN.out (by simp)).trans HR0.out);have e0:w2.cell? ⟨w.heap.size,0,none⟩=some (.int .i64 0):=by simp [World.cell?,hh]
 have e1:w2.cell? ⟨w.heap.size,1,none⟩=some (.int .i64 0):=by simp [World.cell?,hh]
 have f0:w2.frozen? ⟨w.heap.size,0,none⟩=false:=by simp [World.frozen?,hh]
 have f1:w2.frozen? ⟨w.heap.size,1,none⟩=false:=by simp [World.frozen?,hh]
 have Fq:=AQ ((((ET.out.trans FY.out).trans hu2).setCell (p:=⟨w.heap.size,0,none⟩) (.inr (Nat.le_refl _)) (.int .i64 (p:Int))).setCell (p:=⟨w.heap.size,1,none⟩) (.inr (Nat.le_refl _)) (.int .i64 (q:Int)));clear hh hu2
 cases b1
 ·go_wp2_with fail
  refine bodyPost_ret (v:=.tuple #[.agg #[.int .i64 (p:Int),.int .i64 (q:Int)],.bool false]) (by simp [results,Tryz.results156,go_sem,e0,e1]) rfl ⟨rfl,Fq.out⟩
 ·cases b2
  ·go_wp2_with fail
   refine bodyPost_ret (v:=.tuple #[.agg #[.int .i64 (p:Int),.int .i64 (q:Int)],.bool false]) (by simp [results,Tryz.results156,go_sem,e0,e1]) rfl ⟨rfl,Fq.out⟩
  ·go_wp2_with fail
   refine bodyPost_ret (v:=.tuple #[.agg #[.int .i64 (p:Int),.int .i64 (q:Int)],.bool b3]) (by simp [results,Tryz.results156,go_sem,e0,e1]) rfl ⟨rfl,Fq.out⟩
def Ej (w:World) (b:Nat) (F:List Nat) (M:List Int) (H:List (Nat×Nat)) (N:Nat):Prop:=
 ∃mv nv ov pv hb en,F=b::hb::(blk mv++(blk nv++(blk ov++blk pv)))∧Gm w b mv nv ov pv hb M (BP (M.length - 1)) (oN (Fv H) (M.length - 1)) (pN (Fv H) M (M.length - 1)) (I4 (M.length - 1)) en∧Ei w hb N (fun s=>(H.count s:Int))
theorem Ej.upd {w w':World} {b:Nat} {F:List Nat} {M:List Int} {H:List (Nat×Nat)} {N:Nat} (h:Ej w b F M H N) {G:List Nat} (hu:Bf G w w') (hd:∀y∈F,y∉G):Ej w' b F M H N:=by
 obtain ⟨mv,nv,ov,pv,hb,en,rfl,h1,h2⟩:=h;exact ⟨mv,nv,ov,pv,hb,en,rfl,h1.upd hu (hd b (by simp)) (fun y hy=>hd y (by simp [hy])) (fun y hy=>hd y (by simp [hy])) (fun y hy=>hd y (by simp [hy])) (fun y hy=>hd y (by simp [hy])),h2.upd hu (hd hb (by simp))⟩
theorem Ej.Bh {w w':World} {b:Nat} {F:List Nat} {M:List Int} {H:List (Nat×Nat)} {N:Nat} (h:Ej w b F M H N) (hu:Bf [] w w'):Ej w' b F M H N:=h.upd hu (by simp)
theorem Ej.lt {w:World} {b:Nat} {F:List Nat} {M:List Int} {H:List (Nat×Nat)} {N:Nat} (h:Ej w b F M H N):∀y∈F,y<w.heap.size:=by
 obtain ⟨mv,nv,ov,pv,hb,en,rfl,h1,h2⟩:=h;intro y hy;simp only [List.mem_cons,List.mem_append] at hy;rcases hy with rfl | rfl | hy | hy | hy | hy
 ·exact lt_of_block h1.head
 ·exact h2.lt
 ·exact BK h1.marks y hy
 ·exact BK h1.nodes y hy
 ·exact BK h1.often y hy
 ·exact BK h1.parts y hy
def ay (M:List Int) (H:List (Nat×Nat)):Prop:=∀s∈H,s.1≤s.2∧s.2<M.length
theorem rZ (n:Nat) (h:n≠0):Jy (BP n) 0 n 0:=⟨[],[],by unfold BP;rw [if_neg h];simp,rfl⟩
theorem fE {n:Nat} (h:n<1000000):lg n≤20:=CQ (n - 1) 20 (by omega)
theorem XW {c c':Cnt} {s:Nat×Nat} {y:Int} (h:Step c c' s y) (he:s.1=s.2) {f t:Nat} (pf pt:Nat) (hf:f<t):Hy c c' f t pf pt:=by
 have hz:∀f' t' ML MN,f'<t'→can s f' t' ML MN=0:=fun f' t' ML MN hlt=>by unfold can;rw [if_neg (by omega)]
 exact ⟨by rw [h,hz _ _ _ _ hf];omega,fun f' t' ML MN _ a2 _ _ _=>by rw [h,hz _ _ _ _ a2];omega⟩
theorem a1x (H:List (Nat×Nat)) (f t pf pt:Nat):Fv H f t pf pt≤H.length:=by
 induction H with
 |nil=>simp [Fv]
 |cons s H ih=>
  rw [Nk,List.length_cons];have:can s f t pf pt≤1:=by unfold can;split<;>simp
  omega
def a5d (w:World) (b:Nat) (F:List Nat) (M:List Int) (H:List (Nat×Nat)) (N k:Nat) (e:Ending) (w':World):Prop:=
 e=.returned (.int .i64 (k:Int))∧Ej w' b F M H N∧Bf F w w'
theorem moveC (b:Nat) (F:List Nat) (M:List Int) (H H':List (Nat×Nat)) (N:Nat) (w:World) (s:Nat×Nat) (y:Int) (h:Ej w b F M H N) (hM:Dp M) (hN:N<1000000) (hH:H.length≤1000000) (hs:s.1≤s.2∧s.2<M.length)
 (hst:Step (Fv H) (Fv H') s y) (hct:∀u,(H'.count u:Int)=if u=s then (H.count s:Int)+y else (H.count u:Int)) (hy0 : -1≤y) (hy1:y≤1) :
 Calls Tryz.prog 157 #[.pointer (some ⟨b,0,none⟩),.agg #[.int .i64 (s.1:Int),.int .i64 (s.2:Int)],.int .i64 y] w (a5d w b F M H' (N+1) (La s (M.length - 1))):=by
 obtain ⟨mv,nv,ov,pv,hb,en,rfl,h1,h2⟩:=h;obtain ⟨s1,s2⟩:=s;dsimp only at hs ⊢;have hl:=hM.len;have hcl:=List.count_le_length (a:=(s1,s2)) (l:=H);obtain ⟨n,hn⟩:=AO (M.length - 1);rw [hn] at h1 ⊢
 have hmv:=yU b mv nv ov pv hb N M (BP n) (oN (Fv H) n) (oN (Fv H') n) (pN (Fv H) M n) (pN (Fv H') M n) (I4 n) en w _ s1 s2 y (La (s1,s2) n) h1 h2 hN (by omega) (by omega) hy0 hy1 (by omega) (by omega)
  (fun w2 hw2 hne=>by
   have hn0:n≠0:=by omega
   have hep:=lN (a:=s1) (b:=s2) n 0 n (by omega);have hlg:=fE (n:=n) (by omega);have e1:La (s1,s2) n=ent s1 s2 0 n:=by unfold La;rw [if_neg hne]
   have e2:I4 n=((0+2*(n - 0) - 2:Nat):Int):=by unfold I4;rw [if_neg hn0];omega
   unfold oN pN at hw2 ⊢;rw [if_neg hn0,if_neg hn0] at hw2;rw [if_neg hn0,if_neg hn0,e1]
   have:=a4W b mv nv ov pv hb M (BP n) (I4 n) (Fv H) (Fv H') s1 s2 y hM hst hy0 hy1 (fun f t pf pt=>⟨Vo _ _ _ _ _,by have:=a1x H f t pf pt;omega⟩)
    n 0 n 0 (n+1) 0 [] [] [] [] 0 w2 (by omega) (by omega) (by omega) rfl rfl (rZ n hn0) (by omega) (by omega) (by rw [Nat.sub_zero] at hep;omega) (by simpa using hw2)
   rw [←e2] at this;simpa using this)
  (fun he=>by
   refine ⟨by unfold La;rw [if_pos he],?_,?_⟩
   ·unfold oN;by_cases hn0:n=0
    ·rw [if_pos hn0,if_pos hn0]
    ·rw [if_neg hn0,if_neg hn0,Wh (by omega) (XW hst he 0 (n+1) (by omega))]
   ·unfold pN;by_cases hn0:n=0
    ·rw [if_pos hn0,if_pos hn0]
    ·rw [if_neg hn0,if_neg hn0,Wi (by omega) (XW hst he 0 (n+1) (by omega))])
 refine hmv.mono ?_
 rintro e w' ⟨rfl,⟨en',g1⟩,g2,g3⟩;refine ⟨rfl,⟨mv,nv,ov,pv,hb,en',rfl,by rw [hn];exact g1,?_⟩,g3.mono fun x hx=>?_⟩
 ·have e:(fun s=>(H'.count s:Int))=fun u=>if u=(s1,s2) then (H.count (s1,s2):Int)+y else (H.count u:Int):=funext hct
  rw [e];exact g2
 ·simp only [IC,List.mem_cons,List.mem_append] at hx;refine .inl ?_
  simp only [List.mem_cons,List.mem_append];rcases hx with rfl | rfl | hx | hx<;>simp [*]
theorem Ej.a2j {w:World} {b:Nat} {F:List Nat} {M:List Int} {H:List (Nat×Nat)} {N:Nat} (h:Ej w b F M H N):∃hb,w.cell? ⟨b,5,none⟩=some (.map (some hb))∧Ei w hb N (fun s=>(H.count s:Int)):=by
 obtain ⟨mv,nv,ov,pv,hb,en,rfl,h1,h2⟩:=h;exact ⟨hb,h1.cells.2.2.2.2.2.1,h2⟩
theorem aA (b:Nat) (F:List Nat) (M:List Int) (H:List (Nat×Nat)) (N:Nat) (w:World) (h:Ej w b F M H N) :
 Calls Tryz.prog 155 #[.pointer (some ⟨b,0,none⟩)] w fun e w'=>e=.returned (.bool false)∧w=w':=by
 obtain ⟨hb,c5,-⟩:=h.a2j;have hmn:∀(w:World),(binOp .eql 226 (.map (some hb)) (.map none)).run Tryz.prog w=.ok (.bool false) w:=fun w=>run_eql_map_nil (P:=Tryz.prog) w 226 230 3 (some hb) Tryz.underlying226
 clear h;go_enter Tryz.func155,Tryz.ntmps155
 go_wp2_with fail
 go_ret
 exact ⟨rfl,rfl⟩
def CX (M:List Int) (lo hi:Int):Nat×Nat:=(below M lo,below M hi)
theorem Vb {M:List Int} {lo hi:Int} (hM:Dp M) (h:Ia M lo hi=true):(CX M lo hi).1≤(CX M lo hi).2∧(CX M lo hi).2<M.length:=by
 unfold Ia at h;simp only [Bool.and_eq_true,decide_eq_true_eq] at h;have:=(AV ((Zc hM.rise hi).1 h.1.2)).1;exact ⟨h.2,this⟩
def U4 (M:List Int) (H:List (Nat×Nat)) (lo hi:Int):List (Nat×Nat):=if Ia M lo hi=true then CX M lo hi::H else H
def fF (M:List Int) (lo hi:Int):Nat:=if Ia M lo hi=true then La (CX M lo hi) (M.length - 1) else 0
def su (M:List Int) (lo hi:Int):Int:=if Ia M lo hi=true then 0 else 2
def NG (M:List Int) (H:List (Nat×Nat)) (lo hi:Int):List (Nat×Nat):=if Ia M lo hi=true then H.erase (CX M lo hi) else H
def Rw (M:List Int) (H:List (Nat×Nat)) (lo hi:Int):Nat:=if Ia M lo hi=true then (if CX M lo hi∈H then La (CX M lo hi) (M.length - 1) else 0) else 0
def VF (M:List Int) (H:List (Nat×Nat)) (lo hi:Int):Int:=if Ia M lo hi=true then (if CX M lo hi∈H then 0 else 160) else 2
def aB (w:World) (b:Nat) (F:List Nat) (M:List Int) (H:List (Nat×Nat)) (N k:Nat) (x:Int) (e:Ending) (w':World):Prop:=
 e=.returned (.tuple #[.int .i64 (k:Int),.int .i64 x])∧(∃N',N'≤N+1∧Ej w' b F M H N')∧Bf F w w'
theorem a1y {M:List Int} {H:List (Nat×Nat)} {lo hi:Int} (hM:Dp M) (h:ay M H):ay M (U4 M H lo hi):=by
 unfold U4;split
 ·rename_i hs
  intro s hs';rcases List.mem_cons.1 hs' with rfl | hs'
  ·exact Vb hM hs
  ·exact h s hs'
 ·exact h
theorem yY {M:List Int} {H:List (Nat×Nat)} {lo hi:Int} (h:ay M H):ay M (NG M H lo hi):=by
 unfold NG;split
 ·exact fun s hs=>h s (List.mem_of_mem_erase hs)
 ·exact h
theorem a8g (b:Nat) (F:List Nat) (M:List Int) (H:List (Nat×Nat)) (N:Nat) (w:World) (lo hi:Int) (h:Ej w b F M H N) (hM:Dp M) (hN:N<1000000) (hH:H.length≤1000000) :
 Calls Tryz.prog 94 #[.pointer (some ⟨b,0,none⟩),.int .i64 lo,.int .i64 hi] w (aB w b F M (U4 M H lo hi) N (fF M lo hi) (su M lo hi)):=by
 have hnn:=aA b F M H N w h
 have hsp:Calls Tryz.prog 156 #[.pointer (some ⟨b,0,none⟩),.int .i64 lo,.int .i64 hi] w (ND M lo hi w):=by
  obtain ⟨mv,nv,ov,pv,hb,en,rfl,h1,h2⟩:=h;exact a2i b mv nv ov pv hb M _ _ _ _ en w lo hi h1 hM
 have HN:=AQ hnn;unfold ND at hsp;by_cases hok:Ia M lo hi=true
 ·have hin:=Vb hM hok
  have hmv:=fun w1 (hu:Bf [] w w1)=>moveC b F M H (CX M lo hi::H) N w1 (CX M lo hi) 1 (h.Bh hu) hM hN hH hin (fun f t pf pt=>by rw [Nk];omega) (fun u=>by
   rw [List.count_cons];by_cases hu:u=CX M lo hi
   ·rw [if_pos hu,hu];simp
   ·rw [if_neg hu,if_neg (by simpa using Ne.symm hu)];simp) (by omega) (by omega)
  have e1:U4 M H lo hi=CX M lo hi::H:=by unfold U4;rw [if_pos hok]
  have e2:fF M lo hi=La (CX M lo hi) (M.length - 1):=by unfold fF;rw [if_pos hok]
  have e3:su M lo hi=0:=by unfold su;rw [if_pos hok]
  rw [e1,e2,e3];rw [hok] at hsp;unfold CX at hmv ⊢;obtain ⟨p,hp⟩:=AO (below M lo);obtain ⟨q,hq⟩:=AO (below M hi);rw [hp,hq] at hsp hmv ⊢;dsimp only at hmv;obtain ⟨K,hK⟩:=AO (La (p,q) (M.length - 1));rw [hK] at hmv ⊢;have HS:=AQ hsp;have HM:=AQ hmv;clear hnn hsp hmv hok hin e1 e2 e3 hp hq hK h hM;go_enter Tryz.func94,Tryz.ntmps94
  go_wp2_with fail
  (with_reducible refine HN.out.mono ?_);rintro e w' ⟨rfl,rfl⟩;go_wp2_with fail
  (with_reducible refine HS.out.mono ?_);rintro e w1 ⟨rfl,hu1⟩;have hu2:Bf [] w (w1.alloc (.cells #[.int .i64 (p:Int),.int .i64 (q:Int)] 230)):=hu1.alloc _;have um:=AQ (HM.out _ hu2);have Fq:=AQ hu2;clear hu1 hu2;go_wp2_with fail
  (with_reducible refine um.out.mono ?_);rintro e w2 ⟨rfl,g1,g2⟩;have HG:=Ai g1 g2;clear g1 g2;go_wp2_with fail
  go_ret2
  exact ⟨rfl,⟨N+1,Nat.le_refl _,HG.1⟩,(Fq.out.mono (by simp)).trans HG.2⟩
 ·have e1:U4 M H lo hi=H:=by unfold U4;rw [if_neg hok]
  have e2:fF M lo hi=0:=by unfold fF;rw [if_neg hok]
  have e3:su M lo hi=2:=by unfold su;rw [if_neg hok]
  have yZ:Ia M lo hi=false:=by simpa using hok
  rw [e1,e2,e3];rw [yZ] at hsp;obtain ⟨p,hp⟩:=AO (below M lo);obtain ⟨q,hq⟩:=AO (below M hi);rw [hp,hq] at hsp;have HS:=AQ hsp;have HH:=AQ h;clear hnn hsp hok yZ e1 e2 e3 hp hq h hM;go_enter Tryz.func94,Tryz.ntmps94
  go_wp2_with fail
  (with_reducible refine HN.out.mono ?_);rintro e w' ⟨rfl,rfl⟩;go_wp2_with fail
  (with_reducible refine HS.out.mono ?_);rintro e w1 ⟨rfl,hu1⟩;have FY:=AQ hu1;clear hu1;go_wp2_with fail
  go_ret2
  exact ⟨rfl,⟨N,Nat.le_succ N,HH.out.Bh (FY.out.alloc _)⟩,(FY.out.alloc _).mono (by simp)⟩
attribute [local go_sem ↓] Go.wp_at_zero Go.wp_at_succ
theorem a2k (b:Nat) (F:List Nat) (M:List Int) (H:List (Nat×Nat)) (N:Nat) (w:World) (lo hi:Int) (h:Ej w b F M H N) (hM:Dp M) (hN:N<1000000) (hH:H.length≤1000000) :
 Calls Tryz.prog 95 #[.pointer (some ⟨b,0,none⟩),.int .i64 lo,.int .i64 hi] w (aB w b F M (NG M H lo hi) N (Rw M H lo hi) (VF M H lo hi)):=by
 have hnn:=aA b F M H N w h
 have hsp:Calls Tryz.prog 156 #[.pointer (some ⟨b,0,none⟩),.int .i64 lo,.int .i64 hi] w (ND M lo hi w):=by
  obtain ⟨mv,nv,ov,pv,hb,en,rfl,h1,h2⟩:=h;exact a2i b mv nv ov pv hb M _ _ _ _ en w lo hi h1 hM
 have HN:=AQ hnn;unfold ND at hsp;by_cases hok:Ia M lo hi=true
 ·have hin:=Vb hM hok;rw [hok] at hsp;have hl:=hM.len
  have hlk:∀w1,Bf [] w w1→∃hb,w1.cell? ⟨b,5,none⟩=some (.map (some hb))∧∀n,(Instr.lookup 226 (.map (some hb)) (.agg #[.int .i64 (below M lo:Nat),.int .i64 (below M hi:Nat)]) false).run Tryz.prog (w1.drewN n)=.ok (.int .i64 (H.count (CX M lo hi):Int)) (w1.drewN n):=fun w1 hu=>by
   obtain ⟨hb,c5,h2⟩:=(h.Bh hu).a2j;unfold CX at hin;dsimp only at hin;exact ⟨hb,c5,fun n=>(show Ei (w1.drewN n) hb N (fun s=>(H.count s:Int)) from h2).look (CX M lo hi) (by unfold CX;dsimp only;omega) (by unfold CX;dsimp only;omega)⟩
  by_cases hmem:CX M lo hi∈H
  ·have hcp:0<H.count (CX M lo hi):=List.count_pos_iff.2 hmem
   have hmv:=fun w1 (hu:Bf [] w w1)=>moveC b F M H (H.erase (CX M lo hi)) N w1 (CX M lo hi) (-1) (h.Bh hu) hM hN hH hin (fun f t pf pt=>by
    rw [oM (List.perm_cons_erase hmem),Nk];omega) (fun u=>by
    rw [List.count_erase];by_cases hu:u=CX M lo hi
    ·rw [if_pos hu,hu];simp;omega
    ·rw [if_neg hu,if_neg (by simpa using Ne.symm hu)];simp) (by omega) (by omega)
   have e1:NG M H lo hi=H.erase (CX M lo hi):=by unfold NG;rw [if_pos hok]
   have e2:Rw M H lo hi=La (CX M lo hi) (M.length - 1):=by unfold Rw;rw [if_pos hok,if_pos hmem]
   have e3:VF M H lo hi=0:=by unfold VF;rw [if_pos hok,if_pos hmem]
   rw [e1,e2,e3];obtain ⟨ct,hct⟩:=AO (H.count (CX M lo hi));rw [hct] at hlk hcp;have hd:((ct:Int)==0)=false:=by simp;omega
   unfold CX at hmv ⊢;obtain ⟨p,hp⟩:=AO (below M lo);obtain ⟨q,hq⟩:=AO (below M hi);rw [hp,hq] at hsp hmv hlk ⊢;dsimp only at hmv;obtain ⟨K,hK⟩:=AO (La (p,q) (M.length - 1));rw [hK] at hmv ⊢;obtain ⟨H',hH'⟩:=AO (H.erase (p,q));rw [hH'] at hmv ⊢;have HS:=AQ hsp;have HM:=AQ hmv;have HL:=AQ hlk;clear hnn hsp hmv hok hin e1 e2 e3 hp hq hK h hM hlk hmem hct hcp hl hH';go_enter Tryz.func95,Tryz.ntmps95
   go_wp2_with fail
   (with_reducible refine HN.out.mono ?_);rintro e w' ⟨rfl,rfl⟩;go_wp2_with fail
   (with_reducible refine HS.out.mono ?_);rintro e w1 ⟨rfl,hu1⟩;have hu2:Bf [] w (w1.alloc (.cells #[.int .i64 (p:Int),.int .i64 (q:Int)] 230)):=hu1.alloc _;have x0:(w1.alloc (.cells #[.int .i64 (p:Int),.int .i64 (q:Int)] 230)).cell? ⟨w1.heap.size,0,none⟩=some (.int .i64 (p:Int)):=by rw [World.cell?_alloc_at _ _ _ _ rfl];rfl
   have x1:(w1.alloc (.cells #[.int .i64 (p:Int),.int .i64 (q:Int)] 230)).cell? ⟨w1.heap.size,1,none⟩=some (.int .i64 (q:Int)):=by rw [World.cell?_alloc_at _ _ _ _ rfl];rfl
   have Fq:=AQ hu2;clear hu1 hu2;go_upto_region 6 with fail
   generalize (w1.alloc (.cells #[.int .i64 (p:Int),.int .i64 (q:Int)] 230))=W2 at x0 x1 Fq ⊢;obtain ⟨hb,c5',lk⟩:=HL.out _ Fq.out;go_quiet (fail)
   have x0':(W2.drewN nq).cell? ⟨w1.heap.size,0,none⟩=some (.int .i64 (p:Int)):=x0;have x1':(W2.drewN nq).cell? ⟨w1.heap.size,1,none⟩=some (.int .i64 (q:Int)):=x1;have um:=AQ (HM.out _ (Fq.out.drewN nq));have Gj:=AQ (Fq.out.drewN nq);clear lk c5' x0 x1 HL;generalize W2.drewN nq=W3 at x0' x1' um Gj ⊢;go_wp2_with fail
   (with_reducible refine um.out.mono ?_);rintro e w2 ⟨rfl,g1,g2⟩;have HG:=Ai g1 g2;clear g1 g2;go_wp2_with fail
   go_ret2
   exact ⟨rfl,⟨N+1,Nat.le_refl _,HG.1⟩,(Gj.out.mono (by simp)).trans HG.2⟩
  ·have hcp:H.count (CX M lo hi)=0:=List.count_eq_zero.2 hmem;have e1:NG M H lo hi=H:=by unfold NG;rw [if_pos hok,List.erase_of_not_mem hmem]
   have e2:Rw M H lo hi=0:=by unfold Rw;rw [if_pos hok,if_neg hmem]
   have e3:VF M H lo hi=160:=by unfold VF;rw [if_pos hok,if_neg hmem]
   rw [e1,e2,e3];rw [hcp] at hlk;obtain ⟨p,hp⟩:=AO (below M lo);obtain ⟨q,hq⟩:=AO (below M hi);rw [hp,hq] at hsp hlk;have HS:=AQ hsp;have HL:=AQ hlk;have HH:=AQ h;clear hnn hsp hok hin e1 e2 e3 hp hq h hM hlk hmem hcp hl;go_enter Tryz.func95,Tryz.ntmps95
   go_wp2_with fail
   (with_reducible refine HN.out.mono ?_);rintro e w' ⟨rfl,rfl⟩;go_wp2_with fail
   (with_reducible refine HS.out.mono ?_);rintro e w1 ⟨rfl,hu1⟩;have hu2:Bf [] w (w1.alloc (.cells #[.int .i64 (p:Int),.int .i64 (q:Int)] 230)):=hu1.alloc _;have x0:(w1.alloc (.cells #[.int .i64 (p:Int),.int .i64 (q:Int)] 230)).cell? ⟨w1.heap.size,0,none⟩=some (.int .i64 (p:Int)):=by rw [World.cell?_alloc_at _ _ _ _ rfl];rfl
   have x1:(w1.alloc (.cells #[.int .i64 (p:Int),.int .i64 (q:Int)] 230)).cell? ⟨w1.heap.size,1,none⟩=some (.int .i64 (q:Int)):=by rw [World.cell?_alloc_at _ _ _ _ rfl];rfl
   have Fq:=AQ hu2;clear hu1 hu2;go_upto_region 6 with fail
   generalize (w1.alloc (.cells #[.int .i64 (p:Int),.int .i64 (q:Int)] 230))=W2 at x0 x1 Fq ⊢;obtain ⟨hb,c5',lk⟩:=HL.out _ Fq.out;go_quiet (fail)
   go_wp2_with fail
   go_ret2
   exact ⟨rfl,⟨N,Nat.le_succ N,HH.out.Bh (Fq.out.drewN nq)⟩,(Fq.out.drewN nq).mono (by simp)⟩
 ·have e1:NG M H lo hi=H:=by unfold NG;rw [if_neg hok]
  have e2:Rw M H lo hi=0:=by unfold Rw;rw [if_neg hok]
  have e3:VF M H lo hi=2:=by unfold VF;rw [if_neg hok]
  have yZ:Ia M lo hi=false:=by simpa using hok
  rw [e1,e2,e3];rw [yZ] at hsp;obtain ⟨p,hp⟩:=AO (below M lo);obtain ⟨q,hq⟩:=AO (below M hi);rw [hp,hq] at hsp;have HS:=AQ hsp;have HH:=AQ h;clear hnn hsp hok yZ e1 e2 e3 hp hq h hM;go_enter Tryz.func95,Tryz.ntmps95
  go_wp2_with fail
  (with_reducible refine HN.out.mono ?_);rintro e w' ⟨rfl,rfl⟩;go_wp2_with fail
  (with_reducible refine HS.out.mono ?_);rintro e w1 ⟨rfl,hu1⟩;have FY:=AQ hu1;clear hu1;go_wp2_with fail
  go_ret2
  exact ⟨rfl,⟨N,Nat.le_succ N,HH.out.Bh (FY.out.alloc _)⟩,(FY.out.alloc _).mono (by simp)⟩
def G8 (M:List Int) (H:List (Nat×Nat)):Part:=if M.length - 1=0 then ⟨0,0,false,false⟩ else DR (Fv H) (mf M) 0 (M.length - 1) 0 (M.length - 1+1)
theorem zh (b:Nat) (F:List Nat) (M:List Int) (H:List (Nat×Nat)) (N:Nat) (w:World) (h:Ej w b F M H N) :
 Calls Tryz.prog 159 #[.pointer (some ⟨b,0,none⟩)] w (Hq (G8 M H) w):=by
 have hu0:Bf [] w (w.alloc (.cells #[.int .u64 0,.int .i64 0,.bool false,.bool false] 236)):=(Bf.refl _ _).alloc _;have hnn:=aA b F M H N _ (h.Bh hu0);obtain ⟨mv,nv,ov,pv,hb,en,rfl,h1,h2⟩:=h;have hbw:b<w.heap.size:=lt_of_block h1.head;obtain ⟨n,hn⟩:=AO (M.length - 1);unfold G8;rw [hn] at h1 ⊢;have c1:=h1.cells.2.1;have HN:=AQ hnn;clear hnn h2;by_cases hn0:n=0
 ·have e1:I4 n = -1:=by unfold I4;rw [if_pos hn0]
  rw [e1] at c1;rw [if_pos hn0];clear h1 hn0 hn e1;go_enter Tryz.func159,Tryz.ntmps159
  go_wp2_with fail
  (with_reducible refine HN.out.mono ?_);rintro e w' ⟨rfl,rfl⟩;go_wp2_with fail
  refine bodyPost_ret (v:=D6 ⟨0,0,false,false⟩) (by simp [results,Tryz.results159,go_sem,D6]) rfl ⟨rfl,(Bf.refl _ _).alloc _⟩
 ·obtain ⟨r,hr⟩:=AO (2*n - 2);have e1:I4 n=(r:Int):=by unfold I4;rw [if_neg hn0,hr]
  rw [e1] at c1;rw [if_neg hn0]
  have hP:(pN (Fv H) M n)[r]? = some (DR (Fv H) (mf M) 0 n 0 (n+1)):=by
   unfold pN;rw [if_neg hn0,J9];have:=OG [] (pK (Fv H) (mf M) 0 n) [] (DR (Fv H) (mf M) 0 n 0 (n+1)) (k:=r) (by rw [XU _ _ (by omega)];simp;omega);simpa using this
  obtain ⟨gp,Cp,rfl,ep,-⟩:=EP h1.parts hP;have c4:=h1.cells.2.2.2.2.1;have hrl:=(AV hP).1;obtain ⟨N',hN'⟩:=AO ((pN (Fv H) M n).length);rw [hN'] at c4 hrl;obtain ⟨V,hV⟩:=AO (DR (Fv H) (mf M) 0 n 0 (n+1));rw [hV] at ep ⊢;obtain ⟨pl,pr,pf,pa⟩:=V;have p0:w.cell? ⟨gp,r*4,none⟩=some (.int .u64 pl):=ep 0 _ rfl;have p1:w.cell? ⟨gp,r*4+1,none⟩=some (.int .i64 pr):=ep 1 _ rfl;have p2:w.cell? ⟨gp,r*4+2,none⟩=some (.bool pf):=ep 2 _ rfl;have p3:w.cell? ⟨gp,r*4+3,none⟩=some (.bool pa):=ep 3 _ rfl;have Yn:gp<w.heap.size:=World.block_lt_of_cell? w _ p0;have r0:(0:Int)≤(r:Int):=AU _;have r1:(r:Int)<(N':Int):=by omega
  have HS:=Au ((hu0.cell (p:=⟨b,4,none⟩) hbw (by simp)).trans c4) ((hu0.cell (p:=⟨b,1,none⟩) hbw (by simp)).trans c1) ((hu0.cell (p:=⟨gp,r*4,none⟩) Yn (by simp)).trans p0) ((hu0.cell (p:=⟨gp,r*4+1,none⟩) Yn (by simp)).trans p1) ((hu0.cell (p:=⟨gp,r*4+2,none⟩) Yn (by simp)).trans p2) ((hu0.cell (p:=⟨gp,r*4+3,none⟩) Yn (by simp)).trans p3);have hd:decide ((r:Int)<0)=false:=decide_eq_false (by omega);clear h1 hn0 hn e1 hr hP ep hrl hN' hV p0 p1 p2 p3 c4 hu0;go_enter Tryz.func159,Tryz.ntmps159
  go_wp2_with fail
  (with_reducible refine HN.out.mono ?_);rintro e w' ⟨rfl,rfl⟩;go_upto_region 3 with fail
  refine Bj.start [10] (fun w'=>w'.cell? ⟨b,4,none⟩=some (.slice (some ⟨gp,0,none⟩) N' Cp)∧w'.cell? ⟨b,1,none⟩=some (.int .i64 (r:Int))∧w'.cell? ⟨gp,r*4,none⟩=some (.int .u64 pl)∧w'.cell? ⟨gp,r*4+1,none⟩=some (.int .i64 pr)∧w'.cell? ⟨gp,r*4+2,none⟩=some (.bool pf)∧w'.cell? ⟨gp,r*4+3,none⟩=some (.bool pa)) (by kernel_rfl) ?_ fun hS=>?_
  ·exact HS.out
  refine' Bj.mw 0 (oi:=⟨some 13,_,_,_,_,_⟩) ?_
  simp only [Act.put,sA,sZ,sS];refine' Bj.mw 1 (oi:=⟨some 14,_,_,_,_,_⟩) ?_
  simp only [Act.put,sA,sZ,sS];refine' Bj.mw 2 (oi:=⟨some 15,_,_,_,_,_⟩) ?_
  simp only [Act.put,sA,sZ,sS];refine' Bj.tl 1 3 (oi:=⟨some 16,_,_,_,_,_⟩) ?_
  simp only [Act.put,sA,sZ,sS];refine' Bj.mw 4 (oi:=⟨some 17,_,_,_,_,_⟩) ?_
  simp only [Act.put,sA,sZ,sS];refine' Bj.mw 5 (oi:=⟨some 18,_,_,_,_,_⟩) ?_
  simp only [Act.put,sA,sZ,sS];refine' Bj.mw 6 (oi:=⟨some 19,_,_,_,_,_⟩) ?_
  simp only [Act.put,sA,sZ,sS];refine' Bj.tl 1 7 (oi:=⟨some 20,_,_,_,_,_⟩) ?_
  simp only [Act.put,sA,sZ,sS];refine' Bj.mw 8 (oi:=⟨some 21,_,_,_,_,_⟩) ?_
  simp only [Act.put,sA,sZ,sS];refine' Bj.tl 1 9 (oi:=⟨some 22,_,_,_,_,_⟩) ?_
  simp only [Act.put,sA,sZ,sS];refine Bj.one (i:=10) (o:=⟨none,_,_,_,_,_⟩) rfl (by kernel_rfl) fun K hK=>?_
  go_simp
  refine hK.out _ _ (fun h=>(by cases h)) ?_
  clear hK K;try simp only [Act.put,sA,sZ,sS]
  refine Bj.done (by kernel_rfl) ?_
  go_wp2_with fail
  refine bodyPost_ret (v:=D6 ⟨pl,pr,pf,pa⟩) (by simp [results,Tryz.results159,go_sem,D6]) rfl ⟨rfl,((Bf.refl _ _).alloc _).drew⟩
theorem a2l (b:Nat) (F:List Nat) (M:List Int) (H:List (Nat×Nat)) (N:Nat) (w:World) (h:Ej w b F M H N) :
 Calls Tryz.prog 97 #[.pointer (some ⟨b,0,none⟩)] w fun e w'=>e=.returned (.int .u64 (G8 M H).long)∧Bf [] w w':=by
 have hw:=zh b F M H N w h;obtain ⟨V,hV⟩:=AO (G8 M H);rw [hV] at hw ⊢;obtain ⟨pl,pr,pf,pa⟩:=V;unfold Hq D6 at hw;dsimp only at hw ⊢;have hfd:∀w:World,(Instr.field 236 (.agg #[.int .u64 pl,.int .i64 pr,.bool pf,.bool pa]) 0).run Tryz.prog w=.ok (.int .u64 pl) w:=fun _=>by kernel_rfl
 have HW:=AQ hw;clear hw hV h;go_enter Tryz.func97,Tryz.ntmps97
 go_wp2_with fail
 (with_reducible refine HW.out.mono ?_);rintro e w1 ⟨rfl,hu⟩;have HU:=AQ hu;clear hu;go_wp2_with fail
 go_ret
 exact ⟨rfl,HU.out⟩
theorem a8h (b:Nat) (F:List Nat) (M:List Int) (H:List (Nat×Nat)) (N:Nat) (w:World) (h:Ej w b F M H N) :
 Calls Tryz.prog 168 #[.pointer (some ⟨b,0,none⟩)] w fun e w'=>e=.returned (.int .i64 (G8 M H).runs)∧Bf [] w w':=by
 have hw:=zh b F M H N w h;obtain ⟨V,hV⟩:=AO (G8 M H);rw [hV] at hw ⊢;obtain ⟨pl,pr,pf,pa⟩:=V;unfold Hq D6 at hw;dsimp only at hw ⊢;have hfd:∀w:World,(Instr.field 236 (.agg #[.int .u64 pl,.int .i64 pr,.bool pf,.bool pa]) 1).run Tryz.prog w=.ok (.int .i64 pr) w:=fun _=>by kernel_rfl
 have HW:=AQ hw;clear hw hV h;go_enter Tryz.func168,Tryz.ntmps168
 go_wp2_with fail
 (with_reducible refine HW.out.mono ?_);rintro e w1 ⟨rfl,hu⟩;have HU:=AQ hu;clear hu;go_wp2_with fail
 go_ret
 exact ⟨rfl,HU.out⟩
