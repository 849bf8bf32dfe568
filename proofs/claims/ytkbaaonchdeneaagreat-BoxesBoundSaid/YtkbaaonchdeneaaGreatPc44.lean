/- cover.move: a span is held once more, or less. cover.place, cover.span. A cover: what it holds; -/
import Derived.Test.YtkbaaonchdeneaaGreatPc42
import Derived.Test.YtkbaaonchdeneaaGreatPc43
set_option maxHeartbeats 4000000
set_option maxRecDepth 100000
namespace Go.Proofs.YtkbaaonchdeneaaGreat
open Go.RowKit
open Go.ChangeMaps (setBlock heap_setBlock_same heap_setBlock_other)
attribute [local go_sem ↓] Go.wp_at_zero Go.wp_at_succ
theorem PD (w:World) (b:Nat) (o':Obj):Bj [b] w (setBlock w b o'):=
 ⟨rfl,rfl,rfl,by simp [setBlock],λk _ hk=>by
  have hne:b≠k:=λe=>hk (by simp [e])
  simp [setBlock,hne]⟩
theorem NI (w:World) (b:Nat) (o':Obj) (h:b<w.heap.size):(setBlock w b o').heap[b]? = some o':=by
 simp [setBlock,h]
def oN (c:Cnt) (n:Nat):List Int:=if n=0 then [] else oL c 0 n 0 (n+1)
def pN (c:Cnt) (M:List Int) (n:Nat):List Part:=if n=0 then [] else pL c (mf M) 0 n 0 (n+1)
def Ky (s:Nat×Nat) (n:Nat):Nat:=if s.1=s.2 then 0 else ent s.1 s.2 0 n
def vM (w:World) (b:Nat) (mv nv ov pv:Value) (hb N:Nat) (M:List Int) (L:List Nd) (O:List Int) (P:List Part) (root:Int) (q:Nat×Nat->Int) (k:Nat) (e:Ending) (w':World):Prop:=
 e=.returned (k:Int)/\(∃en,EX w' b mv nv ov pv hb M L O P root en)/\DN w' hb N q/\Bj (hb::Gl b ov pv) w w'
theorem vN (b:Nat) (mv nv ov pv:Value) (hb N:Nat) (M:List Int) (L:List Nd) (O O':List Int) (P P':List Part) (root en:Int) (w:World) (q:Nat×Nat->Int) (s1 s2:Nat) (y:Int) (k:Nat)
 (h:EX w b mv nv ov pv hb M L O P root en) (hq:DN w hb N q) (hN:N<1000000) (hs1:s1<1000000) (hs2:s2<1000000) (hy0 : -1<=y) (hy1:y<=1) (hq0:0<=q (s1,s2)) (hq1:q (s1,s2)<=1000000)
 (hch:∀w2,EX w2 b mv nv ov pv hb M L O P root 0->s1≠s2->Calls Tryz.prog 227 #[.pointer (some b),root,.agg #[(s1:Int),(s2:Int)],y] w2 (Ov w2 b mv nv ov pv hb M L O' P' root (k:Int)))
 (hk:s1=s2->k=0/\O'=O/\P'=P) :
 Calls Tryz.prog 157 #[.pointer (some b),.agg #[(s1:Int),(s2:Int)],y] w (vM w b mv nv ov pv hb (N+1) M L O' P' root (λu=>if u=(s1,s2) then q (s1,s2)+y else q u) k):=by
 have hwf:(Lit.int .i64 (q (s1,s2)+y)).wf=true:=by simp [Lit.wf,IntKind.min,IntKind.max,IntKind.signed,IntKind.bits];omega
 have hu1:Bj [] w (w.alloc (.cells #[(s1:Int),(s2:Int)] 230)):=(Bj.refl _ _).alloc _;have h1:=h.BF hu1;have hq1':=hq.upd hu1 (by simp);have x0:(w.alloc (.cells #[(s1:Int),(s2:Int)] 230)).cell? w.heap.size=some (.int .i64 (s1:Int)):=by rw [World.cell?_alloc_at _ _ _ _ rfl];rfl
 have x1:(w.alloc (.cells #[(s1:Int),(s2:Int)] 230)).cell? ⟨w.heap.size,1,none⟩=some (.int .i64 (s2:Int)):=by rw [World.cell?_alloc_at _ _ _ _ rfl];rfl
 have hz1:w.heap.size<(w.alloc (.cells #[(s1:Int),(s2:Int)] 230)).heap.size:=by simp
 have hbh:b≠hb:=h.bh;have hbF:b∈Gl b ov pv:=by simp [Gl]
 have hhl:hb<w.heap.size:=hq.lt;have JO:=AX h.lt;have hwq:IntKind.i64.wrap (q (s1,s2)+y)=q (s1,s2)+y:=IntWalk.i64_in _ ⟨by omega,by omega⟩;have HCH:=AX hch;have HKK:=AX hk;clear hch hk h hq;go_enter Tryz.func157,Tryz.ntmps157
 go_upto_region 1 with fail
 generalize (w.alloc (.cells #[(s1:Int),(s2:Int)] 230))=W1 at hu1 h1 hq1' x0 x1 hz1 |-;obtain ⟨st,o1,ME,LK0,rest⟩:=(show DN W1.drew hb N q from hq1').move hN (s1,s2) hs1 hs2 y hwf;have LK:(Instr.lookup 226 (.map (some hb)) (.agg #[(s1:Int),(s2:Int)]) false).run Tryz.prog W1.drew=.ok (.int .i64 (q (s1,s2))) W1.drew:=LK0;have ME1:(Instr.mapEntry 226 (.map (some hb)) (.agg #[(s1:Int),(s2:Int)])).run Tryz.prog W1.drew=.ok (.tuple #[.int .i64 (q (s1,s2)),(st:Int)]) (setBlock W1.drew hb o1):=ME;have a2Q:hb<W1.drew.heap.size:=hq1'.lt;have hw2:(setBlock W1.drew hb o1).heap[hb]? = some o1:=NI _ _ _ a2Q;have SU:=PD W1.drew hb o1;obtain ⟨LK2,o2,ES,hfin⟩:=rest _ hw2;have a5P:(Instr.lookup 226 (.map (some hb)) (.agg #[(s1:Int),(s2:Int)]) false).run Tryz.prog (setBlock W1.drew hb o1)=.ok (.int .i64 (q (s1,s2))) (setBlock W1.drew hb o1):=LK2;have SU2:=PD (setBlock W1.drew hb o1) hb o2;have YL:=hfin (setBlock (setBlock W1.drew hb o1) hb o2) (NI _ _ o2 (by simpa [setBlock] using a2Q));have UU:=SU.trans SU2;have Ih:=AX YL;have HUU:=AX UU;clear ME LK0 rest hfin YL UU SU2 hw2 a2Q LK2;generalize setBlock (setBlock W1.drew hb o1) hb o2=W3 at *;generalize setBlock W1.drew hb o1=W2 at *;obtain ⟨-,-,-,-,-,y5,-,-⟩:=h1.cells;have a7U:b<W1.heap.size:=lt_of_block h1.head;have LK2:=a5P;have y0:=x0;have y1:=x1;have H1:=AX h1;have a7V:=Ap SU LK2;clear a5P h1 hq1' x0 x1;refine Bo.start [7,10] (λw'=>w'.cell? ⟨b,5,none⟩=some (.map (some hb))/\w'.cell? w.heap.size=some (.int .i64 (s1:Int))/\w'.cell? ⟨w.heap.size,1,none⟩=some (.int .i64 (s2:Int))/\(Instr.lookup 226 (.map (some hb)) (.agg #[(s1:Int),(s2:Int)]) false).run Tryz.prog w'=.ok (.int .i64 (q (s1,s2))) w') (by kernel_rfl) ?_ λhS=>?_
 ·exact ⟨y5,y0,y1,LK⟩
 refine' Bo.mx 0 7 ?_
 refine' Bo.mx 1 8 ?_
 refine' Bo.mx 2 9 ?_
 refine' Bo.ty 2 3 10 ?_
 refine' Bo.ty 2 4 11 ?_
 refine' Bo.ty 2 5 12 ?_
 refine' Bo.mx 6 13 ?_
 refine' Bo.mx 7 14 ?_
 refine Bo.one (i:=8) (o:=⟨some 15,_,_,_,_,_⟩) rfl (by kernel_rfl) λK hK=>?_
 go_simp
 refine hK.out _ _ (λ_ h=>?_) ?_
 ·exact ⟨(SU.cell (p:=⟨b,5,none⟩) a7U (by simpa using hbh)).trans h.1,(SU.cell (p:=⟨w.heap.size,0,none⟩) hz1 (by simp;omega)).trans h.2.1,(SU.cell (p:=⟨w.heap.size,1,none⟩) hz1 (by simp;omega)).trans h.2.2.1,LK2⟩
 clear hK K;try simp only [Act.put,sA,sZ,sS]
 refine' Bo.mx 9 16 ?_
 refine Bo.one (i:=10) (o:=⟨none,_,_,_,_,_⟩) rfl (by kernel_rfl) λK hK=>?_
 go_simp
 refine hK.out _ _ (λh=>(by cases h)) ?_
 clear hK K;try simp only [Act.put,sA,sZ,sS]
 refine Bo.done (by kernel_rfl) ?_
 have h3:=(H1.out.BF ((Bj.refl [] W1).drew)).upd HUU.out (by simpa using hbh) (λy hy hc=>H1.out.hm (by simp at hc;rw [<-hc];exact hy)) (λy hy hc=>H1.out.hn (by simp at hc;rw [<-hc];exact hy)) (λy hy hc=>H1.out.ho (by simp at hc;rw [<-hc];exact hy)) (λy hy hc=>H1.out.hp (by simp at hc;rw [<-hc];exact hy));have z0:W3.cell? w.heap.size=some (.int .i64 (s1:Int)):=(HUU.out.cell (p:=⟨w.heap.size,0,none⟩) hz1 (by simp;omega)).trans y0;have z1:W3.cell? ⟨w.heap.size,1,none⟩=some (.int .i64 (s2:Int)):=(HUU.out.cell (p:=⟨w.heap.size,1,none⟩) hz1 (by simp;omega)).trans y1;have hz3:w.heap.size<W3.heap.size:=Bg hz1 HUU.out.size;obtain ⟨-,-,-,-,-,-,c6,cf⟩:=h3.cells;have f6:=cf 6;have hu3:Bj [hb] w W3:=((hu1.drew).mono (by simp)).trans HUU.out;have H3:=AX h3;have EJ:=AX hu3;clear h3 hu3 hu1 cf y5 y0 y1 LK LK2 ME1 ES SU a7V;by_cases hs:s1=s2
 ·obtain ⟨rfl,rfl,rfl⟩:=HKK.out hs;have hd:((s1:Int)==(s2:Int))=true:=by rw [hs];simp
  have HE:=AX hs;clear hs;go_wp2_with fail
  go_ret
  exact ⟨rfl,⟨_,H3.out⟩,Ih.out,EJ.out.mono (by simp)⟩
 ·have hd:((s1:Int)==(s2:Int))=false:=by simp;omega
  have HS:=AX hs;clear hs;have hbl:(⟨b,6,none⟩:Addr)≠⟨w.heap.size,0,none⟩:=λe=>by have:=JO.out b (by simp [Gl]);injection e with e _ _;omega
  have a5Q:(⟨b,6,none⟩:Addr)≠⟨w.heap.size,1,none⟩:=λe=>by injection e with _ e _;omega
  have h4:=H3.out.enter 0;have k0:(W3.setCell ⟨b,6,none⟩ (.int .i64 0)).cell? w.heap.size=some (.int .i64 (s1:Int)):=(World.cell?_setCell_other _ _ _ _ hbl).trans z0;have k1:(W3.setCell ⟨b,6,none⟩ (.int .i64 0)).cell? ⟨w.heap.size,1,none⟩=some (.int .i64 (s2:Int)):=(World.cell?_setCell_other _ _ _ _ a5Q).trans z1;have HK:=Ap k0 k1;have HF4:=AX (show DN (W3.setCell ⟨b,6,none⟩ (.int .i64 0)) hb (N+1) (λu=>if u=(s1,s2) then q (s1,s2)+y else q u) from Ih.out.upd ((Bj.refl [b] W3).setCell (p:=⟨b,6,none⟩) (.inl (by simp)) _) (by simpa using Ne.symm hbh));have H4:=AX h4;have U4:=AX (show Bj (hb::Gl b ov pv) w (W3.setCell ⟨b,6,none⟩ (.int .i64 0)) from (EJ.out.mono (by simp)).setCell (.inl (by simp [Gl])) _);clear k0 k1 h4 hbl a5Q;go_upto_region 5 with fail
  generalize W3.setCell ⟨b,6,none⟩ (.int .i64 0)=W4 at HK H4 U4 HF4 |-;have r1:W4.drew.cell? ⟨b,1,none⟩=some (.int .i64 root):=H4.out.cells.2.1;have r0:=HK.out;have hc:=HCH.out W4.drew (H4.out.BF ((Bj.refl [] W4).drew)) HS.out;have HC:=AX hc;clear hc z0 z1 c6 f6;refine Bo.start [7] (λw'=>w'.cell? ⟨b,1,none⟩=some (.int .i64 root)/\w'.cell? w.heap.size=some (.int .i64 (s1:Int))/\w'.cell? ⟨w.heap.size,1,none⟩=some (.int .i64 (s2:Int))) (by kernel_rfl) ?_ λhS=>?_
  ·exact ⟨r1,r0⟩
  refine' Bo.mx 0 25 ?_
  refine' Bo.mx 1 26 ?_
  refine' Bo.mx 2 27 ?_
  refine' Bo.mx 3 28 ?_
  refine' Bo.ty 1 4 29 ?_
  refine' Bo.ty 1 5 30 ?_
  refine' Bo.mx 6 31 ?_
  refine Bo.one (i:=7) (o:=⟨some 32,_,_,_,_,_⟩) rfl (by kernel_rfl) λK hK=>?_
  go_simp
  go_at_call 227
  go_fit HC.out
  rintro e w6 ⟨rfl,h6,Jb⟩;have l6:w6.cell? ⟨b,6,none⟩=some (.int .i64 (k:Int)):=h6.cells.2.2.2.2.2.2.1;have H6:=AX h6;have Ik:=AX Jb;clear h6 Jb;refine hK.out _ _ (λh=>(by cases h)) ?_
  clear hK K;try simp only [Act.put,sA,sZ,sS]
  refine Bo.done (by kernel_rfl) ?_
  go_wp2_with fail
  go_ret
  have hF:DN w6 hb (N+1) (λu=>if u=(s1,s2) then q (s1,s2)+y else q u):=by
   have g1:DN W4.drew hb (N+1) (λu=>if u=(s1,s2) then q (s1,s2)+y else q u):=HF4.out;exact g1.upd Ik.out (by simp [Gl,hbh.symm,H4.out.ho,H4.out.hp])
  exact ⟨rfl,⟨_,H6.out⟩,hF,U4.out.drew.trans (Ik.out.mono (λx hx=>.inl (List.mem_cons_of_mem _ hx)))⟩
theorem Du.le {M:List Int} (h:Du M):M.Pairwise (·<=·):=h.rise.imp λh=>Int.le_of_lt h
theorem V9 {M:List Int} (h:M.Pairwise (· < ·)) (x:Int):x∈M↔M[below M x]? = some x:=by
 constructor
 ·intro hx;obtain ⟨i,hi⟩:=List.mem_iff_getElem?.1 hx;have hat:=JD (h.imp λh=>Int.le_of_lt h) x;have h1:i<=below M x\/below M x<i:=by omega
  have h2:=hat i x hi;have h3:¬i<below M x:=λhc=>by have:=h2.2 hc;omega
  rcases Nat.lt_or_ge (below M x) i with h4 | h4
  ·have hil:=(AZ hi).1;have hb:M[below M x]? = some (M[below M x]'(by omega)):=Ba _;have h5:=hat (below M x) _ hb;have h6:=List.pairwise_iff_getElem.1 h (below M x) i (by omega) hil h4;have h7:=(AZ hi).2;rw [h7] at h6;have:=h5.1 h6;omega
  ·have:i=below M x:=by omega
   rw [<-this];exact hi
 ·intro hx;exact List.mem_of_getElem? hx
theorem vO {M:List Int} {x:Int} (h:x∈M):decide (x∈M)=true:=decide_eq_true h
theorem vP (b:Nat) (mv nv ov pv:Value) (hb:Nat) (M:List Int) (L:List Nd) (O:List Int) (P:List Part) (root en:Int) (w:World) (x:Int) (h:EX w b mv nv ov pv hb M L O P root en) (hM:Du M) :
 Calls Tryz.prog 226 #[.pointer (some b),x] w λe w'=>e=.returned (.tuple #[.int .i64 (below M x:Nat),.bool (decide (x∈M))])/\Bj [] w w':=by
 have hf:=a2J mv M x w hM.le (See.BU h.marks) (by have:=hM.len;omega);have hmem:=V9 hM.rise x;have hbl:=below_le M x;have c0:=h.cells.1;obtain ⟨Am,Cm,rfl⟩:=BD h.marks;have HF:=AX hf;have H:=AX h;have HME:=AX hmem;have b0:(0:Int)<=((below M x:Nat):Int):=AY _;obtain ⟨p,hp⟩:=AU (below M x);rw [hp] at HF HME hbl b0 |-;have PU:=AX hM.len;have nN:=AX hbl;clear hf h hmem hp hbl hM;go_enter Tryz.func226,Tryz.ntmps226
 go_wp2_with fail
 go_fit HF.out
 rintro e w1 ⟨⟨k,rfl,hk⟩,hu⟩;have HU:=AX hu;have h1:=H.out.BF hu;have d0:=h1.cells.1;have H1:=AX h1;clear hu hk h1 c0;by_cases hlt:p<M.length
 ·obtain ⟨y,hy⟩:∃y,M[p]? = some y:=⟨_,Ba hlt⟩;obtain ⟨gm,Cm',hmm,em,-⟩:=Ei H1.out.marks hy
  cases hmm
  have m0:w1.cell? ⟨gm,p,none⟩=some (.int .i64 y):=by
   have:=em 0 _ rfl;simpa [KL] using this
  have b1:(p:Int)<(M.length:Int):=by omega
  have HY:=AX hy;clear hy em;by_cases hyx:y=x
  ·have hin:x∈M:=HME.2 (by rw [HY.out,hyx]);have kC:=AX (vO hin);have hd:(y==x)=true:=by simp [hyx]
   clear hyx hin;go_wp2_with fail
   go_quiet (fail)
   go_wp2_with fail
   go_ret2
   exact ⟨by rw [kC.out];rfl,HU.out.drewN _⟩
  ·have hin:decide (x∈M)=false:=decide_eq_false (λhc=>hyx (by have:=HME.1 hc;rw [HY.out] at this;exact Option.some.inj this));have kC:=AX hin;have hd:(y==x)=false:=by simp [hyx]
   clear hyx hin;go_wp2_with fail
   go_quiet (fail)
   go_wp2_with fail
   go_ret2
   exact ⟨by rw [kC.out];rfl,HU.out.drewN _⟩
 ·have hin:decide (x∈M)=false:=decide_eq_false (λhc=>by have:=(AZ (HME.1 hc)).1;omega);have kC:=AX hin;have hd:decide ((p:Int)<(M.length:Int))=false:=decide_eq_false (by omega);have hd2:decide (p<M.length)=false:=decide_eq_false hlt;clear hin;go_wp2_with fail
  go_quiet (fail)
  go_wp2_with fail
  go_ret2
  exact ⟨by rw [kC.out];rfl,HU.out.drewN _⟩
def FW (M:List Int) (lo hi:Int):Bool:=decide (lo∈M)&&decide (hi∈M)&&decide (below M lo<=below M hi)
def JF (M:List Int) (lo hi:Int) (w:World) (e:Ending) (w':World):Prop:=
 e=.returned (.tuple #[.agg #[.int .i64 (below M lo:Nat),.int .i64 (below M hi:Nat)],.bool (FW M lo hi)])/\Bj [] w w'
theorem a1l (b:Nat) (mv nv ov pv:Value) (hb:Nat) (M:List Int) (L:List Nd) (O:List Int) (P:List Part) (root en:Int) (w:World) (lo hi:Int) (h:EX w b mv nv ov pv hb M L O P root en) (hM:Du M) :
 Calls Tryz.prog 156 #[.pointer (some b),lo,hi] w (JF M lo hi w):=by
 have hu0:Bj [] w (w.alloc (.cells #[.int .i64 0,.int .i64 0] 230)):=(Bj.refl _ _).alloc _;have hp1:=vP b mv nv ov pv hb M L O P root en _ lo (h.BF hu0) hM;have hp2:=λw1 (hu:Bj [] w w1)=>vP b mv nv ov pv hb M L O P root en w1 hi (h.BF hu) hM
 have hr0:(w.alloc (.cells #[.int .i64 0,.int .i64 0] 230)).heap[w.heap.size]? = some (.cells #[.int .i64 0,.int .i64 0] 230 (0,0)):=heap_alloc_new w _;unfold JF FW;obtain ⟨p,hp⟩:=AU (below M lo);obtain ⟨q,hq⟩:=AU (below M hi);obtain ⟨b1,hb1⟩:=AU (decide (lo∈M));obtain ⟨b2,hb2⟩:=AU (decide (hi∈M));obtain ⟨b3,hb3⟩:∃b3,decide (p<=q)=b3:=⟨_,rfl⟩;rw [hp,hb1] at hp1 |-;rw [hq,hb2] at hp2 |-;rw [hb3];have H1:=AX hp1;have H2:=AX hp2;have Gu:=AX hu0;have HR0:=AX hr0;have HN:=AX (show w.heap.size<(w.alloc (.cells #[.int .i64 0,.int .i64 0] 230)).heap.size by simp);have bp:(0:Int)<=(p:Int):=AY _;have bq:(0:Int)<=(q:Int):=AY _;clear hp1 hp2 hu0 hr0 h hM hp hq hb1 hb2;go_enter Tryz.func156,Tryz.ntmps156
 go_wp2_with fail
 go_fit H1.out
 rintro e w1 ⟨rfl,hu1⟩;have QZ:=AX (H2.out w1 (Gu.out.trans hu1));have DJ:=AX hu1;clear hu1;go_wp2_with fail
 go_fit QZ.out
 rintro e w2 ⟨rfl,hu2⟩;have hh:=(hu2.block w.heap.size (Bg HN.out DJ.out.size) (by simp)).trans ((DJ.out.block w.heap.size HN.out (by simp)).trans HR0.out);have e0:w2.cell? w.heap.size=some (.int .i64 0):=by simp [World.cell?,hh]
 have e1:w2.cell? ⟨w.heap.size,1,none⟩=some (.int .i64 0):=by simp [World.cell?,hh]
 have f0:w2.frozen? w.heap.size=false:=by simp [World.frozen?,hh]
 have f1:w2.frozen? ⟨w.heap.size,1,none⟩=false:=by simp [World.frozen?,hh]
 have Ej:=AX ((((Gu.out.trans DJ.out).trans hu2).setCell (p:=⟨w.heap.size,0,none⟩) (.inr (Nat.le_refl _)) (.int .i64 (p:Int))).setCell (p:=⟨w.heap.size,1,none⟩) (.inr (Nat.le_refl _)) (.int .i64 (q:Int)));clear hh hu2
 cases b1
 ·go_wp2_with fail
  refine bodyPost_ret (v:=.tuple #[.agg #[(p:Int),(q:Int)],.bool false]) (by simp [results,Tryz.results156,go_sem,e0,e1]) rfl ⟨rfl,Ej.out⟩
 ·cases b2
  ·go_wp2_with fail
   refine bodyPost_ret (v:=.tuple #[.agg #[(p:Int),(q:Int)],.bool false]) (by simp [results,Tryz.results156,go_sem,e0,e1]) rfl ⟨rfl,Ej.out⟩
  ·go_wp2_with fail
   refine bodyPost_ret (v:=.tuple #[.agg #[(p:Int),(q:Int)],.bool b3]) (by simp [results,Tryz.results156,go_sem,e0,e1]) rfl ⟨rfl,Ej.out⟩
def DR (w:World) (b:Nat) (F:List Nat) (M:List Int) (H:List (Nat×Nat)) (N:Nat):Prop:=
 ∃mv nv ov pv hb en,F=b::hb::(blk mv++(blk nv++(blk ov++blk pv)))/\EX w b mv nv ov pv hb M (CX (M.length - 1)) (oN (Ey H) (M.length - 1)) (pN (Ey H) M (M.length - 1)) (II (M.length - 1)) en/\DN w hb N (λs=>(H.count s:Int))
theorem DR.upd {w w':World} {b:Nat} {F:List Nat} {M:List Int} {H:List (Nat×Nat)} {N:Nat} (h:DR w b F M H N) {G:List Nat} (hu:Bj G w w') (hd:∀y∈F,y∉G):DR w' b F M H N:=by
 obtain ⟨mv,nv,ov,pv,hb,en,rfl,h1,h2⟩:=h;exact ⟨mv,nv,ov,pv,hb,en,rfl,h1.upd hu (hd b (by simp)) (λy hy=>hd y (by simp [hy])) (λy hy=>hd y (by simp [hy])) (λy hy=>hd y (by simp [hy])) (λy hy=>hd y (by simp [hy])),h2.upd hu (hd hb (by simp))⟩
theorem DR.BF {w w':World} {b:Nat} {F:List Nat} {M:List Int} {H:List (Nat×Nat)} {N:Nat} (h:DR w b F M H N) (hu:Bj [] w w'):DR w' b F M H N:=h.upd hu (by simp)
theorem DR.lt {w:World} {b:Nat} {F:List Nat} {M:List Int} {H:List (Nat×Nat)} {N:Nat} (h:DR w b F M H N):∀y∈F,y<w.heap.size:=by
 obtain ⟨mv,nv,ov,pv,hb,en,rfl,h1,h2⟩:=h;intro y hy;simp only [List.mem_cons,List.mem_append] at hy;rcases hy with rfl | rfl | hy | hy | hy | hy
 ·exact lt_of_block h1.head
 ·exact h2.lt
 ·exact BJ h1.marks y hy
 ·exact BJ h1.nodes y hy
 ·exact BJ h1.often y hy
 ·exact BJ h1.parts y hy
def XJ (M:List Int) (H:List (Nat×Nat)):Prop:=∀s∈H,s.1<=s.2/\s.2<M.length
theorem l9 (n:Nat) (h:n≠0):G9 (CX n) 0 n 0:=⟨[],[],by unfold CX;rw [if_neg h];simp,rfl⟩
theorem Y6 {n:Nat} (h:n<1000000):lg n<=20:=BP (n - 1) 20 (by omega)
theorem UE {c c':Cnt} {s:Nat×Nat} {y:Int} (h:Step c c' s y) (he:s.1=s.2) {f t:Nat} (pf pt:Nat) (hf:f<t):FU c c' f t pf pt:=by
 have hz:∀f' t' KF KG,f'<t'->can s f' t' KF KG=0:=λf' t' KF KG hlt=>by unfold can;rw [if_neg (by omega)]
 exact ⟨by rw [h,hz _ _ _ _ hf];omega,λf' t' KF KG _ a2 _ _ _=>by rw [h,hz _ _ _ _ a2];omega⟩
theorem a0q (H:List (Nat×Nat)) (f t pf pt:Nat):Ey H f t pf pt<=H.length:=by
 induction H with
 |nil=>simp [Ey]
 |cons s H ih=>
  rw [Jy,List.length_cons];have:can s f t pf pt<=1:=by unfold can;split<;>simp
  omega
def a2R (w:World) (b:Nat) (F:List Nat) (M:List Int) (H:List (Nat×Nat)) (N k:Nat) (e:Ending) (w':World):Prop:=
 e=.returned (k:Int)/\DR w' b F M H N/\Bj F w w'
theorem moveC (b:Nat) (F:List Nat) (M:List Int) (H H':List (Nat×Nat)) (N:Nat) (w:World) (s:Nat×Nat) (y:Int) (h:DR w b F M H N) (hM:Du M) (hN:N<1000000) (hH:H.length<=1000000) (hs:s.1<=s.2/\s.2<M.length)
 (hst:Step (Ey H) (Ey H') s y) (hct:∀u,(H'.count u:Int)=if u=s then (H.count s:Int)+y else (H.count u:Int)) (hy0 : -1<=y) (hy1:y<=1) :
 Calls Tryz.prog 157 #[.pointer (some b),.agg #[(s.1:Int),(s.2:Int)],y] w (a2R w b F M H' (N+1) (Ky s (M.length - 1))):=by
 obtain ⟨mv,nv,ov,pv,hb,en,rfl,h1,h2⟩:=h;obtain ⟨s1,s2⟩:=s;dsimp only at hs |-;have hl:=hM.len;have hcl:=List.count_le_length (a:=(s1,s2)) (l:=H);obtain ⟨n,hn⟩:=AU (M.length - 1);rw [hn] at h1 |-
 have hmv:=vN b mv nv ov pv hb N M (CX n) (oN (Ey H) n) (oN (Ey H') n) (pN (Ey H) M n) (pN (Ey H') M n) (II n) en w _ s1 s2 y (Ky (s1,s2) n) h1 h2 hN (by omega) (by omega) hy0 hy1 (by omega) (by omega)
  (λw2 hw2 hne=>by
   have hn0:n≠0:=by omega
   have hep:=eU (a:=s1) (b:=s2) n 0 n (by omega);have hlg:=Y6 (n:=n) (by omega);have e1:Ky (s1,s2) n=ent s1 s2 0 n:=by unfold Ky;rw [if_neg hne]
   have e2:II n=((0+2*(n - 0) - 2:Nat):Int):=by unfold II;rw [if_neg hn0];omega
   unfold oN pN at hw2 |-;rw [if_neg hn0,if_neg hn0] at hw2;rw [if_neg hn0,if_neg hn0,e1]
   have:=a2K b mv nv ov pv hb M (CX n) (II n) (Ey H) (Ey H') s1 s2 y hM hst hy0 hy1 (λf t pf pt=>⟨QH _ _ _ _ _,by have:=a0q H f t pf pt;omega⟩)
    n 0 n 0 (n+1) 0 [] [] [] [] 0 w2 (by omega) (by omega) (by omega) rfl rfl (l9 n hn0) (by omega) (by omega) (by rw [Nat.sub_zero] at hep;omega) (by simpa using hw2)
   rw [<-e2] at this;simpa using this)
  (λhe=>by
   refine ⟨by unfold Ky;rw [if_pos he],?_,?_⟩
   ·unfold oN;by_cases hn0:n=0
    ·rw [if_pos hn0,if_pos hn0]
    ·rw [if_neg hn0,if_neg hn0,Sv (by omega) (UE hst he 0 (n+1) (by omega))]
   ·unfold pN;by_cases hn0:n=0
    ·rw [if_pos hn0,if_pos hn0]
    ·rw [if_neg hn0,if_neg hn0,Sz (by omega) (UE hst he 0 (n+1) (by omega))])
 refine hmv.mono ?_
 rintro e w' ⟨rfl,⟨en',g1⟩,g2,g3⟩;refine ⟨rfl,⟨mv,nv,ov,pv,hb,en',rfl,by rw [hn];exact g1,?_⟩,g3.mono λx hx=>?_⟩
 ·have e:(λs=>(H'.count s:Int))=λu=>if u=(s1,s2) then (H.count (s1,s2):Int)+y else (H.count u:Int):=funext hct
  rw [e];exact g2
 ·simp only [Gl,List.mem_cons,List.mem_append] at hx;refine .inl ?_
  simp only [List.mem_cons,List.mem_append];rcases hx with rfl | rfl | hx | hx<;>simp [*]
theorem DR.a1m {w:World} {b:Nat} {F:List Nat} {M:List Int} {H:List (Nat×Nat)} {N:Nat} (h:DR w b F M H N):∃hb,w.cell? ⟨b,5,none⟩=some (.map (some hb))/\DN w hb N (λs=>(H.count s:Int)):=by
 obtain ⟨mv,nv,ov,pv,hb,en,rfl,h1,h2⟩:=h;exact ⟨hb,h1.cells.2.2.2.2.2.1,h2⟩
theorem XK (b:Nat) (F:List Nat) (M:List Int) (H:List (Nat×Nat)) (N:Nat) (w:World) (h:DR w b F M H N) :
 Calls Tryz.prog 155 #[.pointer (some b)] w λe w'=>e=.returned (.bool false)/\w=w':=by
 obtain ⟨hb,c5,-⟩:=h.a1m;have hmn:∀(w:World),(binOp .eql 226 (.map (some hb)) (.map none)).run Tryz.prog w=.ok (.bool false) w:=λw=>run_eql_map_nil (P:=Tryz.prog) w 226 230 3 (some hb) Tryz.underlying226
 clear h;go_enter Tryz.func155,Tryz.ntmps155
 go_wp2_with fail
 go_ret
 exact ⟨rfl,rfl⟩
def CJ (M:List Int) (lo hi:Int):Nat×Nat:=(below M lo,below M hi)
theorem Qs {M:List Int} {lo hi:Int} (hM:Du M) (h:FW M lo hi=true):(CJ M lo hi).1<=(CJ M lo hi).2/\(CJ M lo hi).2<M.length:=by
 unfold FW at h;simp only [Bool.and_eq_true,decide_eq_true_eq] at h;have:=(AZ ((V9 hM.rise hi).1 h.1.2)).1;exact ⟨h.2,this⟩
def Qp (M:List Int) (H:List (Nat×Nat)) (lo hi:Int):List (Nat×Nat):=if FW M lo hi=true then CJ M lo hi::H else H
def Y7 (M:List Int) (lo hi:Int):Nat:=if FW M lo hi=true then Ky (CJ M lo hi) (M.length - 1) else 0
def mD (M:List Int) (lo hi:Int):Int:=if FW M lo hi=true then 0 else 2
def JG (M:List Int) (H:List (Nat×Nat)) (lo hi:Int):List (Nat×Nat):=if FW M lo hi=true then H.erase (CJ M lo hi) else H
def NJ (M:List Int) (H:List (Nat×Nat)) (lo hi:Int):Nat:=if FW M lo hi=true then (if CJ M lo hi∈H then Ky (CJ M lo hi) (M.length - 1) else 0) else 0
def Ri (M:List Int) (H:List (Nat×Nat)) (lo hi:Int):Int:=if FW M lo hi=true then (if CJ M lo hi∈H then 0 else 160) else 2
def XL (w:World) (b:Nat) (F:List Nat) (M:List Int) (H:List (Nat×Nat)) (N k:Nat) (x:Int) (e:Ending) (w':World):Prop:=
 e=.returned (.tuple #[(k:Int),x])/\(∃N',N'<=N+1/\DR w' b F M H N')/\Bj F w w'
theorem a0r {M:List Int} {H:List (Nat×Nat)} {lo hi:Int} (hM:Du M) (h:XJ M H):XJ M (Qp M H lo hi):=by
 unfold Qp;split
 ·rename_i hs
  intro s hs';rcases List.mem_cons.1 hs' with rfl | hs'
  ·exact Qs hM hs
  ·exact h s hs'
 ·exact h
theorem vS {M:List Int} {H:List (Nat×Nat)} {lo hi:Int} (h:XJ M H):XJ M (JG M H lo hi):=by
 unfold JG;split
 ·exact λs hs=>h s (List.mem_of_mem_erase hs)
 ·exact h
theorem a5R (b:Nat) (F:List Nat) (M:List Int) (H:List (Nat×Nat)) (N:Nat) (w:World) (lo hi:Int) (h:DR w b F M H N) (hM:Du M) (hN:N<1000000) (hH:H.length<=1000000) :
 Calls Tryz.prog 94 #[.pointer (some b),lo,hi] w (XL w b F M (Qp M H lo hi) N (Y7 M lo hi) (mD M lo hi)):=by
 have hnn:=XK b F M H N w h
 have hsp:Calls Tryz.prog 156 #[.pointer (some b),lo,hi] w (JF M lo hi w):=by
  obtain ⟨mv,nv,ov,pv,hb,en,rfl,h1,h2⟩:=h;exact a1l b mv nv ov pv hb M _ _ _ _ en w lo hi h1 hM
 have HN:=AX hnn;unfold JF at hsp;by_cases hok:FW M lo hi=true
 ·have hin:=Qs hM hok
  have hmv:=λw1 (hu:Bj [] w w1)=>moveC b F M H (CJ M lo hi::H) N w1 (CJ M lo hi) 1 (h.BF hu) hM hN hH hin (λf t pf pt=>by rw [Jy];omega) (λu=>by
   rw [List.count_cons];by_cases hu:u=CJ M lo hi
   ·rw [if_pos hu,hu];simp
   ·rw [if_neg hu,if_neg (by simpa using Ne.symm hu)];simp) (by omega) (by omega)
  have e1:Qp M H lo hi=CJ M lo hi::H:=by unfold Qp;rw [if_pos hok]
  have e2:Y7 M lo hi=Ky (CJ M lo hi) (M.length - 1):=by unfold Y7;rw [if_pos hok]
  have e3:mD M lo hi=0:=by unfold mD;rw [if_pos hok]
  rw [e1,e2,e3];rw [hok] at hsp;unfold CJ at hmv |-;obtain ⟨p,hp⟩:=AU (below M lo);obtain ⟨q,hq⟩:=AU (below M hi);rw [hp,hq] at hsp hmv |-;dsimp only at hmv;obtain ⟨K,hK⟩:=AU (Ky (p,q) (M.length - 1));rw [hK] at hmv |-;have HS:=AX hsp;have HM:=AX hmv;clear hnn hsp hmv hok hin e1 e2 e3 hp hq hK h hM;go_enter Tryz.func94,Tryz.ntmps94
  go_wp2_with fail
  go_fit HN.out
  rintro e w' ⟨rfl,rfl⟩;go_wp2_with fail
  go_fit HS.out
  rintro e w1 ⟨rfl,hu1⟩;have hu2:Bj [] w (w1.alloc (.cells #[(p:Int),(q:Int)] 230)):=hu1.alloc _;have oz:=AX (HM.out _ hu2);have Ej:=AX hu2;clear hu1 hu2;go_wp2_with fail
  go_fit oz.out
  rintro e w2 ⟨rfl,g1,g2⟩;have HG:=Ap g1 g2;clear g1 g2;go_wp2_with fail
  go_ret2
  exact ⟨rfl,⟨N+1,Nat.le_refl _,HG.1⟩,(Ej.out.mono (by simp)).trans HG.2⟩
 ·have e1:Qp M H lo hi=H:=by unfold Qp;rw [if_neg hok]
  have e2:Y7 M lo hi=0:=by unfold Y7;rw [if_neg hok]
  have e3:mD M lo hi=2:=by unfold mD;rw [if_neg hok]
  have vT:FW M lo hi=false:=by simpa using hok
  rw [e1,e2,e3];rw [vT] at hsp;obtain ⟨p,hp⟩:=AU (below M lo);obtain ⟨q,hq⟩:=AU (below M hi);rw [hp,hq] at hsp;have HS:=AX hsp;have HH:=AX h;clear hnn hsp hok vT e1 e2 e3 hp hq h hM;go_enter Tryz.func94,Tryz.ntmps94
  go_wp2_with fail
  go_fit HN.out
  rintro e w' ⟨rfl,rfl⟩;go_wp2_with fail
  go_fit HS.out
  rintro e w1 ⟨rfl,hu1⟩;have DJ:=AX hu1;clear hu1;go_wp2_with fail
  go_ret2
  exact ⟨rfl,⟨N,Nat.le_succ N,HH.out.BF (DJ.out.alloc _)⟩,(DJ.out.alloc _).mono (by simp)⟩
attribute [local go_sem ↓] Go.wp_at_zero Go.wp_at_succ
theorem a1n (b:Nat) (F:List Nat) (M:List Int) (H:List (Nat×Nat)) (N:Nat) (w:World) (lo hi:Int) (h:DR w b F M H N) (hM:Du M) (hN:N<1000000) (hH:H.length<=1000000) :
 Calls Tryz.prog 95 #[.pointer (some b),lo,hi] w (XL w b F M (JG M H lo hi) N (NJ M H lo hi) (Ri M H lo hi)):=by
 have hnn:=XK b F M H N w h
 have hsp:Calls Tryz.prog 156 #[.pointer (some b),lo,hi] w (JF M lo hi w):=by
  obtain ⟨mv,nv,ov,pv,hb,en,rfl,h1,h2⟩:=h;exact a1l b mv nv ov pv hb M _ _ _ _ en w lo hi h1 hM
 have HN:=AX hnn;unfold JF at hsp;by_cases hok:FW M lo hi=true
 ·have hin:=Qs hM hok;rw [hok] at hsp;have hl:=hM.len
  have hlk:∀w1,Bj [] w w1->∃hb,w1.cell? ⟨b,5,none⟩=some (.map (some hb))/\∀n,(Instr.lookup 226 (.map (some hb)) (.agg #[.int .i64 (below M lo:Nat),.int .i64 (below M hi:Nat)]) false).run Tryz.prog (w1.drewN n)=.ok (.int .i64 (H.count (CJ M lo hi):Int)) (w1.drewN n):=λw1 hu=>by
   obtain ⟨hb,c5,h2⟩:=(h.BF hu).a1m;unfold CJ at hin;dsimp only at hin;exact ⟨hb,c5,λn=>(show DN (w1.drewN n) hb N (λs=>(H.count s:Int)) from h2).look (CJ M lo hi) (by unfold CJ;dsimp only;omega) (by unfold CJ;dsimp only;omega)⟩
  by_cases hmem:CJ M lo hi∈H
  ·have hcp:0<H.count (CJ M lo hi):=List.count_pos_iff.2 hmem
   have hmv:=λw1 (hu:Bj [] w w1)=>moveC b F M H (H.erase (CJ M lo hi)) N w1 (CJ M lo hi) (-1) (h.BF hu) hM hN hH hin (λf t pf pt=>by
    rw [jm (List.perm_cons_erase hmem),Jy];omega) (λu=>by
    rw [List.count_erase];by_cases hu:u=CJ M lo hi
    ·rw [if_pos hu,hu];simp;omega
    ·rw [if_neg hu,if_neg (by simpa using Ne.symm hu)];simp) (by omega) (by omega)
   have e1:JG M H lo hi=H.erase (CJ M lo hi):=by unfold JG;rw [if_pos hok]
   have e2:NJ M H lo hi=Ky (CJ M lo hi) (M.length - 1):=by unfold NJ;rw [if_pos hok,if_pos hmem]
   have e3:Ri M H lo hi=0:=by unfold Ri;rw [if_pos hok,if_pos hmem]
   rw [e1,e2,e3];obtain ⟨ct,hct⟩:=AU (H.count (CJ M lo hi));rw [hct] at hlk hcp;have hd:((ct:Int)==0)=false:=by simp;omega
   unfold CJ at hmv |-;obtain ⟨p,hp⟩:=AU (below M lo);obtain ⟨q,hq⟩:=AU (below M hi);rw [hp,hq] at hsp hmv hlk |-;dsimp only at hmv;obtain ⟨K,hK⟩:=AU (Ky (p,q) (M.length - 1));rw [hK] at hmv |-;obtain ⟨H',hH'⟩:=AU (H.erase (p,q));rw [hH'] at hmv |-;have HS:=AX hsp;have HM:=AX hmv;have HL:=AX hlk;clear hnn hsp hmv hok hin e1 e2 e3 hp hq hK h hM hlk hmem hct hcp hl hH';go_enter Tryz.func95,Tryz.ntmps95
   go_wp2_with fail
   go_fit HN.out
   rintro e w' ⟨rfl,rfl⟩;go_wp2_with fail
   go_fit HS.out
   rintro e w1 ⟨rfl,hu1⟩;have hu2:Bj [] w (w1.alloc (.cells #[(p:Int),(q:Int)] 230)):=hu1.alloc _;have x0:(w1.alloc (.cells #[(p:Int),(q:Int)] 230)).cell? w1.heap.size=some (.int .i64 (p:Int)):=by rw [World.cell?_alloc_at _ _ _ _ rfl];rfl
   have x1:(w1.alloc (.cells #[(p:Int),(q:Int)] 230)).cell? ⟨w1.heap.size,1,none⟩=some (.int .i64 (q:Int)):=by rw [World.cell?_alloc_at _ _ _ _ rfl];rfl
   have Ej:=AX hu2;clear hu1 hu2;go_upto_region 6 with fail
   generalize (w1.alloc (.cells #[(p:Int),(q:Int)] 230))=W2 at x0 x1 Ej |-;obtain ⟨hb,c5',lk⟩:=HL.out _ Ej.out;go_quiet (fail)
   have x0':(W2.drewN nq).cell? w1.heap.size=some (.int .i64 (p:Int)):=x0;have x1':(W2.drewN nq).cell? ⟨w1.heap.size,1,none⟩=some (.int .i64 (q:Int)):=x1;have oz:=AX (HM.out _ (Ej.out.drewN nq));have EJ:=AX (Ej.out.drewN nq);clear lk c5' x0 x1 HL;generalize W2.drewN nq=W3 at x0' x1' oz EJ |-;go_wp2_with fail
   go_fit oz.out
   rintro e w2 ⟨rfl,g1,g2⟩;have HG:=Ap g1 g2;clear g1 g2;go_wp2_with fail
   go_ret2
   exact ⟨rfl,⟨N+1,Nat.le_refl _,HG.1⟩,(EJ.out.mono (by simp)).trans HG.2⟩
  ·have hcp:H.count (CJ M lo hi)=0:=List.count_eq_zero.2 hmem;have e1:JG M H lo hi=H:=by unfold JG;rw [if_pos hok,List.erase_of_not_mem hmem]
   have e2:NJ M H lo hi=0:=by unfold NJ;rw [if_pos hok,if_neg hmem]
   have e3:Ri M H lo hi=160:=by unfold Ri;rw [if_pos hok,if_neg hmem]
   rw [e1,e2,e3];rw [hcp] at hlk;obtain ⟨p,hp⟩:=AU (below M lo);obtain ⟨q,hq⟩:=AU (below M hi);rw [hp,hq] at hsp hlk;have HS:=AX hsp;have HL:=AX hlk;have HH:=AX h;clear hnn hsp hok hin e1 e2 e3 hp hq h hM hlk hmem hcp hl;go_enter Tryz.func95,Tryz.ntmps95
   go_wp2_with fail
   go_fit HN.out
   rintro e w' ⟨rfl,rfl⟩;go_wp2_with fail
   go_fit HS.out
   rintro e w1 ⟨rfl,hu1⟩;have hu2:Bj [] w (w1.alloc (.cells #[(p:Int),(q:Int)] 230)):=hu1.alloc _;have x0:(w1.alloc (.cells #[(p:Int),(q:Int)] 230)).cell? w1.heap.size=some (.int .i64 (p:Int)):=by rw [World.cell?_alloc_at _ _ _ _ rfl];rfl
   have x1:(w1.alloc (.cells #[(p:Int),(q:Int)] 230)).cell? ⟨w1.heap.size,1,none⟩=some (.int .i64 (q:Int)):=by rw [World.cell?_alloc_at _ _ _ _ rfl];rfl
   have Ej:=AX hu2;clear hu1 hu2;go_upto_region 6 with fail
   generalize (w1.alloc (.cells #[(p:Int),(q:Int)] 230))=W2 at x0 x1 Ej |-;obtain ⟨hb,c5',lk⟩:=HL.out _ Ej.out;go_quiet (fail)
   go_wp2_with fail
   go_ret2
   exact ⟨rfl,⟨N,Nat.le_succ N,HH.out.BF (Ej.out.drewN nq)⟩,(Ej.out.drewN nq).mono (by simp)⟩
 ·have e1:JG M H lo hi=H:=by unfold JG;rw [if_neg hok]
  have e2:NJ M H lo hi=0:=by unfold NJ;rw [if_neg hok]
  have e3:Ri M H lo hi=2:=by unfold Ri;rw [if_neg hok]
  have vT:FW M lo hi=false:=by simpa using hok
  rw [e1,e2,e3];rw [vT] at hsp;obtain ⟨p,hp⟩:=AU (below M lo);obtain ⟨q,hq⟩:=AU (below M hi);rw [hp,hq] at hsp;have HS:=AX hsp;have HH:=AX h;clear hnn hsp hok vT e1 e2 e3 hp hq h hM;go_enter Tryz.func95,Tryz.ntmps95
  go_wp2_with fail
  go_fit HN.out
  rintro e w' ⟨rfl,rfl⟩;go_wp2_with fail
  go_fit HS.out
  rintro e w1 ⟨rfl,hu1⟩;have DJ:=AX hu1;clear hu1;go_wp2_with fail
  go_ret2
  exact ⟨rfl,⟨N,Nat.le_succ N,HH.out.BF (DJ.out.alloc _)⟩,(DJ.out.alloc _).mono (by simp)⟩
def GZ (M:List Int) (H:List (Nat×Nat)):Part:=if M.length - 1=0 then ⟨0,0,false,false⟩ else Dn (Ey H) (mf M) 0 (M.length - 1) 0 (M.length - 1+1)
theorem vU (b:Nat) (F:List Nat) (M:List Int) (H:List (Nat×Nat)) (N:Nat) (w:World) (h:DR w b F M H N) :
 Calls Tryz.prog 159 #[.pointer (some b)] w (FT (GZ M H) w):=by
 have hu0:Bj [] w (w.alloc (.cells #[.int .u64 0,.int .i64 0,.bool false,.bool false] 236)):=(Bj.refl _ _).alloc _;have hnn:=XK b F M H N _ (h.BF hu0);obtain ⟨mv,nv,ov,pv,hb,en,rfl,h1,h2⟩:=h;have hbw:b<w.heap.size:=lt_of_block h1.head;obtain ⟨n,hn⟩:=AU (M.length - 1);unfold GZ;rw [hn] at h1 |-;have c1:=h1.cells.2.1;have HN:=AX hnn;clear hnn h2;by_cases hn0:n=0
 ·have e1:II n = -1:=by unfold II;rw [if_pos hn0]
  rw [e1] at c1;rw [if_pos hn0];clear h1 hn0 hn e1;go_enter Tryz.func159,Tryz.ntmps159
  go_wp2_with fail
  go_fit HN.out
  rintro e w' ⟨rfl,rfl⟩;go_wp2_with fail
  refine bodyPost_ret (v:=Dx ⟨0,0,false,false⟩) (by simp [results,Tryz.results159,go_sem,Dx]) rfl ⟨rfl,(Bj.refl _ _).alloc _⟩
 ·obtain ⟨r,hr⟩:=AU (2*n - 2);have e1:II n=(r:Int):=by unfold II;rw [if_neg hn0,hr]
  rw [e1] at c1;rw [if_neg hn0]
  have hP:(pN (Ey H) M n)[r]? = some (Dn (Ey H) (mf M) 0 n 0 (n+1)):=by
   unfold pN;rw [if_neg hn0,Ip];have:=Kw [] (pK (Ey H) (mf M) 0 n) [] (Dn (Ey H) (mf M) 0 n 0 (n+1)) (k:=r) (by rw [UC _ _ (by omega)];simp;omega);simpa using this
  obtain ⟨gp,Cp,rfl,ep,-⟩:=Ei h1.parts hP;have c4:=h1.cells.2.2.2.2.1;have hrl:=(AZ hP).1;obtain ⟨N',hN'⟩:=AU ((pN (Ey H) M n).length);rw [hN'] at c4 hrl;obtain ⟨V,hV⟩:=AU (Dn (Ey H) (mf M) 0 n 0 (n+1));rw [hV] at ep |-;obtain ⟨pl,pr,pf,pa⟩:=V;have p0:w.cell? ⟨gp,r*4,none⟩=some (.int .u64 pl):=ep 0 _ rfl;have p1:w.cell? ⟨gp,r*4+1,none⟩=some (.int .i64 pr):=ep 1 _ rfl;have p2:w.cell? ⟨gp,r*4+2,none⟩=some (.bool pf):=ep 2 _ rfl;have p3:w.cell? ⟨gp,r*4+3,none⟩=some (.bool pa):=ep 3 _ rfl;have aN:gp<w.heap.size:=World.block_lt_of_cell? w _ p0;have r0:(0:Int)<=(r:Int):=AY _;have r1:(r:Int)<(N':Int):=by omega
  have HS:=Az ((hu0.cell (p:=⟨b,4,none⟩) hbw (by simp)).trans c4) ((hu0.cell (p:=⟨b,1,none⟩) hbw (by simp)).trans c1) ((hu0.cell (p:=⟨gp,r*4,none⟩) aN (by simp)).trans p0) ((hu0.cell (p:=⟨gp,r*4+1,none⟩) aN (by simp)).trans p1) ((hu0.cell (p:=⟨gp,r*4+2,none⟩) aN (by simp)).trans p2) ((hu0.cell (p:=⟨gp,r*4+3,none⟩) aN (by simp)).trans p3);have hd:decide ((r:Int)<0)=false:=decide_eq_false (by omega);clear h1 hn0 hn e1 hr hP ep hrl hN' hV p0 p1 p2 p3 c4 hu0;go_enter Tryz.func159,Tryz.ntmps159
  go_wp2_with fail
  go_fit HN.out
  rintro e w' ⟨rfl,rfl⟩;go_upto_region 3 with fail
  refine Bo.start [10] (λw'=>w'.cell? ⟨b,4,none⟩=some (.slice (some ⟨gp,0,none⟩) N' Cp)/\w'.cell? ⟨b,1,none⟩=some (.int .i64 (r:Int))/\w'.cell? ⟨gp,r*4,none⟩=some (.int .u64 pl)/\w'.cell? ⟨gp,r*4+1,none⟩=some (.int .i64 pr)/\w'.cell? ⟨gp,r*4+2,none⟩=some (.bool pf)/\w'.cell? ⟨gp,r*4+3,none⟩=some (.bool pa)) (by kernel_rfl) ?_ λhS=>?_
  ·exact HS.out
  refine' Bo.mx 0 13 ?_
  refine' Bo.mx 1 14 ?_
  refine' Bo.mx 2 15 ?_
  refine' Bo.ty 1 3 16 ?_
  refine' Bo.mx 4 17 ?_
  refine' Bo.mx 5 18 ?_
  refine' Bo.mx 6 19 ?_
  refine' Bo.ty 1 7 20 ?_
  refine' Bo.mx 8 21 ?_
  refine' Bo.ty 1 9 22 ?_
  refine Bo.one (i:=10) (o:=⟨none,_,_,_,_,_⟩) rfl (by kernel_rfl) λK hK=>?_
  go_simp
  refine hK.out _ _ (λh=>(by cases h)) ?_
  clear hK K;try simp only [Act.put,sA,sZ,sS]
  refine Bo.done (by kernel_rfl) ?_
  go_wp2_with fail
  refine bodyPost_ret (v:=Dx ⟨pl,pr,pf,pa⟩) (by simp [results,Tryz.results159,go_sem,Dx]) rfl ⟨rfl,((Bj.refl _ _).alloc _).drew⟩
theorem a1o (b:Nat) (F:List Nat) (M:List Int) (H:List (Nat×Nat)) (N:Nat) (w:World) (h:DR w b F M H N) :
 Calls Tryz.prog 97 #[.pointer (some b)] w λe w'=>e=.returned (.int .u64 (GZ M H).long)/\Bj [] w w':=by
 have hw:=vU b F M H N w h;obtain ⟨V,hV⟩:=AU (GZ M H);rw [hV] at hw |-;obtain ⟨pl,pr,pf,pa⟩:=V;unfold FT Dx at hw;dsimp only at hw |-;have hfd:∀w:World,(Instr.field 236 (.agg #[.int .u64 pl,pr,.bool pf,.bool pa]) 0).run Tryz.prog w=.ok (.int .u64 pl) w:=λ_=>by kernel_rfl
 have HW:=AX hw;clear hw hV h;go_enter Tryz.func97,Tryz.ntmps97
 go_wp2_with fail
 go_fit HW.out
 rintro e w1 ⟨rfl,hu⟩;have HU:=AX hu;clear hu;go_wp2_with fail
 go_ret
 exact ⟨rfl,HU.out⟩
theorem a5S (b:Nat) (F:List Nat) (M:List Int) (H:List (Nat×Nat)) (N:Nat) (w:World) (h:DR w b F M H N) :
 Calls Tryz.prog 168 #[.pointer (some b)] w λe w'=>e=.returned (.int .i64 (GZ M H).runs)/\Bj [] w w':=by
 have hw:=vU b F M H N w h;obtain ⟨V,hV⟩:=AU (GZ M H);rw [hV] at hw |-;obtain ⟨pl,pr,pf,pa⟩:=V;unfold FT Dx at hw;dsimp only at hw |-;have hfd:∀w:World,(Instr.field 236 (.agg #[.int .u64 pl,pr,.bool pf,.bool pa]) 1).run Tryz.prog w=.ok (.int .i64 pr) w:=λ_=>by kernel_rfl
 have HW:=AX hw;clear hw hV h;go_enter Tryz.func168,Tryz.ntmps168
 go_wp2_with fail
 go_fit HW.out
 rintro e w1 ⟨rfl,hu⟩;have HU:=AX hu;clear hu;go_wp2_with fail
 go_ret
 exact ⟨rfl,HU.out⟩
