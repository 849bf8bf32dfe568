/- pool.Put: a node more. frame.lay: the nodes over some leaves are put. sync.Once, one goroutine: -/
import Derived.Deep.Light
import Derived.Deep.RegionHeld3
import Derived.Deep.DeepCutAuto
import Derived.Deep.CutBlock
import Derived.Deep.RegionLaw
import Derived.Deep.DrawnRows
import Derived.Test.YtkbaaonchdeneaaGreatPc38
import Derived.Test.YtkbaaonchdeneaaGreatPc12
set_option maxHeartbeats 4000000
set_option maxRecDepth 100000
namespace Go.Proofs.YtkbaaonchdeneaaGreat
section
open Go.RowKit Go.Shelf
attribute [local go_sem ↓] Go.wp_at_zero Go.wp_at_succ
theorem Ew.put {w W w3 w4:World} {b:Nat} {most:Int} {vn vk:Value} {ns:List Nd} {ks ks':List Bool} (h:Ew w b most vn vk ns ks) (x:Nd) (hW:Bj [] w W) {A A':Option Addr} {C C':Nat} (HP:DK W w3 0 339 7 vn ns.length (KD.all ns) 1 (KD.enc x) A C)
 (hk:KB.row w4 0 (.slice A' (ks.length+1) C') (ks'++[false])) (hu:Bj (blk vk) w3 w4) (hb:∀y∈blk (.slice A' (ks.length+1) C'),y∈blk vk\/w3.heap.size<=y) (hl:ks'.length=ks.length) :
 Ew ((w4.setCell ⟨b,1,none⟩ (.slice A (ns.length+1) C)).setCell ⟨b,2,none⟩ (.slice A' (ks.length+1) C')) b most (.slice A (ns.length+1) C) (.slice A' (ks.length+1) C') (ns++[x]) (ks'++[false])/\
  Bj (b::(blk vn++blk vk)) w ((w4.setCell ⟨b,1,none⟩ (.slice A (ns.length+1) C)).setCell ⟨b,2,none⟩ (.slice A' (ks.length+1) C'))/\
  (∀y∈blk (.slice A (ns.length+1) C)++blk (.slice A' (ks.length+1) C'),y∈blk vn++blk vk\/w.heap.size<=y):=by
 have hbw:=lt_of_block h.head;have hvn:=BJ h.nodes;have hvk:=BJ h.kids;have hu1:Bj (blk vn) w w3:=(hW.mono (by simp)).trans HP.upd;have hu2:Bj (blk vn++blk vk) w w4:=(hu1.mono (by simp;intro x hx;exact .inl (.inl hx))).trans (hu.mono (by simp;intro x hx;exact .inl (.inr hx)));have hs1:=hW.size;have hs2:=HP.upd.size;have hs3:=hu.size
 have hnew:∀y∈blk (.slice A (ns.length+1) C),y∈blk vn\/y=W.heap.size:=λy hy=>by
  rcases HP.at with g | g
  ·rw [g] at hy;exact .inl hy
  ·rw [g] at hy;simp at hy;exact .inr hy
 have a7R:∀y∈blk (.slice A (ns.length+1) C),y<w3.heap.size:=BJ HP.own
 have hbn:b∉blk (.slice A (ns.length+1) C):=λhc=>by
  rcases hnew b hc with g | g
  ·exact h.bn g
  ·omega
 have hbk:b∉blk (.slice A' (ks.length+1) C'):=λhc=>by
  rcases hb b hc with g | g
  ·exact h.bk g
  ·omega
 have hnk:∀y∈blk (.slice A (ns.length+1) C),y∉blk (.slice A' (ks.length+1) C'):=λy hy hc=>by
  have g3:=a7R y hy;rcases hb y hc with g | g
  ·rcases hnew y hy with g2 | g2
   ·exact h.nk y g2 g
   ·have:=hvk y g;omega
  ·omega
 have hhead:w4.heap[b]? = some (.cells #[most,vn,vk,.bool true] 375 (0,0)):=(hu2.block b hbw (by simp [h.bn,h.bk])).trans h.head;refine ⟨⟨?_,?_,?_,by simp [hl,h.len],hbn,hbk,hnk⟩,?_,λy hy=>?_⟩
 ·exact heap_set (heap_set hhead 1 _) 2 _
 ·refine BG (BG ?_ hbn _) hbn _
  have e:KD.all (ns++[x])=KD.all ns++KD.enc x:=by rw [Kind.BZ];simp [Kind.all]
  rw [e,Bc];refine Bl HP.own hu λy hy hc=>?_
  rcases hnew y hy with g2 | g2
  ·exact h.nk y g2 hc
  ·have:=hvk y hc;omega
 ·have hl2:(ks'++[false]).length=ks.length+1:=by simp [hl]
  have hk':=hk;unfold Kind.row at hk' |-;exact BG (BG hk' hbk _) hbk _
 ·have h4:Bj (b::(blk vn++blk vk)) w w4:=hu2.mono (by simp;intro x hx;rcases hx with hx | hx<;>simp [hx]);exact (h4.setCell (.inl (by simp)) _).setCell (.inl (by simp)) _
 ·rcases List.mem_append.1 hy with hy | hy
  ·rcases hnew y hy with g | g
   ·exact .inl (by simp [g])
   ·exact .inr (by omega)
  ·rcases hb y hy with g | g
   ·exact .inl (by simp [g])
   ·exact .inr (by omega)
theorem iG {F:List Nat} {w w':World} {h b:Nat} {x0 x1 x2 x3 x4 x5 x6 y1 y2:Value} (hc:w.cell? h=some x0/\w.cell? ⟨h,1,none⟩=some x1/\w.cell? ⟨h,2,none⟩=some x2/\w.cell? ⟨h,3,none⟩=some x3/\w.cell? ⟨h,4,none⟩=some x4/\w.cell? ⟨h,5,none⟩=some x5/\w.cell? ⟨h,6,none⟩=some x6/\w.cell? ⟨b,1,none⟩=some y1/\w.cell? ⟨b,2,none⟩=some y2)
 (hu:Bj F w w') (hh:h<w.heap.size) (hb:b<w.heap.size) (hf:h∉F) (hg:b∉F):w'.cell? h=some x0/\w'.cell? ⟨h,1,none⟩=some x1/\w'.cell? ⟨h,2,none⟩=some x2/\w'.cell? ⟨h,3,none⟩=some x3/\w'.cell? ⟨h,4,none⟩=some x4/\w'.cell? ⟨h,5,none⟩=some x5/\w'.cell? ⟨h,6,none⟩=some x6/\w'.cell? ⟨b,1,none⟩=some y1/\w'.cell? ⟨b,2,none⟩=some y2:=by
 obtain ⟨a0,a1,a2,a3,a4,a5,a6,b1,b2⟩:=hc;exact ⟨(hu.cell (p:=⟨h,0,none⟩) hh hf).trans a0,(hu.cell (p:=⟨h,1,none⟩) hh hf).trans a1,(hu.cell (p:=⟨h,2,none⟩) hh hf).trans a2,(hu.cell (p:=⟨h,3,none⟩) hh hf).trans a3,(hu.cell (p:=⟨h,4,none⟩) hh hf).trans a4,(hu.cell (p:=⟨h,5,none⟩) hh hf).trans a5,(hu.cell (p:=⟨h,6,none⟩) hh hf).trans a6,(hu.cell (p:=⟨b,1,none⟩) hb hg).trans b1,(hu.cell (p:=⟨b,2,none⟩) hb hg).trans b2⟩
theorem XE:(Tryz.prog.info? 339).map (λi=>(i.zero,i.size,i.bytes))=some (some (.agg #[.int .u8 0,.int .i64 0,.int .i64 0,.int .i64 0,.int .i64 0,.int .i64 0,.int .i64 0]),7,56):=by kernel_rfl
theorem uN {a b:Int} {v:Value} (h:a=b):Ending.returned (.tuple #[a,v])=.returned (.tuple #[b,v]):=by rw [h]
def iH (w:World) (b:Nat) (most:Int) (vn vk:Value) (ns:List Nd) (ks:List Bool) (n:Nat) (e:Ending) (w':World):Prop:=
 e=.returned (.tuple #[(n:Int),.int .i64 0])/\∃vn' vk',Ew w' b most vn' vk' ns ks/\Bj (b::(blk vn++blk vk)) w w'/\(∀y∈blk vn'++blk vk',y∈blk vn++blk vk\/w.heap.size<=y)
theorem iI (x:Nd) (b:Nat) (most:Nat) (vn vk:Value) (ns:List Nd) (ks ks':List Bool) (w:World) (h:Ew w b most vn vk ns ks) (hm:XD x ks ks') (hl:ks'.length=ks.length) (hlen:ns.length<most) (hb:ns.length<1000000) :
 Calls Tryz.prog 304 #[.pointer (some b),ndV x] w (iH w b most vn vk (ns++[x]) (ks'++[false]) ns.length):=by
 obtain ⟨xk,xl,xr,xf,xt,xa,xi⟩:=x;obtain ⟨An,Cn,rfl⟩:=BD h.nodes;obtain ⟨Ak,Ck,rfl⟩:=BD h.kids;have hbw:=lt_of_block h.head;have c0:w.cell? b=some (.int .i64 most):=by simp [World.cell?,h.head]
 have c1:w.cell? ⟨b,1,none⟩=some (.slice An ns.length Cn):=by simp [World.cell?,h.head]
 have c2:w.cell? ⟨b,2,none⟩=some (.slice Ak ks.length Ck):=by simp [World.cell?,h.head]
 have c3:w.cell? ⟨b,3,none⟩=some (.bool true):=by simp [World.cell?,h.head]
 have xO:=AX h.len;have H:=AX h;have HM:=AX hm;have HL:=AX hl;clear h hm hl;unfold ndV at *;dsimp only at *;go_enter Tryz.func304,Tryz.ntmps304
 go_upto_region 3 with fail
 generalize hW0:w.alloc (Obj.cells #[Value.int .u8 xk,Value.int .i64 xl,Value.int .i64 xr,Value.int .i64 xf,Value.int .i64 xt,Value.int .i64 xa,Value.int .i64 xi] 339)=W0;have hz0:W0.heap.size=w.heap.size+1:=by rw [<-hW0];simp
 have hu0:Bj [] w W0:=by rw [<-hW0];exact (Bj.refl _ _).alloc _
 have hd:∀i v,(#[Value.int .u8 xk,Value.int .i64 xl,Value.int .i64 xr,Value.int .i64 xf,Value.int .i64 xt,Value.int .i64 xa,Value.int .i64 xi]:Array Value)[i]? = some v->W0.cell? ⟨w.heap.size,i,none⟩=some v:=λi v hv=>by rw [<-hW0,World.cell?_alloc_at _ _ _ _ rfl];exact hv
 have d0:=hd 0 _ rfl;have d1:=hd 1 _ rfl;have d2:=hd 2 _ rfl;have d3:=hd 3 _ rfl;have d4:=hd 4 _ rfl;have d5:=hd 5 _ rfl;have d6:=hd 6 _ rfl;have e2:=(hu0.cell (p:=⟨b,2,none⟩) hbw (by simp)).trans c2;have hk0:KB.row W0 0 (.slice Ak ks.length Ck) ks:=Bl H.out.kids hu0 (by simp);have HK0:=AX hk0;have HC:=Aq c0 c1 c2;clear hW0 hd hk0 c0 c1 c2 c3;have hc0:Calls Tryz.prog 326 #[.agg #[Value.int .u8 xk,Value.int .i64 xl,Value.int .i64 xr,Value.int .i64 xf,Value.int .i64 xt,Value.int .i64 xa,Value.int .i64 xi],.slice Ak ks.length Ck] W0.drew λe w'=>e=.returned (.bool true)/\Below W0.drew.heap.size W0.drew w':=HM.out.may _ _ (EY HK0.out)
 have HC0:=AX hc0;clear hc0
 go_region_held3 (λw'=>w'.cell? ⟨b,2,none⟩=some (.slice Ak ks.length Ck)/\w'.cell? w.heap.size=some (.int .u8 xk)/\w'.cell? ⟨w.heap.size,1,none⟩=some (.int .i64 xl)/\w'.cell? ⟨w.heap.size,2,none⟩=some (.int .i64 xr)/\w'.cell? ⟨w.heap.size,3,none⟩=some (.int .i64 xf)/\w'.cell? ⟨w.heap.size,4,none⟩=some (.int .i64 xt)/\w'.cell? ⟨w.heap.size,5,none⟩=some (.int .i64 xa)/\w'.cell? ⟨w.heap.size,6,none⟩=some (.int .i64 xi))
  (first
   |(exact ⟨e2,d0,d1,d2,d3,d4,d5,d6⟩)
   |(exact ⟨(g1.cell (p:=⟨b,2,none⟩) (show b<W0.heap.size by omega)).trans e2,(g1.cell (p:=⟨w.heap.size,0,none⟩) (show w.heap.size<W0.heap.size by omega)).trans d0,(g1.cell (p:=⟨w.heap.size,1,none⟩) (show w.heap.size<W0.heap.size by omega)).trans d1,(g1.cell (p:=⟨w.heap.size,2,none⟩) (show w.heap.size<W0.heap.size by omega)).trans d2,(g1.cell (p:=⟨w.heap.size,3,none⟩) (show w.heap.size<W0.heap.size by omega)).trans d3,(g1.cell (p:=⟨w.heap.size,4,none⟩) (show w.heap.size<W0.heap.size by omega)).trans d4,(g1.cell (p:=⟨w.heap.size,5,none⟩) (show w.heap.size<W0.heap.size by omega)).trans d5,(g1.cell (p:=⟨w.heap.size,6,none⟩) (show w.heap.size<W0.heap.size by omega)).trans d6⟩))
  ((go_at_call 326;go_fit HC0.out;rintro e w1 ⟨rfl,g1⟩))
 have hu1:Bj [] w w1:=hu0.drew.trans (Bj.of_below g1);have k0:w1.cell? b=some (.int .i64 most):=(hu1.cell (p:=⟨b,0,none⟩) hbw (by simp)).trans HC.1;have k1:w1.cell? ⟨b,1,none⟩=some (.slice An ns.length Cn):=(hu1.cell (p:=⟨b,1,none⟩) hbw (by simp)).trans HC.2.1;have hbx:∀i v,W0.cell? ⟨w.heap.size,i,none⟩=some v->w1.cell? ⟨w.heap.size,i,none⟩=some v:=λi v h=>(g1.cell (p:=⟨w.heap.size,i,none⟩) (show w.heap.size<W0.heap.size by omega)).trans h
 have G7:=AB (hbx 0 _ d0) (hbx 1 _ d1) (hbx 2 _ d2) (hbx 3 _ d3) (hbx 4 _ d4) (hbx 5 _ d5) (hbx 6 _ d6);have hb1:w.heap.size<w1.heap.size:=by have:=g1.size;simp at this;omega
 clear hbx d0 d1 d2 d3 d4 d5 d6 e2 HC0 HK0;go_upto_region 5 with fail
 go_quiet (fail)
 go_upto_region 7 with fail
 obtain ⟨i0,hi,hy0,hy1,hy2⟩:=info_parts XE;have hu2:Bj [] w (w1.drewN nq):=hu1.drewN nq;have hb2:w.heap.size<(w1.drewN nq).heap.size:=hb1;have a2I:Hid _:=AX (show (w1.drewN nq).cell? w.heap.size=some (.int .u8 xk)/\(w1.drewN nq).cell? ⟨w.heap.size,1,none⟩=some (.int .i64 xl)/\(w1.drewN nq).cell? ⟨w.heap.size,2,none⟩=some (.int .i64 xr)/\(w1.drewN nq).cell? ⟨w.heap.size,3,none⟩=some (.int .i64 xf)/\(w1.drewN nq).cell? ⟨w.heap.size,4,none⟩=some (.int .i64 xt)/\(w1.drewN nq).cell? ⟨w.heap.size,5,none⟩=some (.int .i64 xa)/\(w1.drewN nq).cell? ⟨w.heap.size,6,none⟩=some (.int .i64 xi) from G7.out);generalize w1.drewN nq=w2 at hu2 hb2 a2I |-;have m1:w2.cell? ⟨b,1,none⟩=some (.slice An ns.length Cn):=(hu2.cell (p:=⟨b,1,none⟩) hbw (by simp)).trans HC.2.1;have m2:w2.cell? ⟨b,2,none⟩=some (.slice Ak ks.length Ck):=(hu2.cell (p:=⟨b,2,none⟩) hbw (by simp)).trans HC.2.2;obtain ⟨n0,n1,n2,n3,n4,n5,n6⟩:=a2I.out;have HS2:=AO n0 n1 n2 n3 n4 n5 n6 m1 m2;have hbw2:b<w2.heap.size:=Bg hbw hu2.size;have hn2:KD.row w2 0 (.slice An ns.length Cn) ns:=Bl H.out.nodes hu2 (by simp);have X0:=AX hn2;have Ej:=AX hu2;have HBN:=AX (show b∉blk (.slice An ns.length Cn) from H.out.bn);have yI:=AX (show b∉blk (.slice Ak ks.length Ck) from H.out.bk);have HWN:=AX (show w.heap.size∉blk (.slice An ns.length Cn) from λhc=>Nat.lt_irrefl _ (BJ H.out.nodes _ hc));clear hn2 hu2 k0 k1 G7 a2I m1 m2 n0 n1 n2 n3 n4 n5 n6;refine Bo.start [14,15,16,17,18,19,20] (λw'=>w'.cell? w.heap.size=some (.int .u8 xk)/\w'.cell? ⟨w.heap.size,1,none⟩=some (.int .i64 xl)/\w'.cell? ⟨w.heap.size,2,none⟩=some (.int .i64 xr)/\w'.cell? ⟨w.heap.size,3,none⟩=some (.int .i64 xf)/\w'.cell? ⟨w.heap.size,4,none⟩=some (.int .i64 xt)/\w'.cell? ⟨w.heap.size,5,none⟩=some (.int .i64 xa)/\w'.cell? ⟨w.heap.size,6,none⟩=some (.int .i64 xi)/\w'.cell? ⟨b,1,none⟩=some (.slice An ns.length Cn)/\w'.cell? ⟨b,2,none⟩=some (.slice Ak ks.length Ck)) (by kernel_rfl) ?_ λhS=>?_
 ·exact HS2.out
 refine' Bo.mx 0 35 ?_
 refine' Bo.mx 1 36 ?_
 refine' Bo.mx 2 37 ?_
 refine' Bo.mx 3 38 ?_
 refine' Bo.mx 4 39 ?_
 refine' Bo.ty 3 5 40 ?_
 refine' Bo.ty 3 6 41 ?_
 refine' Bo.ty 3 9 44 ?_
 refine' Bo.mx 10 45 ?_
 refine' Bo.mx 11 46 ?_
 refine' Bo.mx 12 47 ?_
 refine' Bo.ty 3 13 48 ?_
 refine Bo.one (i:=7) (o:=⟨some 42,_,_,_,_,_⟩) rfl (by kernel_rfl) λK hK=>?_
 go_simp
 refine hK.out _ _ (λ_ h=>?_) ?_
 ·exact iG h ((Bj.refl [] _).alloc _) (by simp;omega) (by simp;omega) (by simp) (by simp)
 clear hK K;try simp only [Act.put,sA,sZ,sS]
 refine Bo.one (i:=8) (o:=⟨some 43,_,_,_,_,_⟩) rfl (by kernel_rfl) λK hK=>?_
 refine ER _ (by rfl) _ _ 224 (by rfl) 0 339 i0 (.agg #[.int .u8 0,.int .i64 0,.int .i64 0,.int .i64 0,.int .i64 0,.int .i64 0,.int .i64 0]) 7 56 Tryz.underlying224 hi hy0 hy1 hy2 rfl (by decide) _ ns.length (KD.all ns) (by rfl) (EY (Bl X0.out ((Bj.refl [] w2).alloc (.cells #[.int .u8 xk,xl,xr,xf,xt,xa,xi] 339)) (by simp))) _ 1 [.int .u8 xk,xl,xr,xf,xt,xa,xi] (by rfl) (BK w2 #[.int .u8 xk,xl,xr,xf,xt,xa,xi] 339 7 1 rfl (by decide)).drew (by simp [Value.oneCell']) (by unfold maxLen;omega) (by omega) (Nat.zero_le _) ?_
 intro A C w3 HP;refine hK.out _ _ (λ_ h=>?_) ?_
 ·exact iG h HP.upd (by simp;omega) (by simp;omega) HWN.out HBN.out
 clear hK K;try simp only [Act.put,sA,sZ,sS]
 refine Bo.one (i:=14) (o:=⟨some 49,_,_,_,_,_⟩) rfl (by kernel_rfl) λK hK=>?_
 have hk3:KB.row w3 0 (.slice Ak ks.length Ck) ks:=Bl (Bl (Bl H.out.kids Ej.out (by simp)) (((Bj.refl [] w2).alloc _).drew) (by simp)) HP.upd (λy hy hc=>H.out.nk y hc hy);have hc4:Calls Tryz.prog 327 #[.agg #[.int .u8 xk,xl,xr,xf,xt,xa,xi],.slice Ak ks.length Ck] w3 λe w'=>∃A C,e=.returned (.slice A (ks.length+1) C)/\KB.row w' 0 (.slice A (ks.length+1) C) (ks'++[false])/\Bj (blk (.slice Ak ks.length Ck)) w3 w'/\∀y∈blk (.slice A (ks.length+1) C),y∈blk (.slice Ak ks.length Ck)\/w3.heap.size<=y:=HM.out.put _ _ hk3
 have RY:=AX hc4;clear hc4 hk3;go_simp
 go_at_call 327
 go_fit RY.out
 rintro e w4 ⟨A2,C2,rfl,g2,g3,g4⟩;have ha4:Bj [] w (w2.alloc (.cells #[.int .u8 xk,xl,xr,xf,xt,xa,xi] 339)).drew:=(Ej.out.alloc _).drew;have EI:Bj (blk (.slice An ns.length Cn)++blk (.slice Ak ks.length Ck)) w w4:=((ha4.mono (by simp)).trans (HP.upd.mono λx hx=>.inl (List.mem_append_left _ hx))).trans (g3.mono λx hx=>.inl (List.mem_append_right _ hx));have a5H:b∉blk (.slice An ns.length Cn)++blk (.slice Ak ks.length Ck):=by simp [HBN.out,yI.out]
 have hh4:w4.heap[b]? = some (.cells #[most,.slice An ns.length Cn,.slice Ak ks.length Ck,.bool true] 375 (0,0)):=(EI.block b hbw a5H).trans H.out.head;have e41:w4.cell? ⟨b,1,none⟩=some (.slice An ns.length Cn):=by simp [World.cell?,hh4]
 have e42:w4.cell? ⟨b,2,none⟩=some (.slice Ak ks.length Ck):=by simp [World.cell?,hh4]
 have f41:w4.frozen? ⟨b,1,none⟩=false:=by simp [World.frozen?,hh4]
 have f42:w4.frozen? ⟨b,2,none⟩=false:=by simp [World.frozen?,hh4]
 have HG2:=AX g2;have HG3:=AX g3;have zQ:=AX g4;have U4:=AX EI;have zn:=AX HP;have sJ:=AX ha4;clear g2 g3 g4 EI a5H hh4 HP ha4;refine hK.out _ _ (λh=>(by cases h)) ?_
 clear hK K;try simp only [Act.put,sA,sZ,sS]
 refine' Bo.mx 15 50 ?_
 refine' Bo.mx 16 51 ?_
 refine Bo.one (i:=17) (o:=⟨none,_,_,_,_,_⟩) rfl (by kernel_rfl) λK hK=>?_
 go_simp
 refine hK.out _ _ (λh=>(by cases h)) ?_
 clear hK K;try simp only [Act.put,sA,sZ,sS]
 refine' Bo.mx 18 52 ?_
 refine' Bo.mx 19 53 ?_
 refine Bo.one (i:=20) (o:=⟨none,_,_,_,_,_⟩) rfl (by kernel_rfl) λK hK=>?_
 go_simp
 refine hK.out _ _ (λh=>(by cases h)) ?_
 clear hK K;try simp only [Act.put,sA,sZ,sS]
 refine Bo.done (by kernel_rfl) ?_
 go_wp2_with fail
 go_ret2
 obtain ⟨r1,r2,r3⟩:=H.out.put ⟨xk,xl,xr,xf,xt,xa,xi⟩ sJ.out zn.out HG2.out HG3.out zQ.out HL.out;exact ⟨uN (by omega),_,_,r1,r2,r3⟩
end
section
open Go.RowKit Go.Shelf
attribute [local go_sem ↓] Go.wp_at_zero Go.wp_at_succ
def XF (f t at_:Nat):Nd:=if f+1<t then ⟨2,((at_ - 2*(t - mid f t):Nat):Int),((at_ - 1:Nat):Int),f,t,0,0⟩ else ⟨1,-1,-1,f,t,0,f⟩
def EN (f t o:Nat):List Nd:=FD (λf t _ _ at_=>XF f t at_) f t 0 0 o
theorem V3 {α:Type} (g:Nat->Nat->Nat->α):∀(d f t pf pt KF KG o:Nat),t - f<=d->f<t->FD (λf t _ _ a=>g f t a) f t pf pt o=FD (λf t _ _ a=>g f t a) f t KF KG o:=by
 intro d f t pf pt KF KG o hd hf;by_cases h:f+1<t
 ·rw [DX _ pf pt o h,DX _ KF KG o h]
 ·rw [DW _ pf pt o h,DW _ KF KG o h]
theorem MG {f t:Nat} (o:Nat) (h:f+1<t):EN f t o=EN f (mid f t) o++(EN (mid f t) t (o+2*(mid f t - f) - 1)++[⟨2,((o+2*(mid f t - f) - 2:Nat):Int),((o+2*(mid f t - f) - 1+2*(t - mid f t) - 2:Nat):Int),f,t,0,0⟩]):=by
 have hm:=Dt h;unfold EN;rw [DX _ 0 0 o h,V3 (λf t a=>XF f t a) (t - f) f (mid f t) f t 0 0 o (by omega) (by omega),V3 (λf t a=>XF f t a) (t - f) (mid f t) t f t 0 0 _ (by omega) (by omega)];have e:o+2*(t - f) - 2 - 2*(t - mid f t)=o+2*(mid f t - f) - 2:=by omega
 have e':o+2*(t - f) - 2 - 1=o+2*(mid f t - f) - 1+2*(t - mid f t) - 2:=by omega
 have e2:XF f t (o+2*(t - f) - 2)=⟨2,((o+2*(mid f t - f) - 2:Nat):Int),((o+2*(mid f t - f) - 1+2*(t - mid f t) - 2:Nat):Int),f,t,0,0⟩:=by
  unfold XF;rw [if_pos h,e,e']
 rw [e2]
theorem YU {f t:Nat} (o:Nat) (h:¬f+1<t):EN f t o = [⟨1,-1,-1,f,t,0,f⟩]:=by
 unfold EN;rw [DW _ 0 0 o h];unfold XF;rw [if_neg h]
theorem G8 {f t:Nat} (o:Nat) (h:f<t):(EN f t o).length=2*(t - f) - 1:=Io _ 0 0 o h
theorem Ew.lt {w:World} {b:Nat} {most:Int} {vn vk:Value} {ns:List Nd} {ks:List Bool} (h:Ew w b most vn vk ns ks):∀y∈b::(blk vn++blk vk),y<w.heap.size:=by
 intro y hy;rcases List.mem_cons.1 hy with rfl | hy
 ·exact lt_of_block h.head
 ·rcases List.mem_append.1 hy with hy | hy
  ·exact BJ h.nodes y hy
  ·exact BJ h.kids y hy
theorem Ew.upd {w w':World} {b:Nat} {most:Int} {vn vk:Value} {ns:List Nd} {ks:List Bool} (h:Ew w b most vn vk ns ks) {F:List Nat} (hu:Bj F w w') (hd:∀y∈b::(blk vn++blk vk),y∉F):Ew w' b most vn vk ns ks:=
 ⟨(hu.block b (lt_of_block h.head) (hd b (by simp))).trans h.head,Bl h.nodes hu (λy hy=>hd y (by simp [hy])),Bl h.kids hu (λy hy=>hd y (by simp [hy])),h.len,h.bn,h.bk,h.nk⟩
def Py (w:World) (b:Nat) (most:Int) (vn vk:Value) (ns:List Nd) (ks:List Bool) (n:Nat) (e:Ending) (w':World):Prop:=
 e=.returned (n:Int)/\∃vn' vk',Ew w' b most vn' vk' ns ks/\Bj (b::(blk vn++blk vk)) w w'/\(∀y∈blk vn'++blk vk',y∈blk vn++blk vk\/w.heap.size<=y)
theorem uO (ks:List Bool) (a b:Nat):(((ks++(List.replicate a true++[false]))++(List.replicate b true++[false])).set (ks.length+a) true).set (ks.length+a+1+b) true=ks++List.replicate (a+1+b+1) true:=by
 apply List.ext_getElem?
 intro i;rw [List.getElem?_set,List.getElem?_set];simp only [List.length_set,Bc,List.length_replicate,List.length_singleton];by_cases h1:ks.length+a+1+b=i
 ·rw [if_pos h1,if_pos (by omega),List.getElem?_append_right (by omega),List.getElem?_replicate,if_pos (by omega)]
 ·rw [if_neg h1];by_cases h2:ks.length+a=i
  ·rw [if_pos h2,if_pos (by omega),List.getElem?_append_right (by omega),List.getElem?_replicate,if_pos (by omega)]
  ·rw [if_neg h2,List.append_assoc];rcases Nat.lt_or_ge i ks.length with h3 | h3
   ·rw [List.getElem?_append_left h3,List.getElem?_append_left h3]
   ·rw [List.getElem?_append_right h3,List.getElem?_append_right h3];rcases Nat.lt_or_ge (i - ks.length) a with h4 | h4
    ·rw [List.append_assoc,List.getElem?_append_left (by simpa using h4),List.getElem?_replicate,List.getElem?_replicate,if_pos h4,if_pos (by omega)]
    ·rw [List.append_assoc,List.getElem?_append_right (by simpa using h4),List.length_replicate,List.getElem?_append_right (by simp;omega),List.length_singleton];rcases Nat.lt_or_ge (i - ks.length - a - 1) b with h5 | h5
     ·rw [List.getElem?_append_left (by simpa using h5),List.getElem?_replicate,List.getElem?_replicate,if_pos h5,if_pos (by omega)]
     ·rw [List.getElem?_append_right (by simpa using h5),List.length_replicate,List.getElem?_replicate,if_neg (by omega),List.getElem?_eq_none (by simp;omega)]
theorem uP (ks:List Bool) (a b:Nat):((ks++(List.replicate a true++[false]))++(List.replicate b true++[false]))[ks.length+a]? = some false/\((ks++(List.replicate a true++[false]))++(List.replicate b true++[false]))[ks.length+a+1+b]? = some false:=by
 constructor
 ·rw [List.getElem?_append_left (by simp),List.getElem?_append_right (by omega),List.getElem?_append_right (by simp)];simp
 ·rw [List.getElem?_append_right (by simp;omega),List.getElem?_append_right (by simp;omega)];have e:ks.length+a+1+b - (ks++(List.replicate a true++[false])).length - (List.replicate b true).length=0:=by simp;omega
  rw [e];rfl
theorem MH {w:World} {n:Nat} {x0 x1 x2 x3 x4 x5 x6:Value} {T:TypeId} (h:w.heap[n]? = some (.cells #[x0,x1,x2,x3,x4,x5,x6] T (0,0))) :
 (w.cell? n=some x0/\w.cell? ⟨n,1,none⟩=some x1/\w.cell? ⟨n,2,none⟩=some x2/\w.cell? ⟨n,3,none⟩=some x3/\w.cell? ⟨n,4,none⟩=some x4/\w.cell? ⟨n,5,none⟩=some x5/\w.cell? ⟨n,6,none⟩=some x6)/\∀j,w.frozen? ⟨n,j,none⟩=false:=by
 refine ⟨⟨?_,?_,?_,?_,?_,?_,?_⟩,?_⟩<;>simp [World.cell?,World.frozen?,h]
theorem uQ (f b:Nat) (most:Nat) (vn vk:Value) (ns:List Nd) (ks:List Bool) (w:World) (hf:f<1000000) (h:Ew w b most vn vk ns ks) (a1j:ns.length<most) (hn:ns.length<1000000) :
 Calls Tryz.prog 263 #[.pointer (some b),(f:Int),.int .i64 ((f+1:Nat):Int)] w (Py w b most vn vk (ns++[⟨1,-1,-1,f,(f+1:Nat),0,f⟩]) (ks++[false]) ns.length):=by
 obtain ⟨t,ht⟩:=AU (f+1);rw [ht];have HT:=AX ht;have b0:(0:Int)<=(f:Int):=AY _;have b1:(f:Int)<1000000:=by omega
 have b2:(0:Int)<=(t:Int):=AY _;have b3:(t:Int)<=1000000:=by omega
 have hd:decide ((1:Int)<(t:Int) - (f:Int))=false:=decide_eq_false (by omega);clear ht;have hbl:=h.len;have hu0:Bj [] w (w.alloc (.cells #[.int .u8 1,.int .i64 (-1),.int .i64 (-1),(f:Int),(t:Int),.int .i64 0,(f:Int)] 339)):=(Bj.refl _ _).alloc _;have hp:=iI ⟨1,-1,-1,f,t,0,f⟩ b most vn vk ns ks ks _ (h.upd hu0 (by simp)) (YS f t 0 f ks (by omega)) rfl a1j hn;have HP:=AX hp;have Gu:=AX hu0;clear hp hu0 h hbl;unfold ndV at HP;dsimp only at HP;go_enter Tryz.func263,Tryz.ntmps263
 go_wp2_with fail
 go_fit HP.out
 rintro e w' ⟨rfl,vn',vk',r1,r2,r3⟩;have HR:=Aq r1 ((Gu.out.mono (by simp)).trans r2) r3;clear r1 r2 r3;go_wp2_with fail
 go_ret
 obtain ⟨r1,r2,r3⟩:=HR.out;refine ⟨rfl,vn',vk',r1,r2,λy hy=>?_⟩
 rcases r3 y hy with h | h
 ·exact .inl h
 ·have:=Gu.out.size;exact .inr (by omega)
theorem uS (f t m b:Nat) (most:Nat) (vn vk:Value) (ns:List Nd) (ks:List Bool) (w:World) (hm:mid f t=m) (ht:t<1000000) (hft:f+1<t) (h:Ew w b most vn vk ns ks) (a1j:ns.length+2*(t - f)<=most+1) (hn:ns.length+2*(t - f)<1000000)
 (ih:∀(f' t':Nat) (vn vk:Value) (ns:List Nd) (ks:List Bool) (w:World),f'<t'->t' - f'<t - f->t'<1000000->Ew w b most vn vk ns ks->ns.length+2*(t' - f')<=most+1->ns.length+2*(t' - f')<1000000->
  Calls Tryz.prog 263 #[.pointer (some b),(f':Int),(t':Int)] w (Py w b most vn vk (ns++EN f' t' ns.length) (ks++(List.replicate (2*(t' - f') - 2) true++[false])) (ns.length+2*(t' - f') - 2))) :
 Calls Tryz.prog 263 #[.pointer (some b),(f:Int),(t:Int)] w (Py w b most vn vk (ns++EN f t ns.length) (ks++(List.replicate (2*(t - f) - 2) true++[false])) (ns.length+2*(t - f) - 2)):=by
 have Zt:=Dt hft;have hnl:=MG ns.length hft;rw [hm] at Zt hnl;have hbl:=h.len;have hbw:=lt_of_block h.head;have b0:(0:Int)<=(f:Int):=AY _;have b1:(f:Int)<1000000:=by omega
 have b2:(0:Int)<=(t:Int):=AY _;have b3:(t:Int)<=1000000:=by omega
 have hd:decide ((1:Int)<(t:Int) - (f:Int))=true:=decide_eq_true (by omega)
 have hv:Value.int .i64 ((t:Int) - ((t:Int) - (f:Int)) / 2)=Value.int .i64 (m:Int):=by
  congr 1
  rw [<-hm];unfold mid;omega
 have hu0:Bj [] w (w.alloc (.cells #[.int .u8 2,.int .i64 (-1),.int .i64 (-1),(f:Int),(t:Int),.int .i64 0,.int .i64 0] 339)):=(Bj.refl _ _).alloc _;obtain ⟨L,hL⟩:=AU (ns.length+2*(m - f) - 2);obtain ⟨R,hR⟩:=AU (ns.length+2*(m - f) - 1+2*(t - m) - 2);obtain ⟨N1,hN1⟩:=AU (EN f m ns.length);have hl1:(ns++N1).length=ns.length+2*(m - f) - 1:=by rw [Bc,<-hN1,G8 _ Zt.1];omega
 obtain ⟨N2,hN2⟩:=AU (EN m t (ns++N1).length);have hl2:((ns++N1)++N2).length=ns.length+2*(t - f) - 2:=by rw [Bc,hl1,<-hN2,G8 _ Zt.2];omega
 have hp:=ih f m vn vk ns ks _ Zt.1 (by omega) (by omega) (h.upd hu0 (by simp)) (by omega) (by omega);rw [hL,hN1] at hp
 have hih:∀(vn vk:Value) (w:World),Ew w b most vn vk (ns++N1) (ks++(List.replicate (2*(m - f) - 2) true++[false]))->
  Calls Tryz.prog 263 #[.pointer (some b),(m:Int),(t:Int)] w (Py w b most vn vk ((ns++N1)++N2) ((ks++(List.replicate (2*(m - f) - 2) true++[false]))++(List.replicate (2*(t - m) - 2) true++[false])) R):=λvn vk w hq=>by
  have:=ih m t vn vk (ns++N1) _ w Zt.2 (by omega) (by omega) hq (by omega) (by omega);rw [hN2,hl1,hR] at this;exact this
 have hend:ns++EN f t ns.length=((ns++N1)++N2)++[⟨2,(L:Int),(R:Int),f,t,0,0⟩]:=by
  rw [hl1] at hN2;rw [hnl,hN1,hN2,hL,hR];simp
 have hks:=uO ks (2*(m - f) - 2) (2*(t - m) - 2);have hkg:=uP ks (2*(m - f) - 2) (2*(t - m) - 2);have eL:ks.length+(2*(m - f) - 2)=L:=by omega
 have eR:ks.length+(2*(m - f) - 2)+1+(2*(t - m) - 2)=R:=by omega
 have eK:2*(m - f) - 2+1+(2*(t - m) - 2)+1=2*(t - f) - 2:=by omega
 rw [eR,eL,eK] at hks;rw [eR,eL] at hkg
 have hmay:XD ⟨2,(L:Int),(R:Int),f,t,0,0⟩ ((ks++(List.replicate (2*(m - f) - 2) true++[false]))++(List.replicate (2*(t - m) - 2) true++[false])) (ks++List.replicate (2*(t - f) - 2) true):=by
  rw [<-hks];exact YT L R f t 0 0 _ (by simp;omega) hkg.1 hkg.2 (by omega)
 have hput:∀(vn vk:Value) (w:World),Ew w b most vn vk ((ns++N1)++N2) ((ks++(List.replicate (2*(m - f) - 2) true++[false]))++(List.replicate (2*(t - m) - 2) true++[false]))->
  Calls Tryz.prog 304 #[.pointer (some b),.agg #[.int .u8 2,(L:Int),(R:Int),(f:Int),(t:Int),.int .i64 0,.int .i64 0]] w (iH w b most vn vk (ns++EN f t ns.length) (ks++(List.replicate (2*(t - f) - 2) true++[false])) (ns.length+2*(t - f) - 2)):=λvn vk w hq=>by
  have:=iI ⟨2,(L:Int),(R:Int),f,t,0,0⟩ b most vn vk _ _ _ w hq hmay (by simp;omega) (by omega) (by omega);rw [<-hend,hl2,List.append_assoc] at this;exact this
 have hhn:(w.alloc (.cells #[.int .u8 2,.int .i64 (-1),.int .i64 (-1),(f:Int),(t:Int),.int .i64 0,.int .i64 0] 339)).heap[w.heap.size]? = some (.cells #[.int .u8 2,.int .i64 (-1),.int .i64 (-1),(f:Int),(t:Int),.int .i64 0,.int .i64 0] 339 (0,0)):=heap_alloc_new w _;obtain ⟨at_,hat⟩:∃a,ns.length+2*(t - f) - 2=a:=⟨_,rfl⟩;rw [hat] at hput |-;have HP:=AX hp;have Gu:=AX hu0;have HIH:=AX hih;have Xj:=AX hput;have JO:=AX h.lt;have HV:=AX hv;have HHN:=AX hhn;clear hp hu0 h ih hih hnl hbl hm Zt hv hL hR hN1 hN2 hl1 hl2 hend hks hkg eL eR eK hmay hput hhn hat;go_enter Tryz.func263,Tryz.ntmps263
 go_upto_region 5 with fail
 rw [HV.out];go_wp2_with fail
 go_fit HP.out
 rintro e w1 ⟨rfl,zi,vk1,r1,r2,r3⟩;have hn1:w.heap.size∉b::(blk vn++blk vk):=λhc=>Nat.lt_irrefl _ (JO.out _ hc)
 have hh1:=(r2.block w.heap.size (by simp) hn1).trans HHN.out;obtain ⟨⟨_,c1,_⟩,cf⟩:=MH hh1;have f1:=cf 1;have hs1:w.heap.size<w1.heap.size:=by have:=r2.size;simp at this;omega
 have hn2:w.heap.size∉b::(blk zi++blk vk1):=λhc=>by
  rcases List.mem_cons.1 hc with h1 | h1
  ·omega
  ·rcases r3 _ h1 with h2 | h2
   ·exact hn1 (List.mem_cons_of_mem _ h2)
   ·simp at h2;omega
 have hp2:Ew (w1.setCell ⟨w.heap.size,1,none⟩ (.int .i64 (L:Int))) b most zi vk1 (ns++N1) (ks++(List.replicate (2*(m - f) - 2) true++[false])):=
  r1.upd ((Bj.refl [w.heap.size] w1).setCell (.inl (by simp)) _) (λy hy hc=>hn2 (by simp at hc;rw [<-hc];exact hy))
 have hh2:(w1.setCell ⟨w.heap.size,1,none⟩ (.int .i64 (L:Int))).heap[w.heap.size]? = some (.cells #[.int .u8 2,(L:Int),.int .i64 (-1),(f:Int),(t:Int),.int .i64 0,.int .i64 0] 339 (0,0)):=heap_set hh1 1 _;have HC2:=AX (HIH.out _ _ _ hp2);have X0:=Ap hn1 hn2;have QZ:=AX hh2;have HR1:=Aq r1 r2 r3;clear r1 r2 r3 hh1 cf hn1 hn2 hp2 hh2;go_wp2_with fail
 go_fit HC2.out
 rintro e w2 ⟨rfl,vn2,vk2,r1,r2,r3⟩;have hh3:=(r2.block w.heap.size (by simpa [World.setCell] using hs1) X0.2).trans QZ.out;obtain ⟨⟨_,_,c2,_⟩,cf⟩:=MH hh3;have f2:=cf 2;have hs2:w.heap.size<w2.heap.size:=by have:=r2.size;simp [World.setCell] at this;omega
 have hn3:w.heap.size∉b::(blk vn2++blk vk2):=λhc=>by
  rcases List.mem_cons.1 hc with h1 | h1
  ·omega
  ·rcases r3 _ h1 with h2 | h2
   ·exact X0.2 (List.mem_cons_of_mem _ h2)
   ·simp [World.setCell] at h2;omega
 have hp3:=r1.upd ((Bj.refl [w.heap.size] w2).setCell (p:=⟨w.heap.size,2,none⟩) (.inl (by simp)) (.int .i64 (R:Int))) (λy hy hc=>hn3 (by simp at hc;rw [<-hc];exact hy));have hh4:(w2.setCell ⟨w.heap.size,2,none⟩ (.int .i64 (R:Int))).heap[w.heap.size]? = some (.cells #[.int .u8 2,(L:Int),(R:Int),(f:Int),(t:Int),.int .i64 0,.int .i64 0] 339 (0,0)):=heap_set hh3 2 _;obtain ⟨⟨d0,d1,d2,d3,d4,d5,d6⟩,_⟩:=MH hh4;have YD:=AX (Xj.out _ _ _ hp3);have HR2:=Aq r1 r2 r3;have HN3:=AX hn3;clear r1 r2 r3 hh3 cf hn3 hp3 hh4;go_wp2_with fail
 go_fit YD.out
 rintro e w3 ⟨rfl,vn3,vk3,r1,r2,r3⟩;have HR3:=Aq r1 r2 r3;clear r1 r2 r3;go_wp2_with fail
 go_ret
 obtain ⟨p1,q1,s1⟩:=HR1.out;obtain ⟨p2,q2,s2⟩:=HR2.out;obtain ⟨p3,q3,s3⟩:=HR3.out
 have t1:∀y∈b::(blk zi++blk vk1),y∈b::(blk vn++blk vk)\/w.heap.size<=y:=λy hy=>by
  rcases List.mem_cons.1 hy with h | h
  ·exact .inl (by simp [h])
  ·rcases s1 y h with h | h
   ·exact .inl (List.mem_cons_of_mem _ h)
   ·exact .inr (by simp at h;omega)
 have t2:∀y∈b::(blk vn2++blk vk2),y∈b::(blk vn++blk vk)\/w.heap.size<=y:=λy hy=>by
  rcases List.mem_cons.1 hy with h | h
  ·exact .inl (by simp [h])
  ·rcases s2 y h with h | h
   ·exact t1 y (List.mem_cons_of_mem _ h)
   ·exact .inr (by simp [World.setCell] at h;omega)
 have u1:Bj (b::(blk vn++blk vk)) w w1:=(Gu.out.mono (by simp)).trans q1;have u3:=(u1.setCell (p:=⟨w.heap.size,1,none⟩) (.inr (Nat.le_refl _)) (.int .i64 (L:Int))).trans' q2 t1;have u5:=(u3.setCell (p:=⟨w.heap.size,2,none⟩) (.inr (Nat.le_refl _)) (.int .i64 (R:Int))).trans' q3 t2;refine ⟨rfl,vn3,vk3,p3,u5,λy hy=>?_⟩
 rcases s3 y hy with h | h
 ·rcases t2 y (List.mem_cons_of_mem _ h) with g | g
  ·rcases List.mem_cons.1 g with g | g
   ·rw [g] at hy;rcases List.mem_append.1 hy with g2 | g2
    ·exact (p3.bn g2).elim
    ·exact (p3.bk g2).elim
   ·exact .inl g
  ·exact .inr g
 ·exact .inr (by simp [World.setCell] at h;omega)
theorem a7S (b:Nat) (most:Nat):∀(d f t:Nat) (vn vk:Value) (ns:List Nd) (ks:List Bool) (w:World),t - f<=d->f<t->t<1000000->Ew w b most vn vk ns ks->ns.length+2*(t - f)<=most+1->ns.length+2*(t - f)<1000000->
 Calls Tryz.prog 263 #[.pointer (some b),(f:Int),(t:Int)] w (Py w b most vn vk (ns++EN f t ns.length) (ks++(List.replicate (2*(t - f) - 2) true++[false])) (ns.length+2*(t - f) - 2)):=by
 intro d;induction d with
 |zero=>intro f t vn vk ns ks w hd hf;omega
 |succ d ih=>
  intro f t vn vk ns ks w hd hf ht h hm hn;by_cases hft:f+1<t
  ·exact uS f t _ b most vn vk ns ks w rfl ht hft h hm hn λf' t' vn vk ns ks w h1 h2 h3 h4 h5 h6=>ih f' t' vn vk ns ks w (by omega) h1 h3 h4 h5 h6
  ·obtain rfl:t=f+1:=by omega
   have e:f+1 - f=1:=by omega
   have:=uQ f b most vn vk ns ks w (by omega) h (by omega) (by omega);rw [YU _ hft,e];simpa using this
open Go.RowKit
theorem Rh (w:World):(callFunc 338 #[]).run Tryz.prog w=.ok (.value (.tuple #[])) w:=run_call_mark0 Tryz.func338 (by kernel_rfl) (by kernel_rfl) (by kernel_rfl) .disable (by kernel_rfl) w
theorem Ux (w:World):(callFunc 340 #[]).run Tryz.prog w=.ok (.value (.tuple #[])) w:=run_call_mark0 Tryz.func340 (by kernel_rfl) (by kernel_rfl) (by kernel_rfl) .enable (by kernel_rfl) w
theorem YV (a:Addr) (w:World):(callFunc 341 #[.pointer (some a)]).run Tryz.prog w=.ok (.value (.tuple #[])) w:=run_call_marked Tryz.func341 (by kernel_rfl) (by kernel_rfl) (by kernel_rfl) .acquire (by kernel_rfl) a w
theorem Qr (a:Addr) (w:World):(callFunc 343 #[.pointer (some a)]).run Tryz.prog w=.ok (.value (.tuple #[])) w:=run_call_marked Tryz.func343 (by kernel_rfl) (by kernel_rfl) (by kernel_rfl) .releaseMerge (by kernel_rfl) a w
theorem store_deferred (a:Addr) (x:Value) (u:FrameMode) (w:World) (hc:w.cell? a=some x) (hz:w.frozen? a=false) :
 CallsD Tryz.prog 325 #[.pointer (some a),.bool true] u w λe u' w'=>u'=u/\(e=.returned (.tuple #[])/\w'=w.drew.setCell a (.int .u32 1)):=by
 have hc':w.drew.cell? a=some x:=by go_simp
 have hz':w.drew.frozen? a=false:=by go_simp
 have hst:=run_call_store (P:=Tryz.prog) Tryz.func335 (by kernel_rfl) (by kernel_rfl) (by kernel_rfl) (by kernel_rfl) (k:=.u32) (y:=1) hc' hz';go_enter_d Tryz.func325,Tryz.ntmps325
 go_wp2
 go_region_calls
 all_goals (go_end0;exact ⟨rfl,rfl⟩)
theorem unlock_deferred (a:Addr) (u:FrameMode) (w:World) (hc:w.cell? a=some (.int .i32 1)) (hz:w.frozen? a=false) :
 CallsD Tryz.prog 324 #[.pointer (some a)] u w λe u' w'=>u'=u/\(e=.returned (.tuple #[])/\w'=w.setCell a (.int .i32 0)):=by
 have hd:=Rh;have he:=Ux;have hr:=Qr;have hadd:=run_call_add (P:=Tryz.prog) Tryz.func344 (by kernel_rfl) (by kernel_rfl) (by kernel_rfl) .i32 (by kernel_rfl) (y:=-1) (s:=0) hc hz (by simp [go_sem];rfl);have hcv:=run_convert_to_unsafe (P:=Tryz.prog) (src:=404) (dst:=408) Tryz.underlying404 Tryz.underlying408 (by kernel_rfl) hc;go_enter_d Tryz.func324,Tryz.ntmps324
 go_wp2
 go_end0
 go_wp2
 go_end0
 exact ⟨rfl,rfl⟩
theorem lock_free (a:Addr) (w:World) (hc:w.cell? a=some (.int .i32 0)) (hz:w.frozen? a=false) :
 Calls Tryz.prog 323 #[.pointer (some a)] w λe w'=>e=.returned (.tuple #[])/\w'=w.setCell a (.int .i32 1):=by
 have hd:=Rh;have he:=Ux;have ha:=YV;have hcas:=run_call_cas_hit (P:=Tryz.prog) Tryz.func339 (by kernel_rfl) (by kernel_rfl) (by kernel_rfl) .i32 (by kernel_rfl) (y:=1) hc hz;have hc':(w.setCell a (.int .i32 1)).cell? a=some (.int .i32 1):=World.cell?_setCell_same w a _ hc;have hcv:=run_convert_to_unsafe (P:=Tryz.prog) (src:=404) (dst:=408) Tryz.underlying404 Tryz.underlying408 (by kernel_rfl) hc';go_enter Tryz.func323,Tryz.ntmps323
 go_wp2
 first | go_end0 | (simp only [Exit.inBlock,Exit.then];refine bodyPost_ret (results_none rfl _ _ _) rfl ?_) | refine bodyPost_ret (results_none rfl _ _ _) rfl ?_
 go_wp2
 go_end0
 exact ⟨rfl,rfl⟩
def YW (b:Nat) (R:World->Prop) (e:Ending) (w':World):Prop:=e=.returned (.tuple #[])/\∃w2,R w2/\w'=((w2.setCell b (.int .u32 1)).setCell ⟨b,1,none⟩ (.int .i32 0)).drew
theorem slow_any (b:Nat) (cap:Array Value) (R:World->Prop) (w:World)
 (hf:Calls Tryz.prog 261 cap (w.setCell ⟨b,1,none⟩ (.int .i32 1)) λe w'=>e=.returned (.tuple #[])/\R w')
 (hR:∀w',R w'->w'.cell? b=some (.int .u32 0)/\w'.cell? ⟨b,1,none⟩=some (.int .i32 1)/\w'.frozen? b=false/\w'.frozen? ⟨b,1,none⟩=false)
 (h0:w.cell? b=some (.int .u32 0)) (h1:w.cell? ⟨b,1,none⟩=some (.int .i32 0)) (f1:w.frozen? ⟨b,1,none⟩=false) :
 Calls Tryz.prog 303 #[.pointer (some b),.func (.func 261) #[] cap] w (YW b R):=by
 have hl:=run_call_load (P:=Tryz.prog) Tryz.func322 (by kernel_rfl) (by kernel_rfl) (by kernel_rfl) .u32 (by kernel_rfl) (w:=w.setCell ⟨b,1,none⟩ (.int .i32 1)) (a:=⟨b,0,none⟩) (x:=0) ((World.cell?_setCell_other _ ⟨b,1,none⟩ ⟨b,0,none⟩ _ (by simp)).trans h0);have hnot:∀(x:Bool) (w:World),(Op.unary .not (.bool x)).run Tryz.prog w=.ok (.bool (!x)) w:=λ_ _=>rfl
 have HF:=AX hf;have HR:=AX hR;clear hf hR;go_enter_defers Tryz.func303,Tryz.ntmps303
 go_wp2_with (go_at_call 323;refine (lock_free ⟨b,1,none⟩ _ (by go_simp) (by go_simp)).mono ?_;rintro e w' ⟨rfl,rfl⟩)
 go_wp2_with (first | (go_at_call 261;go_fit HF.out;rintro e w2 ⟨rfl,hw2⟩) | (go_at_call 302;go_in))
 obtain ⟨r0,r1,g0,g1⟩:=HR.out w2 hw2;have HW2:=AX hw2;clear hw2;go_wp2
 refine leaves_cons (f:=325) (args:=#[.pointer (some b),.bool true]) (by simp) (by simp [go_sem]) ?_
 refine (store_deferred ⟨b,0,none⟩ (.int .u32 0) .returning _ r0 g0).mono ?_
 rintro e u' w'' ⟨rfl,rfl,rfl⟩;refine leaves_cons (f:=324) (args:=#[.pointer (some ⟨b,1,none⟩)]) (by simp [settle]) (by simp [go_sem]) ?_
 refine (unlock_deferred ⟨b,1,none⟩ _ _ ?_ (by simp [g1])).mono ?_
 ·refine (World.cell?_setCell_other _ ⟨b,0,none⟩ ⟨b,1,none⟩ _ (by simp)).trans ?_
  rw [World.cell?_drew];exact r1
 rintro e u' w'' ⟨rfl,rfl,rfl⟩;simp [Leaves,settle,results,Tryz.results303];exact ⟨rfl,w2,HW2.out,rfl⟩
theorem do_first (b:Nat) (cap:Array Value) (R:World->Prop) (w:World)
 (hf:Calls Tryz.prog 261 cap (w.setCell ⟨b,1,none⟩ (.int .i32 1)) λe w'=>e=.returned (.tuple #[])/\R w')
 (hR:∀w',R w'->w'.cell? b=some (.int .u32 0)/\w'.cell? ⟨b,1,none⟩=some (.int .i32 1)/\w'.frozen? b=false/\w'.frozen? ⟨b,1,none⟩=false)
 (h0:w.cell? b=some (.int .u32 0)) (h1:w.cell? ⟨b,1,none⟩=some (.int .i32 0)) (f1:w.frozen? ⟨b,1,none⟩=false) :
 Calls Tryz.prog 260 #[.pointer (some b),.func (.func 261) #[] cap] w (YW b R):=by
 have hl:=run_call_load (P:=Tryz.prog) Tryz.func322 (by kernel_rfl) (by kernel_rfl) (by kernel_rfl) .u32 (by kernel_rfl) h0;have hnot:∀(x:Bool) (w:World),(Op.unary .not (.bool x)).run Tryz.prog w=.ok (.bool (!x)) w:=λ_ _=>rfl
 have HS:=AX (slow_any b cap R w hf hR h0 h1 f1);clear hf hR;go_enter Tryz.func260,Tryz.ntmps260
 go_wp2_with (first | (go_at_call 303;go_fit HS.out;rintro e w' ⟨rfl,w2,hw2,rfl⟩) | (go_at_call 302;go_in))
 go_end0
 exact ⟨rfl,w2,hw2,rfl⟩
end
section
open Go.RowKit Go.Shelf
theorem YX (n:Nat) (hn:n<10000000) (w:World) :
 Calls Tryz.prog 262 #[(n:Int)] w λe w'=>e=.returned (.tuple #[.pointer (some w.heap.size),.int .i64 0])/\w'=w.alloc (.cells #[(n:Int),.slice none 0 0,.slice none 0 0,.bool true] 375):=by
 have h1:decide ((n:Int)<0)=false:=decide_eq_false (by omega);have h2:decide ((68719476736:Int)<(n:Int))=false:=decide_eq_false (by omega);go_enter Tryz.func262,Tryz.ntmps262
 go_wp2_with fail
 go_ret2
 exact ⟨rfl,rfl⟩
theorem a0n (s:Value) (n:Nat) (xs:List Value) (w:World) (hs:D5 w 7 s n xs) (h1:∀u∈xs,u.oneCell'=true) (hb:n*56<=140737488355328) :
 Calls Tryz.prog 305 #[s] w λe w'=>∃A C,e=.returned (.slice A n C)/\w'.ownsRow w.heap.size 339 7 (.slice A n C) n xs/\Below w.heap.size w w':=by
 obtain ⟨i0,hi,hz0,hz1,hz2⟩:=info_parts XE;have HS:=AX hs;have H1:=AX h1;clear h1;have HB:=AX hb;clear hb;rcases hs.2 with ⟨rfl,rfl⟩ | ⟨b,o,sp,cap,rfl,_⟩
 ·clear hs;have he:=λw=>Lib.run_eql_slice_nil (P:=Tryz.prog) (w:=w) 224 339 none 0 0 0 0 Tryz.underlying224
  go_enter Tryz.func305,Tryz.ntmps305
  go_wp2
  go_ret
  have hx:xs = []:=List.eq_nil_of_length_eq_zero (by simpa using HS.1);subst hx;exact ⟨_,_,rfl,World.ownsRow_nil _ _ _ _,Below.refl _ _⟩
 ·clear hs;have he:=λw=>Lib.run_eql_slice_nil (P:=Tryz.prog) (w:=w) 224 339 (some ⟨b,o,sp⟩) n cap 0 0 Tryz.underlying224
  go_enter Tryz.func305,Tryz.ntmps305
  go_wp2_with (at_builtin;refine BM _ rfl _ _ 224 rfl w.heap.size 339 i0 (.agg #[.int .u8 0,.int .i64 0,.int .i64 0,.int .i64 0,.int .i64 0,.int .i64 0,.int .i64 0]) 7 56 Tryz.underlying224 hi hz0 hz1 hz2 rfl (by decide) _ 0 [] rfl (World.ownsRow_made w #[] 0 (Nat.le_refl _) (by decide) rfl) _ n xs rfl (Dh HS.out ((Bj.refl [] w).alloc _) (by simp)) H1.out (by have:=HB.out;unfold maxLen;omega) (Ac HB) (by simp) ?_)
  intro A C w1 HP;have HU:=HP.upd;have hb1:Below w.heap.size w w1:=(((Bj.refl [] w).alloc _).trans' HU (λk hk=>by simp [blk] at hk;omega)).below;have hown:w1.ownsRow w.heap.size 339 7 (.slice A n C) n xs:=by simpa using HP.own
  clear he;go_wp2
  go_ret
  exact ⟨_,_,rfl,hown,hb1⟩
theorem Uy (b:Nat) (most:Int) (vn vk:Value) (ns:List Nd) (ks:List Bool) (w:World) (h:Ew w b most vn vk ns ks) (hn:ns.length<10000000) :
 Calls Tryz.prog 264 #[.pointer (some b)] w λe w'=>∃A C,e=.returned (.slice A ns.length C)/\KD.row w' w.heap.size (.slice A ns.length C) ns/\Below w.heap.size w w':=by
 obtain ⟨An,Cn,rfl⟩:=BD h.nodes;have c1:w.cell? ⟨b,1,none⟩=some (.slice An ns.length Cn):=by simp [World.cell?,h.head]
 have hc:=a0n _ ns.length (KD.all ns) w (CV h.nodes) (KD.DU ns) (by omega);have HC:=AX hc;clear hc h;go_enter Tryz.func264,Tryz.ntmps264
 go_wp2_with fail
 go_fit HC.out
 rintro e w' ⟨A,C,rfl,h1,h2⟩;have HH:=Ap h1 h2;clear h1 h2;go_wp2_with fail
 go_ret
 exact ⟨A,C,rfl,HH.1,HH.2⟩
def Gf (w:World) (b n:Nat):Prop:=w.heap[b]? = some (.cells #[.int .u32 0,.int .i32 0,.int .u32 0,.slice none 0 0,(n:Int),.bool true] 312 (0,0))
theorem lX (n:Nat) (hn:n<1000000) (w:World) :
 Calls Tryz.prog 151 #[(n:Int)] w λe w'=>e=.returned (.tuple #[.pointer (some w.heap.size),.int .i64 0])/\w'=w.alloc (.cells #[.int .u32 0,.int .i32 0,.int .u32 0,.slice none 0 0,(n:Int),.bool true] 312):=by
 have h1:decide ((n:Int)<0)=false:=decide_eq_false (by omega);have h2:decide ((17179869184:Int)<(n:Int))=false:=decide_eq_false (by omega);go_enter Tryz.func151,Tryz.ntmps151
 go_wp2_with fail
 go_ret2
 exact ⟨rfl,rfl⟩
theorem V4 (b n:Nat) (w:World) (h:Gf w b n) :
 Calls Tryz.prog 224 #[.pointer (some b)] w λe w'=>e=.returned (.bool false)/\w=w':=by
 have c5:w.cell? ⟨b,5,none⟩=some (.bool true):=by unfold Gf at h;simp [World.cell?,h]
 clear h;go_enter Tryz.func224,Tryz.ntmps224
 go_wp2_with fail
 go_ret
 exact ⟨rfl,rfl⟩
theorem YZ (b n:Nat) (w:World) (h:Gf w b n) :
 Calls Tryz.prog 223 #[.pointer (some b)] w λe w'=>e=.returned (n:Int)/\w=w':=by
 have c4:w.cell? ⟨b,4,none⟩=some (.int .i64 (n:Int)):=by unfold Gf at h;simp [World.cell?,h]
 have HN:=AX (V4 b n w h);clear h;go_enter Tryz.func223,Tryz.ntmps223
 go_wp2_with fail
 go_fit HN.out
 rintro e w' ⟨rfl,rfl⟩;go_wp2_with fail
 go_ret
 exact ⟨rfl,rfl⟩
def II (n:Nat):Int:=if n=0 then -1 else ((2*n - 2:Nat):Int)
theorem V5 (b n:Nat) (w:World) (hn:n<1000000) (h:Gf w b n) :
 Calls Tryz.prog 153 #[.pointer (some b)] w λe w'=>e=.returned (.int .i64 (II n))/\w=w':=by
 have c4:w.cell? ⟨b,4,none⟩=some (.int .i64 (n:Int)):=by unfold Gf at h;simp [World.cell?,h]
 have HN:=AX (YZ b n w h);clear h;rcases Nat.eq_zero_or_pos n with rfl | h0
 ·go_enter Tryz.func153,Tryz.ntmps153
  go_wp2_with fail
  go_fit HN.out
  rintro e w' ⟨rfl,rfl⟩;go_wp2_with fail
  go_ret
  exact ⟨rfl,rfl⟩
 ·have hd:((n:Int)==0)=false:=by simp;omega
  have b0:(0:Int)<=(n:Int):=AY _;have b1:(n:Int)<1000000:=by omega
  have hr:II n=2*(n:Int) - 2:=by unfold II;rw [if_neg (by omega)];omega
  have HRR:=AX hr;clear hr;go_enter Tryz.func153,Tryz.ntmps153
  go_wp2_with fail
  go_fit HN.out
  rintro e w' ⟨rfl,rfl⟩;go_wp2_with fail
  go_ret
  exact ⟨by rw [HRR.out];rfl,rfl⟩
end
section
open Go.RowKit Go.Shelf
attribute [local go_sem ↓] Go.wp_at_zero Go.wp_at_succ
def CX (n:Nat):List Nd:=if n=0 then [] else EN 0 n 0
theorem DY (n:Nat):(CX n).length=2*n - 1:=by
 unfold CX;split
 ·simp;omega
 ·rw [G8 _ (by omega)];omega
def iJ (w:World) (b n:Nat) (w':World):Prop:=∃vn,w'.heap[b]? = some (.cells #[.int .u32 0,.int .i32 1,.int .u32 0,vn,(n:Int),.bool true] 312 (0,0))/\KD.row w' w.heap.size vn (CX n)/\Bj [b] w w'
theorem Iu {w:World} {n:Nat} {x0 x1 x2 x3 x4 x5:Value} {T:TypeId} (h:w.heap[n]? = some (.cells #[x0,x1,x2,x3,x4,x5] T (0,0))) :
 (w.cell? n=some x0/\w.cell? ⟨n,1,none⟩=some x1/\w.cell? ⟨n,2,none⟩=some x2/\w.cell? ⟨n,3,none⟩=some x3/\w.cell? ⟨n,4,none⟩=some x4/\w.cell? ⟨n,5,none⟩=some x5)/\∀j,w.frozen? ⟨n,j,none⟩=false:=by
 refine ⟨⟨?_,?_,?_,?_,?_,?_⟩,?_⟩<;>simp [World.cell?,World.frozen?,h]
theorem Y0 {w w1 w2:World} {b n:Nat} (hu:Bj [] w w1)
 (hb:w1.heap[b]? = some (.cells #[.int .u32 0,.int .i32 1,.int .u32 0,.slice none 0 0,(n:Int),.bool true] 312 (0,0))) (hbw:b<w.heap.size)
 {A:Option Addr} {C:Nat} (hr:KD.row w2 w1.heap.size (.slice A (CX n).length C) (CX n)) (h2:Below w1.heap.size w1 w2):iJ w b n (w2.setCell ⟨b,3,none⟩ (.slice A (CX n).length C)):=by
 have hu2:=Bj.of_below h2;have hs:=hu.size;refine ⟨_,heap_set ((hu2.block b (lt_of_block hb) (by simp)).trans hb) 3 _,?_,?_⟩
 ·refine own_base (BG hr (λhc=>?_) _) hs
  have:=BH hr b hc;omega
 ·exact ((hu.trans hu2).mono (by simp)).setCell (.inl (by simp)) _
theorem bQ (b l:Nat) (w:World) (hl:w.cell? l=some (.pointer (some b)))
 (h:w.heap[b]? = some (.cells #[.int .u32 0,.int .i32 1,.int .u32 0,.slice none 0 0,.int .i64 ((0:Nat):Int),.bool true] 312 (0,0))) :
 Calls Tryz.prog 261 #[.pointer (some l)] w λe w'=>e=.returned (.tuple #[])/\iJ w b 0 w':=by
 have hbw:=lt_of_block h;have hlw:l<w.heap.size:=World.block_lt_of_cell? w _ hl;obtain ⟨⟨_,_,_,c3,c4,_⟩,cf⟩:=Iu h;have c4':w.cell? ⟨b,4,none⟩=some (.int .i64 0):=c4;have hp:Calls Tryz.prog 262 #[.int .i64 0] w λe w'=>e=.returned (.tuple #[.pointer (some w.heap.size),.int .i64 0])/\w'=w.alloc (.cells #[.int .i64 0,.slice none 0 0,.slice none 0 0,.bool true] 375):=YX 0 (by omega) w
 have HP:=AX hp;clear hp;have HH:=AX h;clear h cf c3 c4;go_enter Tryz.func261,Tryz.ntmps261
 go_wp2_with fail
 go_fit HP.out
 rintro e w' ⟨rfl,rfl⟩;go_upto_region 3 with fail
 have hu1:Bj [] w (w.alloc (.cells #[.int .i64 0,.slice none 0 0,.slice none 0 0,.bool true] 375)):=(Bj.refl _ _).alloc _;have hp1:Ew (w.alloc (.cells #[.int .i64 0,.slice none 0 0,.slice none 0 0,.bool true] 375)) w.heap.size 0 (.slice none 0 0) (.slice none 0 0) (CX 0) []:=⟨heap_alloc_new w _,World.ownsRow_nil _ _ _ _,World.ownsRow_nil _ _ _ _,rfl,by simp [blk],by simp [blk],by simp [blk]⟩;generalize (w.alloc (.cells #[.int .i64 0,.slice none 0 0,.slice none 0 0,.bool true] 375))=W1 at hu1 hp1 |-;have uT:Bj [] W1 W1:=Bj.refl _ _;have hs1:W1.cell? l=some (.pointer (some b)):=(hu1.cell (p:=⟨l,0,none⟩) hlw (by simp)).trans hl;have s1:W1.drew.cell? l=some (.pointer (some b)):=hs1;have hb1:=(hu1.block b hbw (by simp)).trans HH.out;have HB1:=AX hb1;have DJ:=AX hu1.drew;have HBW:=AX hbw;have hn:Calls Tryz.prog 264 #[.pointer (some w.heap.size)] W1.drew λe w'=>∃A C,e=.returned (.slice A (CX 0).length C)/\KD.row w' W1.drew.heap.size (.slice A (CX 0).length C) (CX 0)/\Below W1.drew.heap.size W1.drew w':=Uy _ _ _ _ _ _ _ (hp1.upd (uT.drew) (by simp)) (by rw [DY];omega)
 have HN:=AX hn;clear hn hb1 hu1 hp1 uT;refine Bo.start [3,4,5,6] (λw'=>w'.cell? l=some (.pointer (some b))) (by kernel_rfl) ?_ λhS=>?_
 ·exact s1
 refine' Bo.ty 1 0 27 ?_
 refine' Bo.mx 1 28 ?_
 refine Bo.one (i:=2) (o:=⟨some 29,_,_,_,_,_⟩) rfl (by kernel_rfl) λK hK=>?_
 go_simp
 go_at_call 264
 go_fit HN.out
 rintro e w2 ⟨A,C,rfl,g1,g2⟩;have hh2:=((Bj.of_below g2).block b (lt_of_block HB1.out) (by simp)).trans HB1.out;obtain ⟨⟨_,_,_,e3,_,_⟩,ef⟩:=Iu hh2;have e3f:=ef 3;have HG:=Ap g1 g2;clear g1 g2 hh2 ef;refine hK.out _ _ (λ_ h=>?_) ?_
 ·exact (HG.2.cell (p:=⟨l,0,none⟩) (World.block_lt_of_cell? _ _ h)).trans h
 clear hK K;try simp only [Act.put,sA,sZ,sS]
 refine' Bo.mx 3 30 ?_
 refine' Bo.mx 4 31 ?_
 refine' Bo.mx 5 32 ?_
 refine Bo.one (i:=6) (o:=⟨none,_,_,_,_,_⟩) rfl (by kernel_rfl) λK hK=>?_
 go_simp
 refine hK.out _ _ (λh=>(by cases h)) ?_
 clear hK K;try simp only [Act.put,sA,sZ,sS]
 refine Bo.done (by kernel_rfl) ?_
 go_wp2_with fail
 go_end0
 exact ⟨rfl,Y0 DJ.out HB1.out HBW.out HG.1 HG.2⟩
theorem lY (b l n:Nat) (w:World) (hn0:0<n) (hn1:n<400000) (hl:w.cell? l=some (.pointer (some b)))
 (h:w.heap[b]? = some (.cells #[.int .u32 0,.int .i32 1,.int .u32 0,.slice none 0 0,(n:Int),.bool true] 312 (0,0))) :
 Calls Tryz.prog 261 #[.pointer (some l)] w λe w'=>e=.returned (.tuple #[])/\iJ w b n w':=by
 have hbw:=lt_of_block h;have hlw:l<w.heap.size:=World.block_lt_of_cell? w _ hl;obtain ⟨⟨_,_,_,c3,c4,_⟩,cf⟩:=Iu h
 have hp:Calls Tryz.prog 262 #[.int .i64 (2*(n:Int))] w λe w'=>e=.returned (.tuple #[.pointer (some w.heap.size),.int .i64 0])/\w'=w.alloc (.cells #[.int .i64 (2*(n:Int)),.slice none 0 0,.slice none 0 0,.bool true] 375):=by
  have:=YX (2*n) (by omega) w;simpa using this
 have hp1:Ew (w.alloc (.cells #[.int .i64 (2*(n:Int)),.slice none 0 0,.slice none 0 0,.bool true] 375)) w.heap.size (2*n:Nat) (.slice none 0 0) (.slice none 0 0) [] []:=⟨by simpa using heap_alloc_new w _,World.ownsRow_nil _ _ _ _,World.ownsRow_nil _ _ _ _,rfl,by simp [blk],by simp [blk],by simp [blk]⟩;have hla:=a7S w.heap.size (2*n) n 0 n _ _ _ _ _ (by omega) hn0 (by omega) hp1 (by simp) (by simp;omega);have hu0:Bj [] w (w.alloc (.cells #[.int .i64 (2*(n:Int)),.slice none 0 0,.slice none 0 0,.bool true] 375)):=(Bj.refl _ _).alloc _;have hd0:decide ((0:Int)<(n:Int))=true:=decide_eq_true (by omega);have b0:(0:Int)<=(n:Int):=AY _;have b1:(n:Int)<400000:=by omega
 have q4:(w.alloc (.cells #[.int .i64 (2*(n:Int)),.slice none 0 0,.slice none 0 0,.bool true] 375)).cell? ⟨b,4,none⟩=some (.int .i64 (n:Int)):=by rw [World.cell?_alloc_past _ _ _ hbw];exact c4
 have ql:(w.alloc (.cells #[.int .i64 (2*(n:Int)),.slice none 0 0,.slice none 0 0,.bool true] 375)).cell? l=some (.pointer (some b)):=by rw [World.cell?_alloc_past _ _ _ hlw];exact hl
 have hnd:[]++EN 0 n ([]:List Nd).length=CX n:=by unfold CX;rw [if_neg (by omega)];rfl
 rw [hnd] at hla;obtain ⟨R,hR⟩:=AU (([]:List Nd).length+2*(n - 0) - 2);rw [hR] at hla;have HP:=AX hp;have HLA:=AX (show Calls Tryz.prog 263 #[.pointer (some w.heap.size),.int .i64 0,(n:Int)] _ _ from hla);have Gu:=AX hu0;have HH:=AX h;clear hp hla h cf c3 hp1 hu0 hnd hR;go_enter Tryz.func261,Tryz.ntmps261
 go_wp2_with fail
 go_fit HP.out
 rintro e w' ⟨rfl,rfl⟩;go_wp2_with fail
 go_fit HLA.out
 rintro e W1 ⟨rfl,vn,vk,hp1,r2,_⟩;have hu1:Bj [] w W1:=Gu.out.trans' r2 (λx hx=>.inr (by simp [blk] at hx;omega));have uT:Bj [] W1 W1:=Bj.refl _ _;have hs1:W1.cell? l=some (.pointer (some b)):=(hu1.cell (p:=⟨l,0,none⟩) hlw (by simp)).trans hl;have s1:W1.drew.cell? l=some (.pointer (some b)):=hs1;have hb1:=(hu1.block b hbw (by simp)).trans HH.out;have HB1:=AX hb1;have DJ:=AX hu1.drew;have HBW:=AX hbw;have hn:Calls Tryz.prog 264 #[.pointer (some w.heap.size)] W1.drew λe w'=>∃A C,e=.returned (.slice A (CX n).length C)/\KD.row w' W1.drew.heap.size (.slice A (CX n).length C) (CX n)/\Below W1.drew.heap.size W1.drew w':=Uy _ _ _ _ _ _ _ (hp1.upd (uT.drew) (by simp)) (by rw [DY];omega)
 have HN:=AX hn;clear r2 hn hb1 hu1 hp1 uT;go_upto_region 3 with fail
 refine Bo.start [3,4,5,6] (λw'=>w'.cell? l=some (.pointer (some b))) (by kernel_rfl) ?_ λhS=>?_
 ·exact s1
 refine' Bo.ty 1 0 27 ?_
 refine' Bo.mx 1 28 ?_
 refine Bo.one (i:=2) (o:=⟨some 29,_,_,_,_,_⟩) rfl (by kernel_rfl) λK hK=>?_
 go_simp
 go_at_call 264
 go_fit HN.out
 rintro e w2 ⟨A,C,rfl,g1,g2⟩;have hh2:=((Bj.of_below g2).block b (lt_of_block HB1.out) (by simp)).trans HB1.out;obtain ⟨⟨_,_,_,e3,_,_⟩,ef⟩:=Iu hh2;have e3f:=ef 3;have HG:=Ap g1 g2;clear g1 g2 hh2 ef;refine hK.out _ _ (λ_ h=>?_) ?_
 ·exact (HG.2.cell (p:=⟨l,0,none⟩) (World.block_lt_of_cell? _ _ h)).trans h
 clear hK K;try simp only [Act.put,sA,sZ,sS]
 refine' Bo.mx 3 30 ?_
 refine' Bo.mx 4 31 ?_
 refine' Bo.mx 5 32 ?_
 refine Bo.one (i:=6) (o:=⟨none,_,_,_,_,_⟩) rfl (by kernel_rfl) λK hK=>?_
 go_simp
 refine hK.out _ _ (λh=>(by cases h)) ?_
 clear hK K;try simp only [Act.put,sA,sZ,sS]
 refine Bo.done (by kernel_rfl) ?_
 go_wp2_with fail
 go_end0
 exact ⟨rfl,Y0 DJ.out HB1.out HBW.out HG.1 HG.2⟩
def V6 (w:World) (b n:Nat) (e:Ending) (w':World):Prop:=
 ∃A C,e=.returned (.slice A (CX n).length C)/\KD.row w' w.heap.size (.slice A (CX n).length C) (CX n)/\Bj [b] w w'
theorem uU (b n:Nat) (w:World) (hn:n<400000) (h:Gf w b n) :
 Calls Tryz.prog 225 #[.pointer (some b)] w (V6 w b n):=by
 have hbw:=lt_of_block h;have hmf:∀(fn:Fn) (first cap:Array Value) (w:World),(Instr.makeFunc fn first cap).run Tryz.prog w=.ok (.func fn first cap) w:=λ_ _ _ _=>rfl
 have hu0:Bj [] w (w.alloc (.cells #[.pointer (some b)] 212)):=(Bj.refl _ _).alloc _;have hl0:(w.alloc (.cells #[.pointer (some b)] 212)).cell? w.heap.size=some (.pointer (some b)):=by rw [World.cell?_alloc_at _ _ _ _ rfl];rfl
 have h0:=(hu0.block b hbw (by simp)).trans h;have hs0:w.heap.size<(w.alloc (.cells #[.pointer (some b)] 212)).heap.size:=by simp
 generalize hW0:w.alloc (.cells #[.pointer (some b)] 212)=W0 at hu0 hl0 h0 hs0;have hbl:(⟨b,1,none⟩:Addr)≠⟨w.heap.size,0,none⟩:=λe=>by injection e with e _ _;omega
 have h1:(W0.setCell ⟨b,1,none⟩ (.int .i32 1)).heap[b]? = some (.cells #[.int .u32 0,.int .i32 1,.int .u32 0,.slice none 0 0,(n:Int),.bool true] 312 (0,0)):=heap_set h0 1 _;have hl1:(W0.setCell ⟨b,1,none⟩ (.int .i32 1)).cell? w.heap.size=some (.pointer (some b)):=(World.cell?_setCell_other _ _ _ _ hbl).trans hl0;have hu1:Bj [b] W0 (W0.setCell ⟨b,1,none⟩ (.int .i32 1)):=(Bj.refl _ _).setCell (.inl (by simp)) _;obtain ⟨⟨c0,c1,_⟩,cf⟩:=Iu h0
 have hcl:Calls Tryz.prog 261 #[.pointer (some w.heap.size)] (W0.setCell ⟨b,1,none⟩ (.int .i32 1)) λe w'=>e=.returned (.tuple #[])/\iJ (W0.setCell ⟨b,1,none⟩ (.int .i32 1)) b n w':=by
  rcases Nat.eq_zero_or_pos n with rfl | hp
  ·exact bQ b _ _ hl1 h1
  ·exact lY b _ n _ hp hn hl1 h1
 have hdo:=do_first b _ _ W0 hcl (λw' hr=>by
  obtain ⟨vn,g1,_,_⟩:=hr;obtain ⟨⟨e0,e1,_⟩,ef⟩:=Iu g1;exact ⟨e0,e1,ef 0,ef 1⟩) c0 c1 (cf 1)
 have HDO:=AX hdo;have HU:=Ap hu0 hu1;have HL:=AX hl1;have HW:=AX hW0;have HS:=AX hs0;clear hdo hcl hu0 hu1 hl1 h1 h0 c0 c1 cf h hbl hW0;go_enter Tryz.func225,Tryz.ntmps225
 go_upto_region 1 with fail
 rw [HW.out];go_wp2_with fail
 go_fit HDO.out
 rintro e w' ⟨rfl,w2,⟨vn,g1,g2,g3⟩,rfl⟩;obtain ⟨A,C,rfl⟩:=BD g2;have k1:=heap_set (heap_set g1 0 (.int .u32 1)) 1 (.int .i32 0);have k2:Bj [b] w2 ((w2.setCell b (.int .u32 1)).setCell ⟨b,1,none⟩ (.int .i32 0)).drew:=(((Bj.refl [b] w2).setCell (p:=⟨b,0,none⟩) (.inl (by simp)) _).setCell (p:=⟨b,1,none⟩) (.inl (by simp)) _).drew;have hs1:W0.heap.size=(W0.setCell ⟨b,1,none⟩ (.int .i32 1)).heap.size:=by simp [World.setCell]
 have hbv:b∉blk (.slice A (CX n).length C):=λhc=>by
  have:=BH g2 b hc;rw [<-hs1] at this;omega
 have k3:KD.row ((w2.setCell b (.int .u32 1)).setCell ⟨b,1,none⟩ (.int .i32 0)).drew W0.heap.size (.slice A (CX n).length C) (CX n):=by
  rw [hs1];exact Bl g2 k2 (λy hy hc=>hbv (by simp at hc;rw [<-hc];exact hy))
 have a5I:w.heap.size≠b:=by omega
 have k4:((w2.setCell b (.int .u32 1)).setCell ⟨b,1,none⟩ (.int .i32 0)).drew.cell? w.heap.size=some (.pointer (some b)):=
  ((g3.trans k2).cell (p:=⟨w.heap.size,0,none⟩) (by rw [<-hs1];exact HS.out) (by simpa using a5I)).trans HL.out
 have k5:((w2.setCell b (.int .u32 1)).setCell ⟨b,1,none⟩ (.int .i32 0)).drew.cell? ⟨b,3,none⟩=some (.slice A (CX n).length C):=by
  rw [World.cell?_drew];unfold World.cell?;rw [k1];rfl
 have HE:=Ap k3 (HU.1.mono (G:=[b]) (by simp) |>.trans (HU.2.trans (g3.trans k2)));have eY:w.heap.size<=W0.heap.size:=Nat.le_of_lt HS.out;clear k1 k2 k3 g1 g2 g3 hs1 hbv a5I;generalize ((w2.setCell b (.int .u32 1)).setCell ⟨b,1,none⟩ (.int .i32 0)).drew=W3 at *;go_wp2_with fail
 go_ret
 exact ⟨A,C,rfl,own_base HE.1 eY,HE.2⟩
theorem Uz (b n:Nat) (w:World) (hn:n<400000) (h:Gf w b n) :
 Calls Tryz.prog 154 #[.pointer (some b)] w (V6 w b n):=by
 obtain ⟨i0,hi,hz0,hz1,hz2⟩:=info_parts XE;have hbw:=lt_of_block h;have hu0:Bj [] w (w.alloc (.cells #[] 339)):=(Bj.refl _ _).alloc _;have hr0:(w.alloc (.cells #[] 339)).ownsRow w.heap.size 339 7 (.slice (some ⟨w.heap.size,0,none⟩) 0 0) 0 []:=⟨rfl,.inr ⟨w.heap.size,0,#[],rfl,Nat.le_refl _,heap_alloc_new w _,Nat.le_refl _,Nat.zero_le _,rfl,rfl⟩⟩;have hs0:w.heap.size<(w.alloc (.cells #[] 339)).heap.size:=by simp
 have hnn:=V4 b n w h;have hal:=uU b n (w.alloc (.cells #[] 339)) hn ((hu0.block b hbw (by simp)).trans h);have hl:=DY n;obtain ⟨N,hN⟩:=AU ((CX n).length);have HN:=AX hnn;have HA:=AX hal;have HU:=AX hu0;have HR:=AX hr0;have HNE:=AX hN;have hNb:N<1000000:=by omega
 clear hnn hal hu0 hr0 h hl hN;go_enter Tryz.func154,Tryz.ntmps154
 go_wp2_with fail
 go_fit HN.out
 rintro e w' ⟨rfl,rfl⟩;go_wp2_with fail
 go_fit HA.out
 rintro e w' ⟨A,C,rfl,g1,g2⟩;have k1:w'.ownsRow w.heap.size 339 7 (.slice (some ⟨w.heap.size,0,none⟩) 0 0) 0 []:=Bl HR.out g2 (by simp [blk];omega);have k2:=CV g1;rw [HNE.out] at k2 |-;have k3:w.heap.size<=w'.heap.size:=by have:=g2.size;omega
 have HK:=Ap k1 k2;have HG:=AX g2;clear k1 k2 g1 g2;go_wp2_with (at_builtin;refine BM _ rfl _ _ 224 rfl w.heap.size 339 i0 (.agg #[.int .u8 0,.int .i64 0,.int .i64 0,.int .i64 0,.int .i64 0,.int .i64 0,.int .i64 0]) 7 56 Tryz.underlying224 hi hz0 hz1 hz2 rfl (by decide) _ 0 [] rfl HK.1 _ N (KD.all (CX n)) rfl HK.2 (KD.DU _) (by unfold maxLen;omega) (by omega) k3 ?_)
 intro A2 C2 w2 HP;have HP2:=AX HP;clear HP;go_wp2_with fail
 go_ret
 have e1:=HP2.out.own;have e2:=HP2.out.upd;refine ⟨A2,C2,?_,?_,?_⟩
 ·rw [HNE.out];rfl
 ·rw [HNE.out];unfold Kind.row;rw [HNE.out];have e1':w2.ownsRow w.heap.size 339 7 (.slice A2 N C2) N (KD.all (CX n)):=by simpa using e1
  exact e1'
 ·exact ((HU.out.mono (by simp)).trans HG.out).trans' e2 (λy hy=>.inr (by simp [blk] at hy;omega))
