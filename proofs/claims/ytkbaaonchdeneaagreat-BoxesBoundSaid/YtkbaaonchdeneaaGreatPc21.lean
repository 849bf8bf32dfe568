/- ivl.Drop. Printed by mkdropi.py. -/
import Derived.StillTailTactics
import Derived.Test.YtkbaaonchdeneaaGreatPc20
set_option maxHeartbeats 16000000
set_option maxRecDepth 100000
namespace Go.Proofs.YtkbaaonchdeneaaGreat
open Go.RowKit
def YB (w:World) (kb:Nat) (Eb Gh:Value):Prop:=w.cell? ⟨kb,1,none⟩=some Eb/\w.cell? ⟨kb,2,none⟩=some Gh
theorem YB.upd {w w':World} {kb:Nat} {Eb Gh:Value} (h:YB w kb Eb Gh) {F:List Nat} (hu:Bj F w w') (hk:kb∉F):YB w' kb Eb Gh:=
 ⟨(hu.cell (p:=⟨kb,1,none⟩) (World.block_lt_of_cell? w _ h.1) hk).trans h.1,(hu.cell (p:=⟨kb,2,none⟩) (World.block_lt_of_cell? w _ h.2) hk).trans h.2⟩
theorem kK {w:World} {b:Nat} {p vr:Value} {R:List Sp} {T:Kn} {Fk:List Nat} (h:Jd w b p vr R T Fk) (x:Sp) (hx:x∉R) (hb:R.length<=1000) :
 Calls Tryz.prog 110 #[.pointer (some b),IE x] w λe w'=>e=.returned (.bool false)/\Bj [] w w':=by
 have hu:Bj [] w (w.alloc (.cells #[x.lo,x.hi,.int .u32 (x.id:Int)] 62)):=(Bj.refl _ _).alloc _;have hbx:=Oh.new w x;have h0:=h.BF hu;have HU:=AX hu;have hix:=qI vr R x (w.alloc (.cells #[x.lo,x.hi,.int .u32 (x.id:Int)] 62)).drew (See.BU (Bl h0.row (Bj.refl [] _).drew (by simp))) (by omega);unfold IE at hix |-;have c0:=h0.cells.1;have c2:=h0.cells.2.2.1;have HX:=AX hx;go_enter Tryz.func110,Tryz.ntmps110
 go_upto_region 1 with fail
 generalize (w.alloc (.cells #[x.lo,x.hi,.int .u32 (x.id:Int)] 62))=W0 at HU hbx hix c0 c2 |-;obtain ⟨d0,d1,d2⟩:=hbx;have fE:=AX hix;clear hix h h0 hu hx hb;go_upto_region 3 with fail
 go_still_tail 5,(by kernel_rfl)
 change wpList _ _ _ _ _ W0.drew
 go_wp2_with fail
 go_fit fE.out
 rintro e w1 ⟨u1,(⟨-,rfl⟩ | ⟨k,hk,-⟩)⟩
 ·have DJ:=AX u1;clear u1;go_wp2_with fail
  go_ret
  exact ⟨rfl,(HU.out.trans (Bj.refl [] _).drew).trans DJ.out⟩
 ·exact absurd (List.mem_of_getElem? hk) HX.out
def kL (w:World) (b:Nat) (p vr:Value) (R:List Sp) (T:Kn) (Fk:List Nat) (x:Sp) (e:Ending) (w':World):Prop:=
 e=.returned (.bool true)/\∃vn,Jd w' b p vn (without R x) (T.drop x) Fk/\blk vn=blk vr/\Bj (b::(blk vr++Fk)) w w'
theorem aJ {w:World} {b:Nat} {p vr:Value} {R:List Sp} {T:Kn} {Fk:List Nat} (h:Jd w b p vr R T Fk) (x:Sp) (hx:x∈R) (hnd:R.Nodup) (ho:T.ok R) (hb:R.length<=1000) :
 Calls Tryz.prog 110 #[.pointer (some b),IE x] w (kL w b p vr R T Fk x):=by
 have hu:Bj [] w (w.alloc (.cells #[x.lo,x.hi,.int .u32 (x.id:Int)] 62)):=(Bj.refl _ _).alloc _;have hbx:=Oh.new w x;have h0:=h.BF hu;have HU:=AX hu;obtain ⟨pq,rfl⟩:=h.tree.ptr;obtain ⟨k,hk⟩:=List.mem_iff_getElem?.1 hx;obtain ⟨n,hn⟩:=AU R.length;have hkn:k<n:=by rw [<-hn];exact (AZ hk).1
 obtain ⟨g,C,yu⟩:∃g C,vr=.slice (some ⟨g,0,none⟩) n C:=by
  rcases h.row.2 with ⟨-,h2⟩ | ⟨g,cap,cur,h2,-⟩
  ·omega
  ·exact ⟨g,cap,by rw [h2,hn]⟩
 subst yu;have hix:=qI (.slice (some ⟨g,0,none⟩) n C) R x (w.alloc (.cells #[x.lo,x.hi,.int .u32 (x.id:Int)] 62)).drew (See.BU (Bl h0.row (Bj.refl [] _).drew (by simp))) (by omega);unfold IE at hix |-;have c0:=h0.cells.1;have c2:=h0.cells.2.2.1
 have hqf:∀y,y=b\/y∈blk (.slice (some ⟨g,0,none⟩) n C)\/y∈Fk->y<w.heap.size:=λy hy=>by
  rcases hy with rfl | hy | hy
  ·exact lt_of_block h.head
  ·exact BJ h.row y hy
  ·exact h.tree.lt y hy
 have HXF:=AX hb;have HX:=Az hx hnd ho hk hn hkn;have Jr:=AX hqf;have HH:=AX h0;have HA0:=Aq h.bro h.btr h.rtr;have k0:(0:Int)<=(k:Int):=AY _;have k1:(k:Int)<(n:Int):=by omega
 have n1:(n:Int)<=1000:=by omega
 go_enter Tryz.func110,Tryz.ntmps110
 go_upto_region 1 with fail
 generalize (w.alloc (.cells #[x.lo,x.hi,.int .u32 (x.id:Int)] 62))=W0 at HU hbx hix c0 c2 HH |-;obtain ⟨q,hq⟩:=AU w.heap.size;rw [hq] at hbx Jr |-;have G7:=AX hbx;obtain ⟨d0,d1,d2⟩:=hbx;have fE:=AX hix;clear hix h h0 hu hx hb hnd ho hk hn hkn hqf hq;go_upto_region 3 with fail
 go_still_tail 5,(by kernel_rfl)
 change wpList _ _ _ _ _ W0.drew
 go_wp2_with fail
 go_fit fE.out
 rintro e w1 ⟨u1,(⟨hc,-⟩ | ⟨k',hk',rfl⟩)⟩
 ·exact absurd HX.1 hc
 have hkk:k'=k:=by
  obtain ⟨g1,g2⟩:=AZ hk';obtain ⟨g3,g4⟩:=AZ HX.2.2.2.1;rcases Nat.lt_trichotomy k' k with h1 | h1 | h1
  ·exact absurd (g2.trans g4.symm) (List.pairwise_iff_getElem.1 HX.2.1 k' k g1 g3 h1)
  ·exact h1
  ·exact absurd (g4.trans g2.symm) (List.pairwise_iff_getElem.1 HX.2.1 k k' g3 g1 h1)
 subst hkk;have hu1:Bj [] W0 w1:=(Bj.refl [] W0).drew.trans u1;have h1:=HH.out.BF hu1;have a4c:=G7.out.upd hu1 (by simp);have hdel:=yT 0 g n C R k' w1 h1.row HX.2.2.2.2.1 HX.2.2.2.2.2 (by omega);have a6R:=AX hdel;have H1:=Aq h1 a4c hu1;have c21:=h1.cells.2.2.1;clear u1 hk' h1 a4c hdel d0 d1 d2 c0 c2 hu1;go_wp2_with fail
 go_fit a6R.out
 rintro e w2 ⟨rfl,r2,u2⟩;have a4d:R.eraseIdx k'=without R x:=KJ HX.2.1 HX.2.2.2.1;rw [a4d] at r2;have hgb:g≠b:=λe=>HA0.1 (by simp [blk,e])
 have hbg:b∉[g]:=by simp;exact Ne.symm hgb
 have hh2:=(u2.block b (lt_of_block H1.1.head) hbg).trans H1.1.head;have c22:w2.cell? ⟨b,2,none⟩=some (.slice (some ⟨g,0,none⟩) n C):=by simp [World.cell?,hh2]
 have f22:w2.frozen? ⟨b,2,none⟩=false:=by simp [World.frozen?,hh2]
 have hh3:=heap_set hh2 2 (.slice (some ⟨g,0,none⟩) (R.length - 1) C);have us:Bj [b] w2 (w2.setCell ⟨b,2,none⟩ (.slice (some ⟨g,0,none⟩) (R.length - 1) C)):=(Bj.refl _ _).setCell (p:=⟨b,2,none⟩) (.inl (by simp)) _;have r3:=Bl r2 us (by simpa [blk] using hgb);have t3:=(H1.1.tree.upd u2 (λy hy hc=>by simp at hc;subst hc;exact HA0.2.2 y (by simp [blk]) hy)).upd us (λy hy hc=>by simp at hc;subst hc;exact HA0.2.1 hy);have hqg:q∉[g]:=by simp;intro e;have:=Jr.out g (.inr (.inl (by simp [blk])));omega
 have PO:q∉[b]:=by simp;intro e;have:=Jr.out b (.inl rfl);omega
 have b3:=(H1.2.1.upd u2 hqg).upd us PO;have HE3:=Aq (H1.2.2.mono (G:=[g,b]) (by simp)) (u2.mono (G:=[g,b]) (by simp)) (us.mono (G:=[g,b]) (by simp));clear a4d u2 r2 c21 hgb hbg hh2 hqg PO us;go_upto_region 7 with fail
 clear c22 f22;have EJ:=AX ((HE3.1.trans HE3.2.1).trans HE3.2.2);generalize (w2.setCell ⟨b,2,none⟩ (.slice (some ⟨g,0,none⟩) (R.length - 1) C))=W3 at hh3 r3 t3 b3 EJ |-;have c31:W3.cell? ⟨b,1,none⟩=some (.pointer pq):=by simp [World.cell?,hh3]
 have HHO:=AX (NG.start t3 HX.2.2.1 HX.1 HX.2.1 HXF.out);have H3:=Aq hh3 r3 b3;clear hh3 r3 t3 b3;go_wp2_with fail
 clear c31;go_loopg [6] T.depth (λm s6 wr=>∃(T':Kn) (F':List Nat) (S':List Sp),m=T'.depth/\NG W3 x T (.pointer pq) Fk T' s6 F' S'/\Bj [] W3 wr)
 case atStart=>exact ⟨T,Fk,R,rfl,HHO.out,Bj.refl _ _⟩
 case round=>
  obtain ⟨T',F',S',hmd,hho,hup⟩:=hrel;obtain ⟨m',lo,hi2,l,r,rfl⟩:=hho.node;obtain ⟨kb,Eb,Gh,pl,pr,Fl,Fr,rfl,hon⟩:=hho.open;have qV:=fQ m' lo hi2 l r;have hhk:=(hup.block kb (lt_of_block hon.head) (by simp)).trans hon.head;have kc0:wr.cell? kb=some (.int .i64 m'):=by simp [World.cell?,hhk]
  obtain ⟨e0,e1,e2⟩:=H3.2.2.upd hup (by simp);have Qi:=AX hon;have Rz:=Ap hup hhk;have HMD:=Ap hmd qV;clear hho hon hhk hup hmd qV;by_cases c1:x.hi<m'
  ·have hl:=Qi.out.left c1;obtain ⟨ql,rfl⟩:=hl.here.ptr;have kc3:wr.cell? ⟨kb,3,none⟩=some (.pointer ql):=by simp [World.cell?,Rz.2]
   have q1:decide (x.hi<m')=true:=decide_eq_true c1;have HL:=AX hl;clear hl c1;go_wp2_with fail
   go_quiet (fail)
   go_wp2_with fail
   go_quiet (fail)
   go_wp2_with fail
   go_roundg l.depth
   case measure=>have h1:=HMD.1;have h2:=HMD.2.1;omega
   case rel=>exact ⟨l,Fl,_,rfl,HL.out,Rz.1.drewN _⟩
  ·by_cases c2:m'<x.lo
   ·have hl:=Qi.out.right c1 c2;obtain ⟨ql,rfl⟩:=hl.here.ptr;have kc4:wr.cell? ⟨kb,4,none⟩=some (.pointer ql):=by simp [World.cell?,Rz.2]
    have q1:decide (x.hi<m')=false:=decide_eq_false c1;have q2:decide (m'<x.lo)=true:=decide_eq_true c2;have HL:=AX hl;clear hl c1 c2;go_wp2_with fail
    go_quiet (fail)
    go_wp2_with fail
    go_quiet (fail)
    go_wp2_with fail
    go_roundg r.depth
    case measure=>have h1:=HMD.1;have h2:=HMD.2.2.1;omega
    case rel=>exact ⟨r,Fr,_,rfl,HL.out,Rz.1.drewN _⟩
   ·have q1:decide (x.hi<m')=false:=decide_eq_false c1;have q2:decide (m'<x.lo)=false:=decide_eq_false c2;have nZ:=Ap c1 c2;clear c1 c2;go_wp2_with fail
    go_quiet (fail)
    go_wp2_with fail
    go_upto_region 13 with fail
    generalize hwq:wr.drewN _=Wq;have huq:Bj [] wr Wq:=hwq ▸ (Bj.refl [] wr).drewN _;have hud:=huq.drew;have hh6:=(hud.block kb (lt_of_block Rz.2) (by simp)).trans Rz.2;have hw6:=Rz.1.trans hud;have HKD:=AX (show YB Wq.drew kb Eb Gh from ⟨by simp [World.cell?,hh6],by simp [World.cell?,hh6]⟩);have hq6:=H3.2.2.upd hw6 (by simp);have L9:∀y∈Fk,y≠q:=λy hy hc=>by have:=Jr.out y (.inr (.inr hy));omega
    have ZY:=Ap (λhc=>L9 q (Qi.out.inF q (.inr (.inl hc))) rfl:q∉blk Eb) (λhc=>L9 q (Qi.out.inF q (.inr (.inr hc))) rfl:q∉blk Gh);have PU:=Ap (show lo.length<1000000 by have:=Qi.out.flo;omega) (show hi2.length<1000000 by have:=Qi.out.fhi;omega);have MW:=Aq hh6 (Bl Qi.out.rhi hw6 (by simp)) hq6;have HD1:=AX (a0V 0 Eb lo x q Wq.drew (Bl Qi.out.rlo hw6 (by simp)) Qi.out.nlo (Qi.out.xlo (Ac nZ) (Ac nZ)) PU.1 hq6 ZY.1);have HW6:=AX hw6;clear hh6 hw6 hq6 L9 hud huq hwq e0 e1 e2 kc0 q1 q2;refine Bo.start [13,14,15,16,17,18,19] (λw'=>YB w' kb Eb Gh) (by kernel_rfl) ?_ λhS=>?_
    ·exact HKD.out
    refine' Bo.mx 0 72 ?_
    refine' Bo.mx 1 73 ?_
    refine' Bo.mx 2 74 ?_
    refine' Bo.mx 3 75 ?_
    refine' Bo.mx 4 76 ?_
    refine' Bo.tk 2 (i:=5) (oi:=⟨some 77,_,_,_,_,_⟩) rfl (by rfl) ?a4e ?_
    case a4e=>intro w hSw;obtain ⟨s0,s1⟩:=hSw;go_simp<;>with_reducible rfl
    simp only [Act.put,sA,sZ,sS];refine' Bo.mx 6 78 ?_
    refine' Bo.mx 8 80 ?_
    refine' Bo.mx 9 81 ?_
    refine' Bo.mx 10 82 ?_
    refine' Bo.tk 2 (i:=11) (oi:=⟨some 83,_,_,_,_,_⟩) rfl (by rfl) ?a1V ?_
    case a1V=>intro w hSw;obtain ⟨s0,s1⟩:=hSw;go_simp<;>with_reducible rfl
    simp only [Act.put,sA,sZ,sS];refine' Bo.mx 12 84 ?_
    refine Bo.one (i:=7) (o:=⟨some 79,_,_,_,_,_⟩) rfl (by kernel_rfl) λKt hK=>?_
    go_simp
    go_at_call 177
    go_fit HD1.out
    rintro e wA ⟨v1,rfl,k1,k2,k3⟩;have hd2:=a0V 0 Gh hi2 x q wA (Bl MW.2.1 k3 (λk hk hc=>Qi.out.lh k hc hk)) Qi.out.nhi (Qi.out.xhi (Ac nZ) (Ac nZ)) PU.2 (MW.2.2.upd k3 ZY.1) ZY.2;have HD2:=AX hd2;have HA:=Aq k1 k2 k3;clear k1 k2 k3 hd2;refine hK.out _ _ (λ_ h=>?_) ?_
    ·exact h.upd HA.2.2 Qi.out.blo
    clear hK Kt;try simp only [Act.put,sA,sZ,sS]
    refine Bo.one (i:=13) (o:=⟨some 85,_,_,_,_,_⟩) rfl (by kernel_rfl) λKt hK=>?_
    go_simp
    go_at_call 177
    go_fit HD2.out
    rintro e wB ⟨v2,rfl,k1,k2,k3⟩;have hh0:=(k3.block kb (lt_of_block ((HA.2.2.block kb (lt_of_block MW.1) Qi.out.blo).trans MW.1)) Qi.out.bhi).trans ((HA.2.2.block kb (lt_of_block MW.1) Qi.out.blo).trans MW.1);have hr1:=Bl HA.1 k3 (λk hk hc=>Qi.out.lh k (by rw [<-HA.2.1];exact hk) hc);obtain ⟨A1,C1,hv1⟩:=BD hr1;obtain ⟨A2,C2,hv2⟩:=BD k1;subst hv1 hv2;have hh1:=heap_set hh0 1 (.slice A1 (without lo x).length C1);have hs1:wB.cell? ⟨kb,1,none⟩=some Eb:=by simp [World.cell?,hh0]
    have hf1:wB.frozen? ⟨kb,1,none⟩=false:=by simp [World.frozen?,hh0]
    have hs2:(wB.setCell ⟨kb,1,none⟩ (.slice A1 (without lo x).length C1)).cell? ⟨kb,2,none⟩=some Gh:=by simp [World.cell?,hh1]
    have hf2:(wB.setCell ⟨kb,1,none⟩ (.slice A1 (without lo x).length C1)).frozen? ⟨kb,2,none⟩=false:=by simp [World.frozen?,hh1]
    have hset:Bj [kb] wB ((wB.setCell ⟨kb,1,none⟩ (.slice A1 (without lo x).length C1)).setCell ⟨kb,2,none⟩ (.slice A2 (without hi2 x).length C2)):=((Bj.refl _ _).setCell (p:=⟨kb,1,none⟩) (.inl (by simp)) _).setCell (p:=⟨kb,2,none⟩) (.inl (by simp)) _;have hh2:=heap_set hh1 2 (.slice A2 (without hi2 x).length C2);have kD:=AB hh2 (Bl hr1 hset (λk hk hc=>Qi.out.blo (by simp at hc;subst hc;rw [<-HA.2.1];exact hk))) (Bl k1 hset (λk hk hc=>Qi.out.bhi (by simp at hc;subst hc;rw [<-k2];exact hk))) HA.2.1 k2 k3 hset;clear hh0 hh1 hh2 hr1 k1 k2 k3 hset;refine hK.out _ _ (λh=>(by cases h)) ?_
    clear hK Kt;try simp only [Act.put,sA,sZ,sS]
    refine' Bo.mx 14 86 ?_
    refine' Bo.mx 15 87 ?_
    refine Bo.one (i:=16) (o:=⟨none,_,_,_,_,_⟩) rfl (by kernel_rfl) λKt hK=>?_
    go_simp
    clear hs1 hf1;refine hK.out _ _ (λh=>(by cases h)) ?_
    clear hK Kt;try simp only [Act.put,sA,sZ,sS]
    refine' Bo.mx 17 88 ?_
    refine' Bo.mx 18 89 ?_
    refine Bo.one (i:=19) (o:=⟨none,_,_,_,_,_⟩) rfl (by kernel_rfl) λKt hK=>?_
    go_simp
    clear hs2 hf2;refine hK.out _ _ (λh=>(by cases h)) ?_
    clear hK Kt;try simp only [Act.put,sA,sZ,sS]
    refine Bo.done (by kernel_rfl) ?_
    go_wp2_with fail
    go_ret
    obtain ⟨g1,g2,g3,g4,g5,g6,g7⟩:=kD.out;have uh:=(((HW6.out.mono (G:=kb::(blk Eb++blk Gh)) (by simp)).trans (HA.2.2.mono (G:=kb::(blk Eb++blk Gh)) (λy hy=>.inl (by simp [hy])))).trans (g6.mono (G:=kb::(blk Eb++blk Gh)) (λy hy=>.inl (by simp [hy])))).trans (g7.mono (G:=kb::(blk Eb++blk Gh)) (λy hy=>.inl (by simp at hy;simp [hy])));have hin:∀y∈kb::(blk Eb++blk Gh),y∈Fk:=λy hy=>Qi.out.inF y (by simpa using hy)
    have ht:=Qi.out.hit (Ac nZ) (Ac nZ) _ _ _ uh g1 g2 g3 g4 g5;refine ⟨rfl,.slice (some ⟨g,0,none⟩) (R.length - 1) C,⟨(uh.block b (lt_of_block H3.1) (λhc=>HA0.2.1 (hin b hc))).trans H3.1,Bl H3.2.1 uh (λy hy hc=>HA0.2.2 y (by simpa [blk] using hy) (hin y hc)),ht,by simpa [blk] using HA0.1,HA0.2.1,λy hy=>HA0.2.2 y (by simpa [blk] using hy)⟩,rfl,?_⟩
    exact ((HU.out.mono (G:=b::(blk (.slice (some ⟨g,0,none⟩) n C)++Fk)) (by simp)).trans (EJ.out.mono (λy hy=>.inl (by simp at hy;rcases hy with rfl | rfl<;>simp [blk])))).trans (uh.mono (λy hy=>.inl (by simp [hin y hy])))
