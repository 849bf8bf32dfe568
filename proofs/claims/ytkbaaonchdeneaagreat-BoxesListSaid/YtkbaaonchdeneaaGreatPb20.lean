/- ivl.Drop. Printed by mkdropi.py. -/
import Derived.StillTailTactics
import Derived.Test.YtkbaaonchdeneaaGreatPb19
set_option maxHeartbeats 16000000
set_option maxRecDepth 100000
namespace Go.Proofs.YtkbaaonchdeneaaGreat
open Go.RowKit
def dM (w:World) (kb:Nat) (Ez Ip:Value):Prop:=w.cell? ⟨kb,1,none⟩=some Ez∧w.cell? ⟨kb,2,none⟩=some Ip
theorem dM.upd {w w':World} {kb:Nat} {Ez Ip:Value} (h:dM w kb Ez Ip) {F:List Nat} (hu:Bf F w w') (hk:kb∉F):dM w' kb Ez Ip:=
 ⟨(hu.cell (p:=⟨kb,1,none⟩) (World.block_lt_of_cell? w _ h.1) hk).trans h.1,(hu.cell (p:=⟨kb,2,none⟩) (World.block_lt_of_cell? w _ h.2) hk).trans h.2⟩
theorem qI {w:World} {b:Nat} {p vr:Value} {R:List Sp} {T:Kn} {Fk:List Nat} (h:Me w b p vr R T Fk) (x:Sp) (hx:x∉R) (hb:R.length≤1000) :
 Calls Tryz.prog 110 #[.pointer (some ⟨b,0,none⟩),KR x] w fun e w'=>e=.returned (.bool false)∧Bf [] w w':=by
 have hu:Bf [] w (w.alloc (.cells #[.int .i64 x.lo,.int .i64 x.hi,.int .u32 (x.id:Int)] 62)):=(Bf.refl _ _).alloc _;have hbx:=RS.new w x;have h0:=h.Bh hu;have HU:=AQ hu;have hix:=vI vr R x (w.alloc (.cells #[.int .i64 x.lo,.int .i64 x.hi,.int .u32 (x.id:Int)] 62)).drew (See.BX (Bg h0.row (Bf.refl [] _).drew (by simp))) (by omega);unfold KR at hix ⊢;have c0:=h0.cells.1;have c2:=h0.cells.2.2.1;have HX:=AQ hx;go_enter Tryz.func110,Tryz.ntmps110
 go_upto_region 1 with fail
 generalize (w.alloc (.cells #[.int .i64 x.lo,.int .i64 x.hi,.int .u32 (x.id:Int)] 62))=W0 at HU hbx hix c0 c2 ⊢;obtain ⟨d0,d1,d2⟩:=hbx;have lW:=AQ hix;clear hix h h0 hu hx hb;go_upto_region 3 with fail
 go_still_tail 5,(by kernel_rfl)
 change wpList _ _ _ _ _ W0.drew
 go_wp2_with fail
 (with_reducible refine lW.out.mono ?_);rintro e w1 ⟨u1,(⟨-,rfl⟩ | ⟨k,hk,-⟩)⟩
 ·have FY:=AQ u1;clear u1;go_wp2_with fail
  go_ret
  exact ⟨rfl,(HU.out.trans (Bf.refl [] _).drew).trans FY.out⟩
 ·exact absurd (List.mem_of_getElem? hk) HX.out
def qJ (w:World) (b:Nat) (p vr:Value) (R:List Sp) (T:Kn) (Fk:List Nat) (x:Sp) (e:Ending) (w':World):Prop:=
 e=.returned (.bool true)∧∃vn,Me w' b p vn (without R x) (T.drop x) Fk∧blk vn=blk vr∧Bf (b::(blk vr++Fk)) w w'
theorem jy {w:World} {b:Nat} {p vr:Value} {R:List Sp} {T:Kn} {Fk:List Nat} (h:Me w b p vr R T Fk) (x:Sp) (hx:x∈R) (hnd:R.Nodup) (ho:T.ok R) (hb:R.length≤1000) :
 Calls Tryz.prog 110 #[.pointer (some ⟨b,0,none⟩),KR x] w (qJ w b p vr R T Fk x):=by
 have hu:Bf [] w (w.alloc (.cells #[.int .i64 x.lo,.int .i64 x.hi,.int .u32 (x.id:Int)] 62)):=(Bf.refl _ _).alloc _;have hbx:=RS.new w x;have h0:=h.Bh hu;have HU:=AQ hu;obtain ⟨pq,rfl⟩:=h.tree.ptr;obtain ⟨k,hk⟩:=List.mem_iff_getElem?.1 hx;obtain ⟨n,hn⟩:=AO R.length;have hkn:k<n:=by rw [←hn];exact (AV hk).1
 obtain ⟨g,C,hvr⟩:∃g C,vr=.slice (some ⟨g,0,none⟩) n C:=by
  rcases h.row.2 with ⟨-,h2⟩ | ⟨g,cap,cur,h2,-⟩
  ·omega
  ·exact ⟨g,cap,by rw [h2,hn]⟩
 subst hvr;have hix:=vI (.slice (some ⟨g,0,none⟩) n C) R x (w.alloc (.cells #[.int .i64 x.lo,.int .i64 x.hi,.int .u32 (x.id:Int)] 62)).drew (See.BX (Bg h0.row (Bf.refl [] _).drew (by simp))) (by omega);unfold KR at hix ⊢;have c0:=h0.cells.1;have c2:=h0.cells.2.2.1
 have hqf:∀y,y=b∨y∈blk (.slice (some ⟨g,0,none⟩) n C)∨y∈Fk→y<w.heap.size:=fun y hy=>by
  rcases hy with rfl | hy | hy
  ·exact lt_of_block h.head
  ·exact BK h.row y hy
  ·exact h.tree.lt y hy
 have HXF:=AQ hb;have HX:=Au hx hnd ho hk hn hkn;have OW:=AQ hqf;have HH:=AQ h0;have HA0:=Aj h.bro h.btr h.rtr;have k0:(0:Int)≤(k:Int):=AU _;have k1:(k:Int)<(n:Int):=by omega
 have n1:(n:Int)≤1000:=by omega
 go_enter Tryz.func110,Tryz.ntmps110
 go_upto_region 1 with fail
 generalize (w.alloc (.cells #[.int .i64 x.lo,.int .i64 x.hi,.int .u32 (x.id:Int)] 62))=W0 at HU hbx hix c0 c2 HH ⊢;obtain ⟨q,hq⟩:=AO w.heap.size;rw [hq] at hbx OW ⊢;have EH:=AQ hbx;obtain ⟨d0,d1,d2⟩:=hbx;have lW:=AQ hix;clear hix h h0 hu hx hb hnd ho hk hn hkn hqf hq;go_upto_region 3 with fail
 go_still_tail 5,(by kernel_rfl)
 change wpList _ _ _ _ _ W0.drew
 go_wp2_with fail
 (with_reducible refine lW.out.mono ?_);rintro e w1 ⟨u1,(⟨hc,-⟩ | ⟨k',hk',rfl⟩)⟩
 ·exact absurd HX.1 hc
 have hkk:k'=k:=by
  obtain ⟨g1,g2⟩:=AV hk';obtain ⟨g3,g4⟩:=AV HX.2.2.2.1;rcases Nat.lt_trichotomy k' k with h1 | h1 | h1
  ·exact absurd (g2.trans g4.symm) (List.pairwise_iff_getElem.1 HX.2.1 k' k g1 g3 h1)
  ·exact h1
  ·exact absurd (g4.trans g2.symm) (List.pairwise_iff_getElem.1 HX.2.1 k k' g3 g1 h1)
 subst hkk;have hu1:Bf [] W0 w1:=(Bf.refl [] W0).drew.trans u1;have h1:=HH.out.Bh hu1;have a6n:=EH.out.upd hu1 (by simp);have hdel:=a0P 0 g n C R k' w1 h1.row HX.2.2.2.2.1 HX.2.2.2.2.2 (by omega);have b0H:=AQ hdel;have H1:=Aj h1 a6n hu1;have c21:=h1.cells.2.2.1;clear u1 hk' h1 a6n hdel d0 d1 d2 c0 c2 hu1;go_wp2_with fail
 (with_reducible refine b0H.out.mono ?_);rintro e w2 ⟨rfl,r2,u2⟩;have a6o:R.eraseIdx k'=without R x:=OM HX.2.1 HX.2.2.2.1;rw [a6o] at r2;have hgb:g≠b:=fun e=>HA0.1 (by simp [blk,e])
 have hbg:b∉[g]:=by simp;exact Ne.symm hgb
 have hh2:=(u2.block b (lt_of_block H1.1.head) hbg).trans H1.1.head;have c22:w2.cell? ⟨b,2,none⟩=some (.slice (some ⟨g,0,none⟩) n C):=by simp [World.cell?,hh2]
 have f22:w2.frozen? ⟨b,2,none⟩=false:=by simp [World.frozen?,hh2]
 have hh3:=heap_set hh2 2 (.slice (some ⟨g,0,none⟩) (R.length - 1) C);have us:Bf [b] w2 (w2.setCell ⟨b,2,none⟩ (.slice (some ⟨g,0,none⟩) (R.length - 1) C)):=(Bf.refl _ _).setCell (p:=⟨b,2,none⟩) (.inl (by simp)) _;have r3:=Bg r2 us (by simpa [blk] using hgb);have t3:=(H1.1.tree.upd u2 (fun y hy hc=>by simp at hc;subst hc;exact HA0.2.2 y (by simp [blk]) hy)).upd us (fun y hy hc=>by simp at hc;subst hc;exact HA0.2.1 hy);have hqg:q∉[g]:=by simp;intro e;have:=OW.out g (.inr (.inl (by simp [blk])));omega
 have RZ:q∉[b]:=by simp;intro e;have:=OW.out b (.inl rfl);omega
 have b3:=(H1.2.1.upd u2 hqg).upd us RZ;have HE3:=Aj (H1.2.2.mono (G:=[g,b]) (by simp)) (u2.mono (G:=[g,b]) (by simp)) (us.mono (G:=[g,b]) (by simp));clear a6o u2 r2 c21 hgb hbg hh2 hqg RZ us;go_upto_region 7 with fail
 clear c22 f22;have Gj:=AQ ((HE3.1.trans HE3.2.1).trans HE3.2.2);generalize (w2.setCell ⟨b,2,none⟩ (.slice (some ⟨g,0,none⟩) (R.length - 1) C))=W3 at hh3 r3 t3 b3 Gj ⊢;have c31:W3.cell? ⟨b,1,none⟩=some (.pointer pq):=by simp [World.cell?,hh3]
 have HHO:=AQ (Rl.start t3 HX.2.2.1 HX.1 HX.2.1 HXF.out);have H3:=Aj hh3 r3 b3;clear hh3 r3 t3 b3;go_wp2_with fail
 clear c31;go_loopg [6] T.depth (fun m s6 wr=>∃(T':Kn) (F':List Nat) (S':List Sp),m=T'.depth∧Rl W3 x T (.pointer pq) Fk T' s6 F' S'∧Bf [] W3 wr)
 case atStart=>exact ⟨T,Fk,R,rfl,HHO.out,Bf.refl _ _⟩
 case round=>
  obtain ⟨T',F',S',hmd,hho,hup⟩:=hrel;obtain ⟨m',lo,hi2,l,r,rfl⟩:=hho.node;obtain ⟨kb,Ez,Ip,pl,pr,Fl,Fr,rfl,hon⟩:=hho.open;have vP:=mG m' lo hi2 l r;have hhk:=(hup.block kb (lt_of_block hon.head) (by simp)).trans hon.head;have kc0:wr.cell? ⟨kb,0,none⟩=some (.int .i64 m'):=by simp [World.cell?,hhk]
  obtain ⟨e0,e1,e2⟩:=H3.2.2.upd hup (by simp);have UR:=AQ hon;have Rk:=Ai hup hhk;have HMD:=Ai hmd vP;clear hho hon hhk hup hmd vP;by_cases c1:x.hi<m'
  ·have hl:=UR.out.left c1;obtain ⟨ql,rfl⟩:=hl.here.ptr;have kc3:wr.cell? ⟨kb,3,none⟩=some (.pointer ql):=by simp [World.cell?,Rk.2]
   have q1:decide (x.hi<m')=true:=decide_eq_true c1;have HL:=AQ hl;clear hl c1;go_wp2_with fail
   go_quiet (fail)
   go_wp2_with fail
   go_quiet (fail)
   go_wp2_with fail
   go_roundg l.depth
   case measure=>have h1:=HMD.1;have h2:=HMD.2.1;omega
   case rel=>exact ⟨l,Fl,_,rfl,HL.out,Rk.1.drewN _⟩
  ·by_cases c2:m'<x.lo
   ·have hl:=UR.out.right c1 c2;obtain ⟨ql,rfl⟩:=hl.here.ptr;have kc4:wr.cell? ⟨kb,4,none⟩=some (.pointer ql):=by simp [World.cell?,Rk.2]
    have q1:decide (x.hi<m')=false:=decide_eq_false c1;have q2:decide (m'<x.lo)=true:=decide_eq_true c2;have HL:=AQ hl;clear hl c1 c2;go_wp2_with fail
    go_quiet (fail)
    go_wp2_with fail
    go_quiet (fail)
    go_wp2_with fail
    go_roundg r.depth
    case measure=>have h1:=HMD.1;have h2:=HMD.2.2.1;omega
    case rel=>exact ⟨r,Fr,_,rfl,HL.out,Rk.1.drewN _⟩
   ·have q1:decide (x.hi<m')=false:=decide_eq_false c1;have q2:decide (m'<x.lo)=false:=decide_eq_false c2;have tY:=Ai c1 c2;clear c1 c2;go_wp2_with fail
    go_quiet (fail)
    go_wp2_with fail
    go_upto_region 13 with fail
    generalize hwq:wr.drewN _=Wq;have huq:Bf [] wr Wq:=hwq ▸ (Bf.refl [] wr).drewN _;have hud:=huq.drew;have hh6:=(hud.block kb (lt_of_block Rk.2) (by simp)).trans Rk.2;have hw6:=Rk.1.trans hud;have HKD:=AQ (show dM Wq.drew kb Ez Ip from ⟨by simp [World.cell?,hh6],by simp [World.cell?,hh6]⟩);have hq6:=H3.2.2.upd hw6 (by simp);have Rn:∀y∈Fk,y≠q:=fun y hy hc=>by have:=OW.out y (.inr (.inr hy));omega
    have iZ:=Ai (fun hc=>Rn q (UR.out.inF q (.inr (.inl hc))) rfl:q∉blk Ez) (fun hc=>Rn q (UR.out.inF q (.inr (.inr hc))) rfl:q∉blk Ip);have Om:=Ai (show lo.length<1000000 by have:=UR.out.flo;omega) (show hi2.length<1000000 by have:=UR.out.fhi;omega);have OJ:=Aj hh6 (Bg UR.out.rhi hw6 (by simp)) hq6;have HD1:=AQ (a1V 0 Ez lo x q Wq.drew (Bg UR.out.rlo hw6 (by simp)) UR.out.nlo (UR.out.xlo (Ac tY) (Ac tY)) Om.1 hq6 iZ.1);have HW6:=AQ hw6;clear hh6 hw6 hq6 Rn hud huq hwq e0 e1 e2 kc0 q1 q2;refine Bj.start [13,14,15,16,17,18,19] (fun w'=>dM w' kb Ez Ip) (by kernel_rfl) ?_ fun hS=>?_
    ·exact HKD.out
    refine' Bj.mw 0 (oi:=⟨some 72,_,_,_,_,_⟩) ?_
    simp only [Act.put,sA,sZ,sS];refine' Bj.mw 1 (oi:=⟨some 73,_,_,_,_,_⟩) ?_
    simp only [Act.put,sA,sZ,sS];refine' Bj.mw 2 (oi:=⟨some 74,_,_,_,_,_⟩) ?_
    simp only [Act.put,sA,sZ,sS];refine' Bj.mw 3 (oi:=⟨some 75,_,_,_,_,_⟩) ?_
    simp only [Act.put,sA,sZ,sS];refine' Bj.mw 4 (oi:=⟨some 76,_,_,_,_,_⟩) ?_
    simp only [Act.put,sA,sZ,sS];refine' Bj.tk 2 (i:=5) (oi:=⟨some 77,_,_,_,_,_⟩) rfl (by rfl) ?a6p ?_
    case a6p=>intro w hSw;obtain ⟨s0,s1⟩:=hSw;go_simp<;>with_reducible rfl
    simp only [Act.put,sA,sZ,sS];refine' Bj.mw 6 (oi:=⟨some 78,_,_,_,_,_⟩) ?_
    simp only [Act.put,sA,sZ,sS];refine' Bj.mw 8 (oi:=⟨some 80,_,_,_,_,_⟩) ?_
    simp only [Act.put,sA,sZ,sS];refine' Bj.mw 9 (oi:=⟨some 81,_,_,_,_,_⟩) ?_
    simp only [Act.put,sA,sZ,sS];refine' Bj.mw 10 (oi:=⟨some 82,_,_,_,_,_⟩) ?_
    simp only [Act.put,sA,sZ,sS];refine' Bj.tk 2 (i:=11) (oi:=⟨some 83,_,_,_,_,_⟩) rfl (by rfl) ?a4e ?_
    case a4e=>intro w hSw;obtain ⟨s0,s1⟩:=hSw;go_simp<;>with_reducible rfl
    simp only [Act.put,sA,sZ,sS];refine' Bj.mw 12 (oi:=⟨some 84,_,_,_,_,_⟩) ?_
    simp only [Act.put,sA,sZ,sS];refine Bj.one (i:=7) (o:=⟨some 79,_,_,_,_,_⟩) rfl (by kernel_rfl) fun Kt hK=>?_
    go_simp
    go_at_call 177
    (with_reducible refine HD1.out.mono ?_);rintro e wA ⟨v1,rfl,k1,k2,k3⟩;have hd2:=a1V 0 Ip hi2 x q wA (Bg OJ.2.1 k3 (fun k hk hc=>UR.out.lh k hc hk)) UR.out.nhi (UR.out.xhi (Ac tY) (Ac tY)) Om.2 (OJ.2.2.upd k3 iZ.1) iZ.2;have HD2:=AQ hd2;have HA:=Aj k1 k2 k3;clear k1 k2 k3 hd2;refine hK.out _ _ (fun _ h=>?_) ?_
    ·exact h.upd HA.2.2 UR.out.blo
    clear hK Kt;try simp only [Act.put,sA,sZ,sS]
    refine Bj.one (i:=13) (o:=⟨some 85,_,_,_,_,_⟩) rfl (by kernel_rfl) fun Kt hK=>?_
    go_simp
    go_at_call 177
    (with_reducible refine HD2.out.mono ?_);rintro e wB ⟨v2,rfl,k1,k2,k3⟩;have hh0:=(k3.block kb (lt_of_block ((HA.2.2.block kb (lt_of_block OJ.1) UR.out.blo).trans OJ.1)) UR.out.bhi).trans ((HA.2.2.block kb (lt_of_block OJ.1) UR.out.blo).trans OJ.1);have hr1:=Bg HA.1 k3 (fun k hk hc=>UR.out.lh k (by rw [←HA.2.1];exact hk) hc);obtain ⟨A1,C1,hv1⟩:=Bv hr1;obtain ⟨A2,C2,hv2⟩:=Bv k1;subst hv1 hv2;have hh1:=heap_set hh0 1 (.slice A1 (without lo x).length C1);have hs1:wB.cell? ⟨kb,1,none⟩=some Ez:=by simp [World.cell?,hh0]
    have hf1:wB.frozen? ⟨kb,1,none⟩=false:=by simp [World.frozen?,hh0]
    have hs2:(wB.setCell ⟨kb,1,none⟩ (.slice A1 (without lo x).length C1)).cell? ⟨kb,2,none⟩=some Ip:=by simp [World.cell?,hh1]
    have hf2:(wB.setCell ⟨kb,1,none⟩ (.slice A1 (without lo x).length C1)).frozen? ⟨kb,2,none⟩=false:=by simp [World.frozen?,hh1]
    have hset:Bf [kb] wB ((wB.setCell ⟨kb,1,none⟩ (.slice A1 (without lo x).length C1)).setCell ⟨kb,2,none⟩ (.slice A2 (without hi2 x).length C2)):=((Bf.refl _ _).setCell (p:=⟨kb,1,none⟩) (.inl (by simp)) _).setCell (p:=⟨kb,2,none⟩) (.inl (by simp)) _;have hh2:=heap_set hh1 2 (.slice A2 (without hi2 x).length C2);have qC:=Aw hh2 (Bg hr1 hset (fun k hk hc=>UR.out.blo (by simp at hc;subst hc;rw [←HA.2.1];exact hk))) (Bg k1 hset (fun k hk hc=>UR.out.bhi (by simp at hc;subst hc;rw [←k2];exact hk))) HA.2.1 k2 k3 hset;clear hh0 hh1 hh2 hr1 k1 k2 k3 hset;refine hK.out _ _ (fun h=>(by cases h)) ?_
    clear hK Kt;try simp only [Act.put,sA,sZ,sS]
    refine' Bj.mw 14 (oi:=⟨some 86,_,_,_,_,_⟩) ?_
    simp only [Act.put,sA,sZ,sS];refine' Bj.mw 15 (oi:=⟨some 87,_,_,_,_,_⟩) ?_
    simp only [Act.put,sA,sZ,sS];refine Bj.one (i:=16) (o:=⟨none,_,_,_,_,_⟩) rfl (by kernel_rfl) fun Kt hK=>?_
    go_simp
    clear hs1 hf1;refine hK.out _ _ (fun h=>(by cases h)) ?_
    clear hK Kt;try simp only [Act.put,sA,sZ,sS]
    refine' Bj.mw 17 (oi:=⟨some 88,_,_,_,_,_⟩) ?_
    simp only [Act.put,sA,sZ,sS];refine' Bj.mw 18 (oi:=⟨some 89,_,_,_,_,_⟩) ?_
    simp only [Act.put,sA,sZ,sS];refine Bj.one (i:=19) (o:=⟨none,_,_,_,_,_⟩) rfl (by kernel_rfl) fun Kt hK=>?_
    go_simp
    clear hs2 hf2;refine hK.out _ _ (fun h=>(by cases h)) ?_
    clear hK Kt;try simp only [Act.put,sA,sZ,sS]
    refine Bj.done (by kernel_rfl) ?_
    go_wp2_with fail
    go_ret
    obtain ⟨g1,g2,g3,g4,g5,g6,g7⟩:=qC.out;have uh:=(((HW6.out.mono (G:=kb::(blk Ez++blk Ip)) (by simp)).trans (HA.2.2.mono (G:=kb::(blk Ez++blk Ip)) (fun y hy=>.inl (by simp [hy])))).trans (g6.mono (G:=kb::(blk Ez++blk Ip)) (fun y hy=>.inl (by simp [hy])))).trans (g7.mono (G:=kb::(blk Ez++blk Ip)) (fun y hy=>.inl (by simp at hy;simp [hy])));have hin:∀y∈kb::(blk Ez++blk Ip),y∈Fk:=fun y hy=>UR.out.inF y (by simpa using hy)
    have ht:=UR.out.hit (Ac tY) (Ac tY) _ _ _ uh g1 g2 g3 g4 g5;refine ⟨rfl,.slice (some ⟨g,0,none⟩) (R.length - 1) C,⟨(uh.block b (lt_of_block H3.1) (fun hc=>HA0.2.1 (hin b hc))).trans H3.1,Bg H3.2.1 uh (fun y hy hc=>HA0.2.2 y (by simpa [blk] using hy) (hin y hc)),ht,by simpa [blk] using HA0.1,HA0.2.1,fun y hy=>HA0.2.2 y (by simpa [blk] using hy)⟩,rfl,?_⟩
    exact ((HU.out.mono (G:=b::(blk (.slice (some ⟨g,0,none⟩) n C)++Fk)) (by simp)).trans (Gj.out.mono (fun y hy=>.inl (by simp at hy;rcases hy with rfl | rfl<;>simp [blk])))).trans (uh.mono (fun y hy=>.inl (by simp [hin y hy])))
