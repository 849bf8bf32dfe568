/- Half.fill. Printed by mkhg.py. -/
import Derived.Test.YtkbaaonchdeneaaGreatPb24
set_option maxHeartbeats 1000000
set_option maxRecDepth 100000
namespace Go.Proofs.YtkbaaonchdeneaaGreat.EI
open Go.RowKit
theorem BU.place {w w1:World} {h cb mb:Nat} {tv av Ee:Value} {ps:List TV} {Fc:List Nat} {Fs:List (List Nat)} {S:HS Bx} (H:BU w h cb mb tv av Ee ps Fc Fs S) {wb:World} (hwb:Bf [] w wb) {A:Option Addr} {C:Nat}
 (HP:DY wb w1 0 102 2 tv ps.length (KT.all ps) 1 [.pointer none,.map none] A C) :
 BU (w1.setCell ⟨h,3,none⟩ (.slice A (ps.length+1) C)) h cb mb (.slice A (ps.length+1) C) av Ee (ps++[(none,none)]) Fc (Fs++[[]]) { S with tr:=S.tr++[none] }∧
  Bf (h::blk tv) w (w1.setCell ⟨h,3,none⟩ (.slice A (ps.length+1) C)):=by
 have hup:Bf (blk tv) w w1:=(hwb.mono (by simp)).trans HP.upd;have hht:h∉blk tv:=fun hc=>H.Gu (i:=0) (j:=2) rfl rfl (by omega) h (by simp) hc
 have hh1:=(hup.block h (lt_of_block H.head) hht).trans H.head
 have hbt:∀x∈blk (.slice A (ps.length+1) C),x∈blk tv∨w.heap.size≤x:=by
  intro x hx;rcases HP.at with h' | h'
  ·rw [h'] at hx;exact .inl hx
  ·rw [h'] at hx;have:=hwb.size;simp at hx;right;omega
 have hu:Bf (h::blk tv) w (w1.setCell ⟨h,3,none⟩ (.slice A (ps.length+1) C)):=
  (hup.mono (G:=h::blk tv) fun x hx=>.inl (by simp [hx])).setCell (p:=⟨h,3,none⟩) (.inl (by simp)) _
 refine ⟨H.trees hu ?_ ?_ hbt (by rw [AY,AY,H.OX];rfl) (by rw [AY,AY,H.OZ];rfl) ?_ ?_ ?_ ?_,hu⟩
 ·have:=heap_setCell_same w1 h 3 _ _ (.slice A (ps.length+1) C) hh1;simpa using this
 ·unfold UZ Kind.row;rw [AY,Kind.Ci];refine Bg HP.own ((Bf.refl [h] w1).setCell (p:=⟨h,3,none⟩) (.inl (by simp)) _) fun x hx=>?_
  simp;rintro rfl;rcases hbt x hx with g | g
  ·exact hht g
  ·have:=lt_of_block H.head;omega
 ·intro i hi;rcases Nat.lt_or_ge i S.tr.length with g | g
  ·rw [List.getElem?_append_left g] at hi;rw [List.getElem?_append_left (by rw [H.OZ];exact g)];exact H.no i hi
  ·rw [List.getElem?_append_right g] at hi;rw [List.getElem?_append_right (by rw [H.OZ];exact g),H.OZ];rcases Nat.eq_zero_or_pos (i - S.tr.length) with g0 | g0
   ·rw [g0];rfl
   ·rw [List.getElem?_eq_none (by simp;omega)] at hi;cases hi
 ·intro i l hi
  have g:i<S.tr.length:=by
   refine Nat.lt_of_not_le fun g=>?_
   rw [List.getElem?_append_right g] at hi;rcases Nat.eq_zero_or_pos (i - S.tr.length) with g0 | g0
   ·rw [g0] at hi;cases hi
   ·rw [List.getElem?_eq_none (by simp;omega)] at hi;cases hi
  rw [List.getElem?_append_left g] at hi;exact ⟨hi,List.getElem?_append_left (by rw [H.OX];exact g),List.getElem?_append_left (by rw [H.OZ];exact g)⟩
 ·have:=a0Y H.apart;simpa [parts] using this
 ·intro F hF x hx;rcases List.mem_append.1 hF with hF | hF
  ·exact H.ltF F hF x hx
  ·simp at hF;subst hF;simp at hx
theorem BU.placed {w w1:World} {h cb mb:Nat} {tv av Ee:Value} {ps:List TV} {Fc:List Nat} {Fs:List (List Nat)} {S:HS Bx} (H:BU w h cb mb tv av Ee ps Fc Fs S) {wb:World} (hwb:Bf [] w wb) {A:Option Addr} {C:Nat}
 (HP:DY wb w1 0 102 2 tv ps.length (KT.all ps) 1 [.pointer none,.map none] A C) :
 CJ w (w1.setCell ⟨h,3,none⟩ (.slice A (ps.length+1) C)) (.pointer (some ⟨h,0,none⟩)) (parts h Fc tv av Ee mb Fs).flatten { S with tr:=S.tr++[none] }:=by
 obtain ⟨g1,g2⟩:=H.place hwb HP;refine ⟨_,⟨h,cb,mb,_,av,Ee,_,Fc,_,rfl,g1,rfl⟩,g2.mono fun x hx=>.inl ?_,fun x hx=>?_⟩
 ·rcases List.mem_cons.1 hx with rfl | hx
  ·exact Bq (i:=0) (P:=[x]) rfl (by simp)
  ·exact Bq (i:=2) rfl hx
 ·have e:(parts h Fc (.slice A (ps.length+1) C) av Ee mb (Fs++[[]])).flatten=((parts h Fc tv av Ee mb Fs).set 2 (blk (.slice A (ps.length+1) C))).flatten:=by simp [parts]
  rw [e] at hx;rcases EJ hx with hx | hx
  ·exact .inl hx
  ·rcases HP.at with h' | h'
   ·rw [h'] at hx;exact .inl (Bq (i:=2) rfl hx)
   ·rw [h'] at hx;have:=hwb.size;simp at hx;right;omega
theorem Xt (tr:List (Option (Nat×List Bx))) (n:Nat):tr++List.replicate n none++[none]=tr++List.replicate (n+1) none:=by
 rw [List.append_assoc,List.replicate_succ']
theorem a1X (hv:Value) (F:List Nat) (S:HS Bx) (t:Nat) (v:Value) (l:List (Bx×Nat)) (w:World) (H:Cc w hv F S) (hs:UW.Ints w v l) (hd:0<l.length→∀x∈blk v,x∉F) (ht:t<1000) (htr:S.tr.length<1000) (hn:∀y∈l,y.2<S.al.length)
 (hlv:S.lv.length=S.al.length) (hl:l.length<100000) (hgood:Good (live S.al l)) (hl1:(live S.al l).length≤1000) :
 Calls Tryz.prog 129 #[hv,.int .i64 t,v] w fun e w'=>e=.returned (.tuple #[])∧CJ w w' hv F (JC S t l):=by
 obtain ⟨A,C,rfl⟩:=hs.form;have uf:=H.lt;obtain ⟨h,cb,mb,tv,av,Ee,ps,Fc,Fs,rfl,H,rfl⟩:=H;obtain ⟨i0,hi0,hz0,hz1,hz2⟩:=info_parts YV;obtain ⟨i1,hi1,hy0,hy1,hy2⟩:=info_parts QG;obtain ⟨W,hW,hu0,hq0⟩:=BJ w #[.pointer none,.map none] 102;have Ro:=AQ hW;have ET:=AQ hu0;have hqn:w.heap.size∉(parts h Fc tv av Ee mb Fs).flatten:=fun hc=>Nat.lt_irrefl _ (uf _ hc)
 have HH:=AQ (H.upd hu0 (by intro P hP x hx;simp));have HS':=AQ (hs.Bh hu0);have HD:=AQ hd;have HN:=AQ hn;have HLV:=AQ hlv;have HGD:=Ai hgood hl1;have HQ0:=AQ hq0;clear H hs hd hn hlv hW hu0 uf hgood hl1 hq0;obtain ⟨F,hF⟩:=AO ((parts h Fc tv av Ee mb Fs).flatten);have hd':=HD.out;rw [hF] at hd' hqn;clear HD;have HD:=AQ hd';have V5:=AQ hF;have iZ:=AQ hqn;clear hF hd' hqn;go_enter Tryz.func129,Tryz.ntmps129
 go_upto_block 0 with fail
 rw [←Ro.out];clear Ro;obtain ⟨qn,hqe⟩:∃q,w.heap.size=q:=⟨_,rfl⟩;rw [hqe] at HQ0 iZ ⊢;have HQE:=AQ hqe;clear hqe;have hfin:∀(w':World) (S':HS Bx),CJ W w' (.pointer (some ⟨h,0,none⟩)) F S'→CJ w w' (.pointer (some ⟨h,0,none⟩)) F S':=fun w' S' hst=>CJ.next (ET.out.mono (by simp)) (fun x hx=>.inl hx) hst
 have Gv:=AQ hfin;clear hfin;go_cut [] (fun wc=>CJ W wc (.pointer (some ⟨h,0,none⟩)) F { S with tr:=pad S.tr (t+1) })
 case first=>
  go_wp2_with fail
  go_loopg [] (t+1 - S.tr.length) (fun m wr=>∃n,m+n=t+1 - S.tr.length∧CJ W wr (.pointer (some ⟨h,0,none⟩)) F { S with tr:=S.tr++List.replicate n none })
  case atStart=>exact ⟨0,rfl,by rw [←V5.out];simpa using CJ.refl ⟨h,cb,mb,tv,av,Ee,ps,Fc,Fs,rfl,HH.out,rfl⟩⟩
  case round=>
   obtain ⟨n,hn,F1,⟨h1,cb1,dQ,tv1,av1,lv1,ps1,ZK,qO,he,H1,rfl⟩,hu1,hF1⟩:=hrel
   cases he
   have hlen:ps1.length=S.tr.length+n:=by rw [H1.OX];simp
   obtain ⟨A1,C1,qQ⟩:∃A C,tv1=.slice A ps1.length C:=Bv H1.LV;subst qQ;obtain ⟨_,_,_,hc3,_,_,_,hfr⟩:=H1.cell;have hf3:=hfr 3;have hh1:h<wr.heap.size:=lt_of_block H1.head;have hht:h∉blk (.slice A1 ps1.length C1):=fun hc=>H1.Gu (i:=0) (j:=2) rfl rfl (by omega) h (by simp) hc
   obtain ⟨np,hnp⟩:=AO ps1.length;rw [hnp] at hlen hc3 hht;have hnb:np<3000:=by omega
   have HLEN:=AQ hlen;have HNP:=AQ hnp;have VO:=AQ hn;have Yo:=AQ H1;have FY:=AQ hu1;have iw:=AQ hF1;clear hlen hnp hn H1 hu1 hF1 hfr
   have hqr:qn∉(parts h ZK (.slice A1 ps1.length C1) av1 lv1 dQ qO).flatten:=fun hc=>by
    rcases iw.out qn hc with g | g
    ·exact iZ.out g
    ·have:=HQ0.out.lt;omega
   obtain ⟨z0,z1⟩:=(HQ0.out.upd FY.out iZ.out).cells2;have Sl:qn<wr.heap.size:=(HQ0.out.upd FY.out iZ.out).lt;by_cases hlt:np≤t
   ·have hqt:qn∉blk (.slice A1 np C1):=fun hc=>hqr (by rw [HNP.out];exact Bq (i:=2) rfl hc)
    have hrow0:wr.ownsRow 0 102 2 (.slice A1 np C1) np (KT.all ps1):=by have:=Yo.out.LV;unfold UZ Kind.row at this;rw [HNP.out] at this;exact this
    have HRW:=AQ hrow0;clear hrow0;go_upto_region 2 with fail
    clear hqr;have d3:∀o,(wr.alloc o).cell? ⟨h,3,none⟩=some (.slice A1 np C1):=fun o=>by rw [World.cell?_alloc_past _ _ _ hh1];exact hc3
    have d0:∀o,(wr.alloc o).cell? ⟨qn,0,none⟩=some (.pointer none):=fun o=>by rw [World.cell?_alloc_past _ _ _ Sl];exact z0
    have d1:∀o,(wr.alloc o).cell? ⟨qn,1,none⟩=some (.map none):=fun o=>by rw [World.cell?_alloc_past _ _ _ Sl];exact z1
    have df:∀o,(wr.alloc o).frozen? ⟨h,3,none⟩=false:=fun o=>by rw [World.frozen?_alloc_past _ _ _ hh1];exact hf3
    have e3:∀o,h<(wr.alloc o).heap.size:=fun o=>by simp;omega
    have e4:∀o,qn<(wr.alloc o).heap.size:=fun o=>by simp;omega
    refine Bj.start [7,8,9,10] (fun w'=>Bf [] wr w') (by kernel_rfl) ?_ fun hS=>?_
    ·exact (Bf.refl [] wr).drew
    refine' Bj.mw 0 (oi:=⟨some 17,_,_,_,_,_⟩) ?_
    simp only [Act.put,sA,sZ,sS];refine' Bj.mw 1 (oi:=⟨some 18,_,_,_,_,_⟩) ?_
    simp only [Act.put,sA,sZ,sS];refine' Bj.mw 2 (oi:=⟨some 19,_,_,_,_,_⟩) ?_
    simp only [Act.put,sA,sZ,sS];refine' Bj.mw 3 (oi:=⟨some 20,_,_,_,_,_⟩) ?_
    simp only [Act.put,sA,sZ,sS];refine' Bj.tk 2 (i:=4) (oi:=⟨some 21,_,_,_,_,_⟩) rfl (by rfl) ?b0U ?_
    case b0U=>intro w hSw;have c3:=(hSw.cell hh1 (by simp)).trans hc3;have c0:=(hSw.cell Sl (by simp)).trans z0;have c1:=(hSw.cell Sl (by simp)).trans z1;go_simp<;>with_reducible rfl
    simp only [Act.put,sA,sZ,sS];refine' Bj.tk 2 (i:=5) (oi:=⟨some 22,_,_,_,_,_⟩) rfl (by rfl) ?b0V ?_
    case b0V=>intro w hSw;have c3:=(hSw.cell hh1 (by simp)).trans hc3;have c0:=(hSw.cell Sl (by simp)).trans z0;have c1:=(hSw.cell Sl (by simp)).trans z1;go_simp<;>with_reducible rfl
    simp only [Act.put,sA,sZ,sS];refine Bj.one (i:=6) (o:=⟨some 23,_,_,_,_,_⟩) rfl (by kernel_rfl) fun K hK=>?_
    go_simp
    refine hK.out _ _ (fun _ h=>?_) ?_
    ·exact h.alloc _
    clear hK K;try simp only [Act.put,sA,sZ,sS]
    refine Bj.one (i:=7) (o:=⟨some 24,_,_,_,_,_⟩) rfl (by kernel_rfl) fun K hK=>?_
    rw [if_pos (by simp [Region.wanted])];refine WB _ _ _ 108 (by rfl) 0 102 i0 (.agg #[.pointer none,.map none]) 2 16 Tryz.underlying108 hi0 hz0 hz1 hz2 rfl (by decide) (.slice A1 np C1) np (KT.all ps1) (by rfl) (HRW.out.alloc _) _ 1 [.pointer none,.map none] (by rfl) (BM wr.drew #[.pointer none,.map none] 102 2 1 rfl (by decide)) (by simp [Value.oneCell']) (by unfold maxLen;omega) (by omega) (Nat.zero_le _) ?_
    intro A2 C2 w1 HP;have hst1:=((HP.upd).cell (p:=⟨h,3,none⟩) (e3 _) hht).trans (d3 _);have hst2:=((HP.upd).frozen (p:=⟨h,3,none⟩) (e3 _) hht).trans (df _);refine hK.out _ _ (fun h=>(by cases h)) ?_
    clear hK K;try simp only [Act.put,sA,sZ,sS]
    refine' Bj.mw 8 (oi:=⟨some 25,_,_,_,_,_⟩) ?_
    simp only [Act.put,sA,sZ,sS];refine' Bj.mw 9 (oi:=⟨some 26,_,_,_,_,_⟩) ?_
    simp only [Act.put,sA,sZ,sS];refine Bj.one (i:=10) (o:=⟨none,_,_,_,_,_⟩) rfl (by kernel_rfl) fun K hK=>?_
    go_simp
    refine hK.out _ _ (fun h=>(by cases h)) ?_
    clear hK K;try simp only [Act.put]
    refine Bj.done (by kernel_rfl) ?_
    have hpl:=Yo.out.placed (wb:=wr.drew.alloc (.cells #[.pointer none,.map none] 102)) (((Bf.refl _ _).drew).alloc _) (A:=A2) (C:=C2) (w1:=w1) (by rw [HNP.out];exact HP);rw [HNP.out] at hpl;have HPL:=AQ hpl;clear HP hpl hst1 hst2 d3 d0 d1 df e3 e4 hS;go_wp2_with fail
    go_roundg (gk - 1)
    case measure=>have:=VO.out;have:=HLEN.out;omega
    case rel=>
     have hF1:=iw.out;rw [HNP.out] at hF1;have hst:=CJ.next FY.out hF1 HPL.out;simp only [Xt] at hst;exact ⟨n+1,Ad VO HLEN,hst⟩
   ·go_wp2_with fail
    go_meet
    case rel=>
     have hm:n=t+1 - S.tr.length:=Ad VO HLEN;subst hm;exact ⟨_,⟨h,cb1,dQ,_,av1,lv1,_,ZK,_,rfl,Yo.out,rfl⟩,FY.out,iw.out⟩
 case rest=>
  obtain ⟨F1,⟨h1,cb1,dQ,tv1,av1,lv1,ps1,ZK,qO,he,H1,ug⟩,hu1,hF1⟩:=hcut
  cases he
  obtain ⟨At,Ct,qQ⟩:∃A C,tv1=.slice A ps1.length C:=Bv H1.LV;obtain ⟨Aa,Ca,hav⟩:∃A C,av1=.slice A S.al.length C:=Bv H1.GK;obtain ⟨Al,Cl,hlv1⟩:∃A C,lv1=.slice A S.lv.length C:=Bv H1.PN;subst qQ hav hlv1;have hhF:h∈F1:=by rw [ug];exact Bq (i:=0) (P:=[h]) rfl (by simp)
  have hlF:∀x∈blk (.slice Al S.lv.length Cl),x∈F1:=fun x hx=>by rw [ug];exact Bq (i:=4) rfl hx
  have haF:∀x∈blk (.slice Aa S.al.length Ca),x∈F1:=fun x hx=>by rw [ug];exact Bq (i:=3) rfl hx
  have htF:∀x∈blk (.slice At ps1.length Ct),x∈F1:=fun x hx=>by rw [ug];exact Bq (i:=2) rfl hx
  have a4t:=AQ ug;have Yo:=AQ H1;have FY:=AQ hu1;have iw:=AQ hF1;have HLF:=AQ hlF;have HAF:=AQ haF;have HTF:=AQ htF;clear ug H1 hu1 hF1 hlF haF htF;go_wp2_with fail
  go_loopg [7,29] l.length (fun m s7 i wr=>∃k A7 C7,m+k=l.length∧i=.int .i64 (k:Int)∧s7=.slice A7 (live S.al (l.take k)).length C7∧
   BU wr h cb1 dQ (.slice At ps1.length Ct) (.slice Aa S.al.length Ca) (.slice Al S.lv.length Cl) ps1 ZK qO { S with tr:=pad S.tr (t+1),lv:=IK S.lv t (l.take k) }∧G5.row wr 0 (.slice A7 (live S.al (l.take k)).length C7) (live S.al (l.take k))∧
   (∀x∈blk (.slice A7 (live S.al (l.take k)).length C7),W.heap.size≤x∧x∉F1)∧Bf F W wr)
  case atStart=>exact ⟨0,none,0,rfl,rfl,rfl,Yo.out,World.ownsRow_nil _ _ _ _,by simp [blk],FY.out⟩
  case round=>
   obtain ⟨k,A7,C7,hk,rfl,rfl,H2,hrow,hbl,hu⟩:=hrel;have hkm:k≤l.length:=by omega
   obtain ⟨L,hL⟩:=AO (live S.al (l.take k));rw [hL] at hrow hbl ⊢
   have hLl:L.length≤k:=by
    rw [←hL];unfold live CZ;rw [List.length_map];exact Bd (List.length_filter_le _ _) (by rw [Ba];omega)
   obtain ⟨_,_,_,hc3,hc4,hc5,_,hfr⟩:=H2.cell;have hf3:=hfr 3;have hh2:h<wr.heap.size:=lt_of_block H2.head;have HK:=AQ hk;have HL:=AQ hL;have Us:=AQ H2;have LP:=AQ hrow;have HBL:=AQ hbl;have HU:=AQ hu;clear hk hL H2 hrow hbl hu hfr;by_cases hlt:k<l.length
   ·obtain ⟨bb,oo,hB,a6M,a6N,a6O,a6P,a6Q,a6R⟩:=(HS'.out.upd HU.out fun h0 x hx _=>HD.out h0 x hx).cell (k:=k) hlt;subst hB;obtain ⟨y,hy⟩:=AO (l[k]);have hyn:=HN.out l[k] (List.getElem_mem _);rw [hy] at a6M a6N a6O a6P a6Q a6R hyn;have hyl:y.2<(IK S.lv t (l.take k)).length:=by rw [Qr,HLV.out];exact hyn
    obtain ⟨q,hAl,hq1,hq2,_,Sl⟩:=Oy Us.out.PN hyl (u:=.int .i64 ((IK S.lv t (l.take k))[y.2]:Int)) (by simp [hyl]);subst hAl;obtain ⟨qa,hAa,Sm,wQ,_,jF⟩:=Oy Us.out.GK hyn (u:=.bool (S.al[y.2])) (by simp [hyn]);subst hAa;have hcond:S.al.getD y.2 false=S.al[y.2]:=by simp [List.getD,hyn]
    obtain ⟨z,hz⟩:=AO ((IK S.lv t (l.take k))[y.2]);obtain ⟨c,hc⟩:=AO (S.al[y.2]);rw [hz] at hq1;rw [hc] at Sm hcond;obtain ⟨y1,y2⟩:=y;dsimp only at a6M a6N a6O a6P a6Q a6R hyn hyl hq1 hq2 Sm wQ hcond;have b2f:y2<S.lv.length:=by rw [HLV.out];exact hyn
    have a1Y:=AQ hcond;have HY:=AQ hy;clear hy hz hc hcond;have b0:(0:Int)≤(k:Int):=AU _;have b1:(k:Int)<(l.length:Int):=by omega
    have b2:(0:Int)≤(y2:Int):=AU _;have b3:(y2:Int)<(S.al.length:Int):=by omega
    have b4:(y2:Int)<(S.lv.length:Int):=by omega
    go_upto_region 7 with fail
    obtain ⟨p,hp⟩:=AO wr.heap.size;have FM:Bf [] wr (wr.alloc (.cells #[.int .i64 y1.x1,.int .i64 y1.x2,.int .i64 y1.y1,.int .i64 y1.y2,.int .u32 (y1.id:Int),.int .i64 (y2:Int)] 160)):=(Bf.refl _ _).alloc _;have hp0:(wr.alloc (.cells #[.int .i64 y1.x1,.int .i64 y1.x2,.int .i64 y1.y1,.int .i64 y1.y2,.int .u32 (y1.id:Int),.int .i64 (y2:Int)] 160)).cell? ⟨wr.heap.size,0,none⟩=some (.int .i64 y1.x1):=by rw [World.cell?_alloc_at _ _ _ _ rfl];rfl
    have hp1:(wr.alloc (.cells #[.int .i64 y1.x1,.int .i64 y1.x2,.int .i64 y1.y1,.int .i64 y1.y2,.int .u32 (y1.id:Int),.int .i64 (y2:Int)] 160)).cell? ⟨wr.heap.size,1,none⟩=some (.int .i64 y1.x2):=by rw [World.cell?_alloc_at _ _ _ _ rfl];rfl
    have hp2:(wr.alloc (.cells #[.int .i64 y1.x1,.int .i64 y1.x2,.int .i64 y1.y1,.int .i64 y1.y2,.int .u32 (y1.id:Int),.int .i64 (y2:Int)] 160)).cell? ⟨wr.heap.size,2,none⟩=some (.int .i64 y1.y1):=by rw [World.cell?_alloc_at _ _ _ _ rfl];rfl
    have hp3:(wr.alloc (.cells #[.int .i64 y1.x1,.int .i64 y1.x2,.int .i64 y1.y1,.int .i64 y1.y2,.int .u32 (y1.id:Int),.int .i64 (y2:Int)] 160)).cell? ⟨wr.heap.size,3,none⟩=some (.int .i64 y1.y2):=by rw [World.cell?_alloc_at _ _ _ _ rfl];rfl
    have YA:(wr.alloc (.cells #[.int .i64 y1.x1,.int .i64 y1.x2,.int .i64 y1.y1,.int .i64 y1.y2,.int .u32 (y1.id:Int),.int .i64 (y2:Int)] 160)).cell? ⟨wr.heap.size,4,none⟩=some (.int .u32 (y1.id:Int)):=by rw [World.cell?_alloc_at _ _ _ _ rfl];rfl
    have iC:(wr.alloc (.cells #[.int .i64 y1.x1,.int .i64 y1.x2,.int .i64 y1.y1,.int .i64 y1.y2,.int .u32 (y1.id:Int),.int .i64 (y2:Int)] 160)).cell? ⟨wr.heap.size,5,none⟩=some (.int .i64 (y2:Int)):=by rw [World.cell?_alloc_at _ _ _ _ rfl];rfl
    have hps:wr.heap.size<(wr.alloc (.cells #[.int .i64 y1.x1,.int .i64 y1.x2,.int .i64 y1.y1,.int .i64 y1.y2,.int .u32 (y1.id:Int),.int .i64 (y2:Int)] 160)).heap.size:=by simp
    generalize (wr.alloc (.cells #[.int .i64 y1.x1,.int .i64 y1.x2,.int .i64 y1.y1,.int .i64 y1.y2,.int .u32 (y1.id:Int),.int .i64 (y2:Int)] 160))=w1 at *;have Xu:=(FM.cell (p:=⟨h,4,none⟩) hh2 (by simp)).trans hc4;have wR:=(FM.cell (p:=⟨h,5,none⟩) hh2 (by simp)).trans hc5;have hq1':=(FM.cell (p:=⟨q,y2,none⟩) Sl (by simp)).trans hq1;have a1a:=(FM.frozen (p:=⟨q,y2,none⟩) Sl (by simp)).trans hq2;have Vy:=(FM.cell (p:=⟨qa,y2,none⟩) jF (by simp)).trans Sm;rw [hp] at hp0 hp1 hp2 hp3 YA iC hps ⊢;have hpq:p≠q:=by omega
    have b2g:p≠qa:=by omega
    have hph:p≠h:=by omega
    have hqh:q≠h:=fun e=>Us.out.Gu (i:=4) (j:=0) rfl rfl (by omega) q (by simp [blk]) (by simp [e])
    have b0W:q≠qa:=fun e=>Us.out.Gu (i:=4) (j:=3) rfl rfl (by omega) q (by simp [blk]) (by simp [blk,e])
    have HP:=AQ hp;have Gl:=AQ FM;clear hp FM hc3 hc4 hc5 hf3 hq1 hq2 Sm wQ;go_region
    have hu2:Bf [q] w1 (w1.setCell ⟨q,y2,none⟩ (.int .i64 (t:Int))).drew:=((Bf.refl [q] w1).setCell (p:=⟨q,y2,none⟩) (.inl (by simp)) _).drew;have Rn:q∈F1:=HLF.out q (by simp [blk]);have hH2:=((Us.out.upd Gl.out (by intro P hP x hx;simp)).lev rfl y2 t).upd ((Bf.refl [] (w1.setCell ⟨q,y2,none⟩ (.int .i64 (t:Int)))).drew) (by intro P hP x hx;simp);have hr2:G5.row (w1.setCell ⟨q,y2,none⟩ (.int .i64 (t:Int))).drew 0 (.slice A7 L.length C7) L:=Bg (Bg LP.out Gl.out (by simp)) hu2 (fun x hx hc=>(HBL.out x hx).2 (by simp at hc;rw [hc];exact Rn));have hU2:Bf F W (w1.setCell ⟨q,y2,none⟩ (.int .i64 (t:Int))).drew:=(HU.out.trans' Gl.out (by simp)).trans' hu2 (fun x hx=>by simp at hx;rw [hx];exact iw.out q Rn);have hsz1:=Gl.out.size;generalize (w1.setCell ⟨q,y2,none⟩ (.int .i64 (t:Int))).drew=w2 at *;have hsz2:=hu2.size;have hc4:=(hu2.cell (p:=⟨h,4,none⟩) (show h<_ by omega) (by simp;exact Ne.symm hqh)).trans Xu;have hqa:=(hu2.cell (p:=⟨qa,y2,none⟩) (show qa<_ by omega) (by simp;exact Ne.symm b0W)).trans Vy;have hv0:=(hu2.cell (p:=⟨p,0,none⟩) hps (by simp;exact hpq)).trans hp0;have hv1:=(hu2.cell (p:=⟨p,1,none⟩) hps (by simp;exact hpq)).trans hp1;have hv2:=(hu2.cell (p:=⟨p,2,none⟩) hps (by simp;exact hpq)).trans hp2;have hv3:=(hu2.cell (p:=⟨p,3,none⟩) hps (by simp;exact hpq)).trans hp3;have hv4:=(hu2.cell (p:=⟨p,4,none⟩) hps (by simp;exact hpq)).trans YA;have hv5:=(hu2.cell (p:=⟨p,5,none⟩) hps (by simp;exact hpq)).trans iC
    have a6S:BU w2 h cb1 dQ (.slice At ps1.length Ct) (.slice (some ⟨qa,0,none⟩) S.al.length Ca) (.slice (some ⟨q,0,none⟩) S.lv.length Cl) ps1 ZK qO { S with tr:=pad S.tr (t+1),lv:=IK S.lv t (l.take (k+1)) }:=by
     rw [AZ hlt,iE,HY.out];exact hH2
    have SG:=AQ a6S;have HR2:=AQ hr2;have Fq:=AQ hU2;clear hu2 hH2 a6S hr2 hU2 hq1' a1a Vy Xu wR hp0 hp1 hp2 hp3 YA iC Gl
    cases c
    ·have hnext:live S.al (l.take (k+1))=L:=by
      rw [AZ hlt,HY.out];unfold live;rw [LZ,List.map_append];have:CZ S.al [(y1,y2)] = []:=by unfold CZ;rw [List.filter_cons,if_neg (by simpa using a1Y.out),List.filter_nil]
      rw [this];have:=HL.out;unfold live at this;simp [this]
     have VZ:=AQ hnext;clear hnext;go_wp2_with fail
     go_quiet (fail)
     go_wp2_with fail
     go_roundg (gk - 1)
     case measure=>have:=HK.out;omega
     case rel=>
      refine ⟨k+1,A7,C7,Ac HK,by go_num,by rw [VZ.out],SG.out.upd ((Bf.refl [] w2).drewN _) (by intro P hP x hx;simp),?_,?_,Fq.out.drewN _⟩
      ·rw [VZ.out];exact HR2.out
      ·rw [VZ.out];exact HBL.out
    ·have hnext:live S.al (l.take (k+1))=L++[y1]:=by
      rw [AZ hlt,HY.out];unfold live;rw [LZ,List.map_append];have:CZ S.al [(y1,y2)] = [(y1,y2)]:=by unfold CZ;rw [List.filter_cons,if_pos a1Y.out,List.filter_nil]
      rw [this];have:=HL.out;unfold live at this;simp [this]
     have VZ:=AQ hnext;have mZ:=AQ (Bd hsz1 hsz2);have HWS:=AQ HU.out.size;clear hnext;go_wp2_with fail
     go_quiet (fail)
     go_wp2_with (at_builtin;refine BL _ rfl _ _ 42 rfl 0 28 i1 (.agg #[.int .i64 0,.int .i64 0,.int .i64 0,.int .i64 0,.int .u32 0]) 5 40 Tryz.underlying42 hi1 hy0 hy1 hy2 rfl (by decide) _ _ _ rfl ((Bg (HR2.out) ((Bf.refl [] w2).drewN nq) (by simp)).alloc _) _ 1 [.int .i64 y1.x1,.int .i64 y1.x2,.int .i64 y1.y1,.int .i64 y1.y2,.int .u32 (y1.id:Int)] rfl (BM (w2.drewN nq) #[.int .i64 y1.x1,.int .i64 y1.x2,.int .i64 y1.y1,.int .i64 y1.y2,.int .u32 (y1.id:Int)] 28 5 1 rfl (by decide)) (by simp [Value.oneCell']) (by unfold maxLen;omega) (by omega) (Nat.zero_le _) ?_)
     intro A9 C9 w4 Yp;have VP:Bf (blk (.slice A7 L.length C7)) w2 w4:=((Bf.refl _ _).drewN nq).trans' (((Bf.refl _ _).alloc _).trans Yp.upd) (fun x hx=>.inl hx)
     have PU:G5.row w4 0 (.slice A9 (L.length+1) C9) (L++[y1]):=by
      unfold Kind.row;rw [Kind.Ci,AY];exact Yp.own
     have a6T:∀x∈blk (.slice A9 (L.length+1) C9),W.heap.size≤x∧x∉F1:=by
      intro x hx;rcases Yp.at with h' | h'
      ·rw [h'] at hx;exact HBL.out x hx
      ·rw [h'] at hx;simp at hx;subst hx;have h1:=mZ.out;have h2:=HWS.out;refine ⟨by omega,fun hc=>?_⟩
       rw [a4t.out] at hc;have e:=SG.out.lt;obtain ⟨P,hP,hx⟩:=List.mem_flatten.1 hc;simp only [parts,List.mem_cons] at hP;have:=Cc.lt (hv:=.pointer (some ⟨h,0,none⟩)) ⟨h,cb1,dQ,_,_,_,_,_,_,rfl,SG.out,rfl⟩ _ hc;omega
     have hH9:=SG.out.upd VP (by
      intro P hP x hx hc;exact (HBL.out x hc).2 (by rw [a4t.out];exact List.mem_flatten.2 ⟨P,hP,hx⟩))
     have hU9:Bf F W w4:=Fq.out.trans' VP (fun x hx=>.inr (HBL.out x hx).1);have HH9:=AQ hH9;have HR9:=AQ PU;have HB9:=AQ a6T;have ZL:=AQ hU9;clear Yp VP PU a6T hH9 hU9;go_wp2_with fail
     go_roundg (gk - 1)
     case measure=>have:=HK.out;omega
     case rel=>
      refine ⟨k+1,A9,C9,Ac HK,by go_num,by rw [VZ.out,AY];rfl,HH9.out,?_,?_,ZL.out⟩
      ·rw [VZ.out,AY];exact HR9.out
      ·rw [VZ.out,AY];exact HB9.out
   ·have hfull:l.take k=l:=List.take_of_length_le (by omega);have hH2:=Us.out;have hL2:=HL.out;rw [hfull] at hH2 hL2;have htl:t<ps1.length:=by rw [hH2.OX,SV];omega
    obtain ⟨pt,hpt⟩:∃p,ps1[t]? = some p:=⟨_,AX htl⟩;obtain ⟨q,hAt,hq1,a6U,hq2,Sl⟩:=V4 hH2.LV hpt;subst hAt;obtain ⟨hc0,_⟩:=hH2.cell;have hg1:=HGD.out;rw [←hfull] at hg1;rw [HL.out] at hg1;have tX:=AQ hg1;clear hpt hg1;obtain ⟨np,hnp⟩:=AO ps1.length;have hnt:=htl;rw [hnp] at hnt;have hpb:np≤2000:=by rw [←hnp,hH2.OX,SV];omega
    rw [hnp] at hc3;have HH:=AQ hH2;have Xb:=AQ hL2;have b0:(0:Int)≤(t:Int):=AU _;have b1:(t:Int)<(np:Int):=by omega
    have HNP:=AQ hnp;clear hH2 hL2 hfull hnp Us hf3;have hc0':wr.cell? ⟨h,0,none⟩=some (.func (.func 56) #[] #[]):=hc0;have hqh:q≠h:=fun e=>HH.out.Gu (i:=2) (j:=0) rfl rfl (by omega) q (by simp [blk]) (by simp [e])
    have hhq:h≠q:=Ne.symm hqh;clear hc0 hc4 hc5;go_upto_region 11 with fail
    have hd0:wr.drew.cell? ⟨h,0,none⟩=some (.func (.func 56) #[] #[]):=hc0';have hd3:wr.drew.cell? ⟨h,3,none⟩=some (.slice (some ⟨q,0,none⟩) np Ct):=hc3
    go_region_held3 (fun w'=>w'.cell? ⟨h,0,none⟩=some (.func (.func 56) #[] #[])∧w'.cell? ⟨h,3,none⟩=some (.slice (some ⟨q,0,none⟩) np Ct))
     (first
      |go_keep
      |(exact ⟨hd0,hd3⟩)
      |(exact ⟨(jG.cell (p:=⟨h,0,none⟩) hh2 (by simp)).trans hc0',(jG.cell (p:=⟨h,3,none⟩) hh2 (by simp)).trans hc3⟩))
     ((go_at_call 56;refine (a4h _ L _ (See.BX (base:=0) (Bg LP.out ((Bf.refl [] wr).drew) (by simp))) tX.1 tX.2).mono ?_;rintro e w5 ⟨tb,vb,Fb,rfl,wS,hge,jG⟩;have hst1:=(jG.cell (p:=⟨q,t*2,none⟩) Sl (by simp)).trans hq1;have hst2:=(jG.frozen (p:=⟨q,t*2,none⟩) Sl (by simp)).trans (hq2 _);have hst3:=(jG.cell (p:=⟨q,t*2+1,none⟩) Sl (by simp)).trans a6U;have Sr:=(jG.frozen (p:=⟨q,t*2+1,none⟩) Sl (by simp)).trans (hq2 _)))
    have hge':∀x∈Fb,wr.heap.size≤x:=hge;have a1Z:Bf [] wr w5:=(Bf.refl [] wr).drew.trans jG;have h5:=HH.out.upd (G:=[]) (w':=w5) a1Z (by intro P hP x hx;simp);obtain ⟨w6,hw6⟩:=AO ((w5.setCell ⟨q,t*2,none⟩ (.pointer (some ⟨tb,0,none⟩))).setCell ⟨q,t*2+1,none⟩ (.map (some vb)))
    have h6:BU w6 h cb1 dQ _ _ _ (ps1.set t (some tb,some vb)) ZK (qO.set t Fb) _:=hw6 ▸ h5.tree rfl (i:=t) (p:=(some tb,some vb)) (F:=Fb) (by show t<(pad S.tr (t+1)).length;rw [SV];omega) (some (L.length,L)) (.inr ⟨_,rfl,wS⟩) (by
     intro P hP x hx hc;have h1:=hge' x hx;have h2:=HH.out.lt P hP x hc;omega)
    have Rn:q∈F1:=HTF.out q (by simp [blk])
    have Ol:Bf F W w6:=by
     rw [←hw6];exact Bf.setCell (Bf.setCell ((HU.out).trans' a1Z (by simp)) (p:=⟨q,t*2,none⟩) (iw.out q Rn) _) (p:=⟨q,t*2+1,none⟩) (iw.out q Rn) _
    have hst:CJ W w6 (.pointer (some ⟨h,0,none⟩)) F (JC S t l):=by
     have hH6:BU w6 h cb1 dQ (.slice (some ⟨q,0,none⟩) ps1.length Ct) (.slice Aa S.al.length Ca) (.slice Al S.lv.length Cl) (ps1.set t (some tb,some vb)) ZK (qO.set t Fb) (JC S t l):=by
      unfold JC;rw [Xb.out];exact h6
     refine ⟨_,⟨h,cb1,dQ,_,_,_,_,ZK,_,rfl,hH6,rfl⟩,Ol,fun x hx=>?_⟩
     have e:(parts h ZK (.slice (some ⟨q,0,none⟩) ps1.length Ct) (.slice Aa S.al.length Ca) (.slice Al S.lv.length Cl) dQ (qO.set t Fb)).flatten=((parts h ZK (.slice (some ⟨q,0,none⟩) ps1.length Ct) (.slice Aa S.al.length Ca) (.slice Al S.lv.length Cl) dQ qO).set (t+6) Fb).flatten:=by simp [parts]
     rw [e] at hx;rcases EJ hx with hx | hx
     ·rw [←a4t.out] at hx;exact iw.out x hx
     ·exact .inr (Bd HU.out.size (hge' x hx))
    rw [hw6];have HST:=AQ hst;clear hst Ol h6 h5 hge' hge wS hst1 hst2 hst3 Sr;go_wp2_with fail
    go_end0
    exact ⟨rfl,by rw [V5.out];exact Gv.out _ _ HST.out⟩
