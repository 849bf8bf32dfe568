/- Half.fill. Printed by mkhg.py. -/
import Derived.Test.YtkbaaonchdeneaaGreatPc25
set_option maxHeartbeats 1000000
set_option maxRecDepth 100000
namespace Go.Proofs.YtkbaaonchdeneaaGreat.Fv
open Go.RowKit
theorem BN.place {w w1:World} {h cb mb:Nat} {tv av DI:Value} {ps:List TV} {Fc:List Nat} {Fs:List (List Nat)} {S:HS Bx} (H:BN w h cb mb tv av DI ps Fc Fs S) {wb:World} (hwb:Bj [] w wb) {A:Option Addr} {C:Nat}
 (HP:DK wb w1 0 102 2 tv ps.length (KT.all ps) 1 [.pointer none,.map none] A C) :
 BN (w1.setCell ⟨h,3,none⟩ (.slice A (ps.length+1) C)) h cb mb (.slice A (ps.length+1) C) av DI (ps++[(none,none)]) Fc (Fs++[[]]) { S with tr:=S.tr++[none] }/\
  Bj (h::blk tv) w (w1.setCell ⟨h,3,none⟩ (.slice A (ps.length+1) C)):=by
 have hup:Bj (blk tv) w w1:=(hwb.mono (by simp)).trans HP.upd;have hht:h∉blk tv:=λhc=>H.E5 (i:=0) (j:=2) rfl rfl (by omega) h (by simp) hc
 have hh1:=(hup.block h (lt_of_block H.head) hht).trans H.head
 have hbt:∀x∈blk (.slice A (ps.length+1) C),x∈blk tv\/w.heap.size<=x:=by
  intro x hx;rcases HP.at with h' | h'
  ·rw [h'] at hx;exact .inl hx
  ·rw [h'] at hx;have:=hwb.size;simp at hx;right;omega
 have hu:Bj (h::blk tv) w (w1.setCell ⟨h,3,none⟩ (.slice A (ps.length+1) C)):=
  (hup.mono (G:=h::blk tv) λx hx=>.inl (by simp [hx])).setCell (p:=⟨h,3,none⟩) (.inl (by simp)) _
 refine ⟨H.trees hu ?_ ?_ hbt (by rw [Bc,Bc,H.Lc];rfl) (by rw [Bc,Bc,H.Ld];rfl) ?_ ?_ ?_ ?_,hu⟩
 ·have:=heap_setCell_same w1 h 3 _ _ (.slice A (ps.length+1) C) hh1;simpa using this
 ·unfold Ql Kind.row;rw [Bc,Kind.BZ];refine Bl HP.own ((Bj.refl [h] w1).setCell (p:=⟨h,3,none⟩) (.inl (by simp)) _) λx hx=>?_
  simp;rintro rfl;rcases hbt x hx with g | g
  ·exact hht g
  ·have:=lt_of_block H.head;omega
 ·intro i hi;rcases Nat.lt_or_ge i S.tr.length with g | g
  ·rw [List.getElem?_append_left g] at hi;rw [List.getElem?_append_left (by rw [H.Ld];exact g)];exact H.no i hi
  ·rw [List.getElem?_append_right g] at hi;rw [List.getElem?_append_right (by rw [H.Ld];exact g),H.Ld];rcases Nat.eq_zero_or_pos (i - S.tr.length) with g0 | g0
   ·rw [g0];rfl
   ·rw [List.getElem?_eq_none (by simp;omega)] at hi;cases hi
 ·intro i l hi
  have g:i<S.tr.length:=by
   refine Nat.lt_of_not_le λg=>?_
   rw [List.getElem?_append_right g] at hi;rcases Nat.eq_zero_or_pos (i - S.tr.length) with g0 | g0
   ·rw [g0] at hi;cases hi
   ·rw [List.getElem?_eq_none (by simp;omega)] at hi;cases hi
  rw [List.getElem?_append_left g] at hi;exact ⟨hi,List.getElem?_append_left (by rw [H.Lc];exact g),List.getElem?_append_left (by rw [H.Ld];exact g)⟩
 ·have:=zA H.apart;simpa [parts] using this
 ·intro F hF x hx;rcases List.mem_append.1 hF with hF | hF
  ·exact H.ltF F hF x hx
  ·simp at hF;subst hF;simp at hx
theorem BN.placed {w w1:World} {h cb mb:Nat} {tv av DI:Value} {ps:List TV} {Fc:List Nat} {Fs:List (List Nat)} {S:HS Bx} (H:BN w h cb mb tv av DI ps Fc Fs S) {wb:World} (hwb:Bj [] w wb) {A:Option Addr} {C:Nat}
 (HP:DK wb w1 0 102 2 tv ps.length (KT.all ps) 1 [.pointer none,.map none] A C) :
 Cc w (w1.setCell ⟨h,3,none⟩ (.slice A (ps.length+1) C)) (.pointer (some h)) (parts h Fc tv av DI mb Fs).flatten { S with tr:=S.tr++[none] }:=by
 obtain ⟨g1,g2⟩:=H.place hwb HP;refine ⟨_,⟨h,cb,mb,_,av,DI,_,Fc,_,rfl,g1,rfl⟩,g2.mono λx hx=>.inl ?_,λx hx=>?_⟩
 ·rcases List.mem_cons.1 hx with rfl | hx
  ·exact Bz (i:=0) (P:=[x]) rfl (by simp)
  ·exact Bz (i:=2) rfl hx
 ·have e:(parts h Fc (.slice A (ps.length+1) C) av DI mb (Fs++[[]])).flatten=((parts h Fc tv av DI mb Fs).set 2 (blk (.slice A (ps.length+1) C))).flatten:=by simp [parts]
  rw [e] at hx;rcases Ed hx with hx | hx
  ·exact .inl hx
  ·rcases HP.at with h' | h'
   ·rw [h'] at hx;exact .inl (Bz (i:=2) rfl hx)
   ·rw [h'] at hx;have:=hwb.size;simp at hx;right;omega
theorem Uc (tr:List (Option (Nat×List Bx))) (n:Nat):tr++List.replicate n none++[none]=tr++List.replicate (n+1) none:=by
 rw [List.append_assoc,List.replicate_succ']
theorem a0Y (hv:Value) (F:List Nat) (S:HS Bx) (t:Nat) (v:Value) (l:List (Bx×Nat)) (w:World) (H:BO w hv F S) (hs:O7.Ints w v l) (hd:0<l.length->∀x∈blk v,x∉F) (ht:t<1000) (htr:S.tr.length<1000) (hn:∀y∈l,y.2<S.al.length)
 (hlv:S.lv.length=S.al.length) (hl:l.length<100000) (hgood:Good (live S.al l)) (hl1:(live S.al l).length<=1000) :
 Calls Tryz.prog 129 #[hv,t,v] w λe w'=>e=.returned (.tuple #[])/\Cc w w' hv F (Hf S t l):=by
 obtain ⟨A,C,rfl⟩:=hs.form;have hF0:=H.lt;obtain ⟨h,cb,mb,tv,av,DI,ps,Fc,Fs,rfl,H,rfl⟩:=H;obtain ⟨i0,hi0,hz0,hz1,hz2⟩:=info_parts VP;obtain ⟨i1,hi1,hy0,hy1,hy2⟩:=info_parts Qj;obtain ⟨W,hW,hu0,hq0⟩:=CQ w #[.pointer none,.map none] 102;have Ud:=AX hW;have Gu:=AX hu0;have hqn:w.heap.size∉(parts h Fc tv av DI mb Fs).flatten:=λhc=>Nat.lt_irrefl _ (hF0 _ hc)
 have HH:=AX (H.upd hu0 (by intro P hP x hx;simp));have HS':=AX (hs.BF hu0);have HD:=AX hd;have HN:=AX hn;have HLV:=AX hlv;have HGD:=Ap hgood hl1;have HQ0:=AX hq0;clear H hs hd hn hlv hW hu0 hF0 hgood hl1 hq0;obtain ⟨F,hF⟩:=AU ((parts h Fc tv av DI mb Fs).flatten);have hd':=HD.out;rw [hF] at hd' hqn;clear HD;have HD:=AX hd';have RX:=AX hF;have ZY:=AX hqn;clear hF hd' hqn;go_enter Tryz.func129,Tryz.ntmps129
 go_upto_block 0 with fail
 rw [<-Ud.out];clear Ud;obtain ⟨qn,hqe⟩:∃q,w.heap.size=q:=⟨_,rfl⟩;rw [hqe] at HQ0 ZY |-;have HQE:=AX hqe;clear hqe;have hfin:∀(w':World) (S':HS Bx),Cc W w' (.pointer (some h)) F S'->Cc w w' (.pointer (some h)) F S':=λw' S' hst=>Cc.next (Gu.out.mono (by simp)) (λx hx=>.inl hx) hst
 have Ih:=AX hfin;clear hfin;go_cut [] (λwc=>Cc W wc (.pointer (some h)) F { S with tr:=pad S.tr (t+1) })
 case first=>
  go_wp2_with fail
  go_loopg [] (t+1 - S.tr.length) (λm wr=>∃n,m+n=t+1 - S.tr.length/\Cc W wr (.pointer (some h)) F { S with tr:=S.tr++List.replicate n none })
  case atStart=>exact ⟨0,rfl,by rw [<-RX.out];simpa using Cc.refl ⟨h,cb,mb,tv,av,DI,ps,Fc,Fs,rfl,HH.out,rfl⟩⟩
  case round=>
   obtain ⟨n,hn,F1,⟨h1,cb1,YF,tv1,zC,zD,ps1,Xq,kR,he,H1,rfl⟩,hu1,hF1⟩:=hrel
   cases he
   have hlen:ps1.length=S.tr.length+n:=by rw [H1.Lc];simp
   obtain ⟨A1,C1,kS⟩:∃A C,tv1=.slice A ps1.length C:=BD H1.IV;subst kS;obtain ⟨_,_,_,hc3,_,_,_,hfr⟩:=H1.cell;have hf3:=hfr 3;have hh1:h<wr.heap.size:=lt_of_block H1.head;have hht:h∉blk (.slice A1 ps1.length C1):=λhc=>H1.E5 (i:=0) (j:=2) rfl rfl (by omega) h (by simp) hc
   obtain ⟨np,hnp⟩:=AU ps1.length;rw [hnp] at hlen hc3 hht;have hnb:np<3000:=by omega
   have HLEN:=AX hlen;have HNP:=AX hnp;have Ry:=AX hn;have U9:=AX H1;have DJ:=AX hu1;have Zu:=AX hF1;clear hlen hnp hn H1 hu1 hF1 hfr
   have hqr:qn∉(parts h Xq (.slice A1 ps1.length C1) zC zD YF kR).flatten:=λhc=>by
    rcases Zu.out qn hc with g | g
    ·exact ZY.out g
    ·have:=HQ0.out.lt;omega
   obtain ⟨z0,z1⟩:=(HQ0.out.upd DJ.out ZY.out).cells2;have OA:qn<wr.heap.size:=(HQ0.out.upd DJ.out ZY.out).lt;by_cases hlt:np<=t
   ·have hqt:qn∉blk (.slice A1 np C1):=λhc=>hqr (by rw [HNP.out];exact Bz (i:=2) rfl hc)
    have hrow0:wr.ownsRow 0 102 2 (.slice A1 np C1) np (KT.all ps1):=by have:=U9.out.IV;unfold Ql Kind.row at this;rw [HNP.out] at this;exact this
    have HRW:=AX hrow0;clear hrow0;go_upto_region 2 with fail
    clear hqr;have d3:∀o,(wr.alloc o).cell? ⟨h,3,none⟩=some (.slice A1 np C1):=λo=>by rw [World.cell?_alloc_past _ _ _ hh1];exact hc3
    have d0:∀o,(wr.alloc o).cell? qn=some (.pointer none):=λo=>by rw [World.cell?_alloc_past _ _ _ OA];exact z0
    have d1:∀o,(wr.alloc o).cell? ⟨qn,1,none⟩=some (.map none):=λo=>by rw [World.cell?_alloc_past _ _ _ OA];exact z1
    have df:∀o,(wr.alloc o).frozen? ⟨h,3,none⟩=false:=λo=>by rw [World.frozen?_alloc_past _ _ _ hh1];exact hf3
    have e3:∀o,h<(wr.alloc o).heap.size:=λo=>by simp;omega
    have e4:∀o,qn<(wr.alloc o).heap.size:=λo=>by simp;omega
    refine Bo.start [7,8,9,10] (λw'=>Bj [] wr w') (by kernel_rfl) ?_ λhS=>?_
    ·exact (Bj.refl [] wr).drew
    refine' Bo.mx 0 17 ?_
    refine' Bo.mx 1 18 ?_
    refine' Bo.mx 2 19 ?_
    refine' Bo.mx 3 20 ?_
    refine' Bo.tk 2 (i:=4) (oi:=⟨some 21,_,_,_,_,_⟩) rfl (by rfl) ?a7e ?_
    case a7e=>intro w hSw;have c3:=(hSw.cell hh1 (by simp)).trans hc3;have c0:=(hSw.cell OA (by simp)).trans z0;have c1:=(hSw.cell OA (by simp)).trans z1;go_simp<;>with_reducible rfl
    simp only [Act.put,sA,sZ,sS];refine' Bo.tk 2 (i:=5) (oi:=⟨some 22,_,_,_,_,_⟩) rfl (by rfl) ?a7f ?_
    case a7f=>intro w hSw;have c3:=(hSw.cell hh1 (by simp)).trans hc3;have c0:=(hSw.cell OA (by simp)).trans z0;have c1:=(hSw.cell OA (by simp)).trans z1;go_simp<;>with_reducible rfl
    simp only [Act.put,sA,sZ,sS];refine Bo.one (i:=6) (o:=⟨some 23,_,_,_,_,_⟩) rfl (by kernel_rfl) λK hK=>?_
    go_simp
    refine hK.out _ _ (λ_ h=>?_) ?_
    ·exact h.alloc _
    clear hK K;try simp only [Act.put,sA,sZ,sS]
    refine Bo.one (i:=7) (o:=⟨some 24,_,_,_,_,_⟩) rfl (by kernel_rfl) λK hK=>?_
    rw [if_pos (by simp [Region.wanted])];refine SK _ _ _ 108 (by rfl) 0 102 i0 (.agg #[.pointer none,.map none]) 2 16 Tryz.underlying108 hi0 hz0 hz1 hz2 rfl (by decide) (.slice A1 np C1) np (KT.all ps1) (by rfl) (HRW.out.alloc _) _ 1 [.pointer none,.map none] (by rfl) (BK wr.drew #[.pointer none,.map none] 102 2 1 rfl (by decide)) (by simp [Value.oneCell']) (by unfold maxLen;omega) (by omega) (Nat.zero_le _) ?_
    intro A2 C2 w1 HP;have hst1:=((HP.upd).cell (p:=⟨h,3,none⟩) (e3 _) hht).trans (d3 _);have hst2:=((HP.upd).frozen (p:=⟨h,3,none⟩) (e3 _) hht).trans (df _);refine hK.out _ _ (λh=>(by cases h)) ?_
    clear hK K;try simp only [Act.put,sA,sZ,sS]
    refine' Bo.mx 8 25 ?_
    refine' Bo.mx 9 26 ?_
    refine Bo.one (i:=10) (o:=⟨none,_,_,_,_,_⟩) rfl (by kernel_rfl) λK hK=>?_
    go_simp
    refine hK.out _ _ (λh=>(by cases h)) ?_
    clear hK K;try simp only [Act.put]
    refine Bo.done (by kernel_rfl) ?_
    have hpl:=U9.out.placed (wb:=wr.drew.alloc (.cells #[.pointer none,.map none] 102)) (((Bj.refl _ _).drew).alloc _) (A:=A2) (C:=C2) (w1:=w1) (by rw [HNP.out];exact HP);rw [HNP.out] at hpl;have nK:=AX hpl;clear HP hpl hst1 hst2 d3 d0 d1 df e3 e4 hS;go_wp2_with fail
    go_roundg (gk - 1)
    case measure=>have:=Ry.out;have:=HLEN.out;omega
    case rel=>
     have hF1:=Zu.out;rw [HNP.out] at hF1;have hst:=Cc.next DJ.out hF1 nK.out;simp only [Uc] at hst;exact ⟨n+1,Ad Ry HLEN,hst⟩
   ·go_wp2_with fail
    go_meet
    case rel=>
     have hm:n=t+1 - S.tr.length:=Ad Ry HLEN;subst hm;exact ⟨_,⟨h,cb1,YF,_,zC,zD,_,Xq,_,rfl,U9.out,rfl⟩,DJ.out,Zu.out⟩
 case rest=>
  obtain ⟨F1,⟨h1,cb1,YF,tv1,zC,zD,ps1,Xq,kR,he,H1,oq⟩,hu1,hF1⟩:=hcut
  cases he
  obtain ⟨At,Ct,kS⟩:∃A C,tv1=.slice A ps1.length C:=BD H1.IV;obtain ⟨Aa,Ca,hav⟩:∃A C,zC=.slice A S.al.length C:=BD H1.FK;obtain ⟨Al,Cl,hlv1⟩:∃A C,zD=.slice A S.lv.length C:=BD H1.Mc;subst kS hav hlv1;have hhF:h∈F1:=by rw [oq];exact Bz (i:=0) (P:=[h]) rfl (by simp)
  have hlF:∀x∈blk (.slice Al S.lv.length Cl),x∈F1:=λx hx=>by rw [oq];exact Bz (i:=4) rfl hx
  have haF:∀x∈blk (.slice Aa S.al.length Ca),x∈F1:=λx hx=>by rw [oq];exact Bz (i:=3) rfl hx
  have htF:∀x∈blk (.slice At ps1.length Ct),x∈F1:=λx hx=>by rw [oq];exact Bz (i:=2) rfl hx
  have a2j:=AX oq;have U9:=AX H1;have DJ:=AX hu1;have Zu:=AX hF1;have HLF:=AX hlF;have HAF:=AX haF;have HTF:=AX htF;clear oq H1 hu1 hF1 hlF haF htF;go_wp2_with fail
  go_loopg [7,29] l.length (λm s7 i wr=>∃k A7 C7,m+k=l.length/\i=.int .i64 (k:Int)/\s7=.slice A7 (live S.al (l.take k)).length C7/\
   BN wr h cb1 YF (.slice At ps1.length Ct) (.slice Aa S.al.length Ca) (.slice Al S.lv.length Cl) ps1 Xq kR { S with tr:=pad S.tr (t+1),lv:=Gs S.lv t (l.take k) }/\LP.row wr 0 (.slice A7 (live S.al (l.take k)).length C7) (live S.al (l.take k))/\
   (∀x∈blk (.slice A7 (live S.al (l.take k)).length C7),W.heap.size<=x/\x∉F1)/\Bj F W wr)
  case atStart=>exact ⟨0,none,0,rfl,rfl,rfl,U9.out,World.ownsRow_nil _ _ _ _,by simp [blk],DJ.out⟩
  case round=>
   obtain ⟨k,A7,C7,hk,rfl,rfl,H2,hrow,hbl,hu⟩:=hrel;have hkm:k<=l.length:=by omega
   obtain ⟨L,hL⟩:=AU (live S.al (l.take k));rw [hL] at hrow hbl |-
   have hLl:L.length<=k:=by
    rw [<-hL];unfold live CW;rw [List.length_map];exact Bh (List.length_filter_le _ _) (by rw [Bf];omega)
   obtain ⟨_,_,_,hc3,hc4,hc5,_,hfr⟩:=H2.cell;have hf3:=hfr 3;have hh2:h<wr.heap.size:=lt_of_block H2.head;have HK:=AX hk;have HL:=AX hL;have QZ:=AX H2;have KZ:=AX hrow;have nN:=AX hbl;have HU:=AX hu;clear hk hL H2 hrow hbl hu hfr;by_cases hlt:k<l.length
   ·obtain ⟨bb,oo,hB,a4B,a4C,a4D,a4E,a4F,a4G⟩:=(HS'.out.upd HU.out λh0 x hx _=>HD.out h0 x hx).cell (k:=k) hlt;subst hB;obtain ⟨y,hy⟩:=AU (l[k]);have hyn:=HN.out l[k] (List.getElem_mem _);rw [hy] at a4B a4C a4D a4E a4F a4G hyn;have hyl:y.2<(Gs S.lv t (l.take k)).length:=by rw [MP,HLV.out];exact hyn
    obtain ⟨q,hAl,hq1,hq2,_,OA⟩:=J9 QZ.out.Mc hyl (u:=.int .i64 ((Gs S.lv t (l.take k))[y.2]:Int)) (by simp [hyl]);subst hAl;obtain ⟨qa,hAa,Oo,rU,_,aU⟩:=J9 QZ.out.FK hyn (u:=.bool (S.al[y.2])) (by simp [hyn]);subst hAa;have hcond:S.al.getD y.2 false=S.al[y.2]:=by simp [List.getD,hyn]
    obtain ⟨z,hz⟩:=AU ((Gs S.lv t (l.take k))[y.2]);obtain ⟨c,hc⟩:=AU (S.al[y.2]);rw [hz] at hq1;rw [hc] at Oo hcond;obtain ⟨y1,y2⟩:=y;dsimp only at a4B a4C a4D a4E a4F a4G hyn hyl hq1 hq2 Oo rU hcond;have a8C:y2<S.lv.length:=by rw [HLV.out];exact hyn
    have a0Z:=AX hcond;have HY:=AX hy;clear hy hz hc hcond;have b0:(0:Int)<=(k:Int):=AY _;have b1:(k:Int)<(l.length:Int):=by omega
    have b2:(0:Int)<=(y2:Int):=AY _;have b3:(y2:Int)<(S.al.length:Int):=by omega
    have b4:(y2:Int)<(S.lv.length:Int):=by omega
    go_upto_region 7 with fail
    obtain ⟨p,hp⟩:=AU wr.heap.size;have FI:Bj [] wr (wr.alloc (.cells #[y1.x1,y1.x2,y1.y1,y1.y2,.int .u32 (y1.id:Int),(y2:Int)] 160)):=(Bj.refl _ _).alloc _;have hp0:(wr.alloc (.cells #[y1.x1,y1.x2,y1.y1,y1.y2,.int .u32 (y1.id:Int),(y2:Int)] 160)).cell? wr.heap.size=some (.int .i64 y1.x1):=by rw [World.cell?_alloc_at _ _ _ _ rfl];rfl
    have hp1:(wr.alloc (.cells #[y1.x1,y1.x2,y1.y1,y1.y2,.int .u32 (y1.id:Int),(y2:Int)] 160)).cell? ⟨wr.heap.size,1,none⟩=some (.int .i64 y1.x2):=by rw [World.cell?_alloc_at _ _ _ _ rfl];rfl
    have hp2:(wr.alloc (.cells #[y1.x1,y1.x2,y1.y1,y1.y2,.int .u32 (y1.id:Int),(y2:Int)] 160)).cell? ⟨wr.heap.size,2,none⟩=some (.int .i64 y1.y1):=by rw [World.cell?_alloc_at _ _ _ _ rfl];rfl
    have hp3:(wr.alloc (.cells #[y1.x1,y1.x2,y1.y1,y1.y2,.int .u32 (y1.id:Int),(y2:Int)] 160)).cell? ⟨wr.heap.size,3,none⟩=some (.int .i64 y1.y2):=by rw [World.cell?_alloc_at _ _ _ _ rfl];rfl
    have QB:(wr.alloc (.cells #[y1.x1,y1.x2,y1.y1,y1.y2,.int .u32 (y1.id:Int),(y2:Int)] 160)).cell? ⟨wr.heap.size,4,none⟩=some (.int .u32 (y1.id:Int)):=by rw [World.cell?_alloc_at _ _ _ _ rfl];rfl
    have Vb:(wr.alloc (.cells #[y1.x1,y1.x2,y1.y1,y1.y2,.int .u32 (y1.id:Int),(y2:Int)] 160)).cell? ⟨wr.heap.size,5,none⟩=some (.int .i64 (y2:Int)):=by rw [World.cell?_alloc_at _ _ _ _ rfl];rfl
    have hps:wr.heap.size<(wr.alloc (.cells #[y1.x1,y1.x2,y1.y1,y1.y2,.int .u32 (y1.id:Int),(y2:Int)] 160)).heap.size:=by simp
    generalize (wr.alloc (.cells #[y1.x1,y1.x2,y1.y1,y1.y2,.int .u32 (y1.id:Int),(y2:Int)] 160))=w1 at *;have Ue:=(FI.cell (p:=⟨h,4,none⟩) hh2 (by simp)).trans hc4;have rV:=(FI.cell (p:=⟨h,5,none⟩) hh2 (by simp)).trans hc5;have hq1':=(FI.cell (p:=⟨q,y2,none⟩) OA (by simp)).trans hq1;have zF:=(FI.frozen (p:=⟨q,y2,none⟩) OA (by simp)).trans hq2;have Q5:=(FI.cell (p:=⟨qa,y2,none⟩) aU (by simp)).trans Oo;rw [hp] at hp0 hp1 hp2 hp3 QB Vb hps |-;have hpq:p≠q:=by omega
    have a8D:p≠qa:=by omega
    have hph:p≠h:=by omega
    have hqh:q≠h:=λe=>QZ.out.E5 (i:=4) (j:=0) rfl rfl (by omega) q (by simp [blk]) (by simp [e])
    have a7g:q≠qa:=λe=>QZ.out.E5 (i:=4) (j:=3) rfl rfl (by omega) q (by simp [blk]) (by simp [blk,e])
    have HP:=AX hp;have Hr:=AX FI;clear hp FI hc3 hc4 hc5 hf3 hq1 hq2 Oo rU;go_region
    have hu2:Bj [q] w1 (w1.setCell ⟨q,y2,none⟩ (.int .i64 (t:Int))).drew:=((Bj.refl [q] w1).setCell (p:=⟨q,y2,none⟩) (.inl (by simp)) _).drew;have L9:q∈F1:=HLF.out q (by simp [blk]);have hH2:=((QZ.out.upd Hr.out (by intro P hP x hx;simp)).lev rfl y2 t).upd ((Bj.refl [] (w1.setCell ⟨q,y2,none⟩ (.int .i64 (t:Int)))).drew) (by intro P hP x hx;simp);have hr2:LP.row (w1.setCell ⟨q,y2,none⟩ (.int .i64 (t:Int))).drew 0 (.slice A7 L.length C7) L:=Bl (Bl KZ.out Hr.out (by simp)) hu2 (λx hx hc=>(nN.out x hx).2 (by simp at hc;rw [hc];exact L9));have hU2:Bj F W (w1.setCell ⟨q,y2,none⟩ (.int .i64 (t:Int))).drew:=(HU.out.trans' Hr.out (by simp)).trans' hu2 (λx hx=>by simp at hx;rw [hx];exact Zu.out q L9);have hsz1:=Hr.out.size;generalize (w1.setCell ⟨q,y2,none⟩ (.int .i64 (t:Int))).drew=w2 at *;have hsz2:=hu2.size;have hc4:=(hu2.cell (p:=⟨h,4,none⟩) (show h<_ by omega) (by simp;exact Ne.symm hqh)).trans Ue;have hqa:=(hu2.cell (p:=⟨qa,y2,none⟩) (show qa<_ by omega) (by simp;exact Ne.symm a7g)).trans Q5;have hv0:=(hu2.cell (p:=⟨p,0,none⟩) hps (by simp;exact hpq)).trans hp0;have hv1:=(hu2.cell (p:=⟨p,1,none⟩) hps (by simp;exact hpq)).trans hp1;have hv2:=(hu2.cell (p:=⟨p,2,none⟩) hps (by simp;exact hpq)).trans hp2;have hv3:=(hu2.cell (p:=⟨p,3,none⟩) hps (by simp;exact hpq)).trans hp3;have hv4:=(hu2.cell (p:=⟨p,4,none⟩) hps (by simp;exact hpq)).trans QB;have hv5:=(hu2.cell (p:=⟨p,5,none⟩) hps (by simp;exact hpq)).trans Vb
    have a4H:BN w2 h cb1 YF (.slice At ps1.length Ct) (.slice (some ⟨qa,0,none⟩) S.al.length Ca) (.slice (some ⟨q,0,none⟩) S.lv.length Cl) ps1 Xq kR { S with tr:=pad S.tr (t+1),lv:=Gs S.lv t (l.take (k+1)) }:=by
     rw [Bd hlt,ZA,HY.out];exact hH2
    have OB:=AX a4H;have HR2:=AX hr2;have Ej:=AX hU2;clear hu2 hH2 a4H hr2 hU2 hq1' zF Q5 Ue rV hp0 hp1 hp2 hp3 QB Vb Hr
    cases c
    ·have hnext:live S.al (l.take (k+1))=L:=by
      rw [Bd hlt,HY.out];unfold live;rw [I8,List.map_append];have:CW S.al [(y1,y2)] = []:=by unfold CW;rw [List.filter_cons,if_neg (by simpa using a0Z.out),List.filter_nil]
      rw [this];have:=HL.out;unfold live at this;simp [this]
     have QJ:=AX hnext;clear hnext;go_wp2_with fail
     go_quiet (fail)
     go_wp2_with fail
     go_roundg (gk - 1)
     case measure=>have:=HK.out;omega
     case rel=>
      refine ⟨k+1,A7,C7,Ac HK,by go_num,by rw [QJ.out],OB.out.upd ((Bj.refl [] w2).drewN _) (by intro P hP x hx;simp),?_,?_,Ej.out.drewN _⟩
      ·rw [QJ.out];exact HR2.out
      ·rw [QJ.out];exact nN.out
    ·have hnext:live S.al (l.take (k+1))=L++[y1]:=by
      rw [Bd hlt,HY.out];unfold live;rw [I8,List.map_append];have:CW S.al [(y1,y2)] = [(y1,y2)]:=by unfold CW;rw [List.filter_cons,if_pos a0Z.out,List.filter_nil]
      rw [this];have:=HL.out;unfold live at this;simp [this]
     have QJ:=AX hnext;have eY:=AX (Bh hsz1 hsz2);have zG:=AX HU.out.size;clear hnext;go_wp2_with fail
     go_quiet (fail)
     go_wp2_with (at_builtin;refine BM _ rfl _ _ 42 rfl 0 28 i1 (.agg #[.int .i64 0,.int .i64 0,.int .i64 0,.int .i64 0,.int .u32 0]) 5 40 Tryz.underlying42 hi1 hy0 hy1 hy2 rfl (by decide) _ _ _ rfl ((Bl (HR2.out) ((Bj.refl [] w2).drewN nq) (by simp)).alloc _) _ 1 [y1.x1,y1.x2,y1.y1,y1.y2,.int .u32 (y1.id:Int)] rfl (BK (w2.drewN nq) #[y1.x1,y1.x2,y1.y1,y1.y2,.int .u32 (y1.id:Int)] 28 5 1 rfl (by decide)) (by simp [Value.oneCell']) (by unfold maxLen;omega) (by omega) (Nat.zero_le _) ?_)
     intro A9 C9 w4 Va;have RD:Bj (blk (.slice A7 L.length C7)) w2 w4:=((Bj.refl _ _).drewN nq).trans' (((Bj.refl _ _).alloc _).trans Va.upd) (λx hx=>.inl hx)
     have Me:LP.row w4 0 (.slice A9 (L.length+1) C9) (L++[y1]):=by
      unfold Kind.row;rw [Kind.BZ,Bc];exact Va.own
     have a4I:∀x∈blk (.slice A9 (L.length+1) C9),W.heap.size<=x/\x∉F1:=by
      intro x hx;rcases Va.at with h' | h'
      ·rw [h'] at hx;exact nN.out x hx
      ·rw [h'] at hx;simp at hx;subst hx;have h1:=eY.out;have h2:=zG.out;refine ⟨by omega,λhc=>?_⟩
       rw [a2j.out] at hc;have e:=OB.out.lt;obtain ⟨P,hP,hx⟩:=List.mem_flatten.1 hc;simp only [parts,List.mem_cons] at hP;have:=BO.lt (hv:=.pointer (some h)) ⟨h,cb1,YF,_,_,_,_,_,_,rfl,OB.out,rfl⟩ _ hc;omega
     have hH9:=OB.out.upd RD (by
      intro P hP x hx hc;exact (nN.out x hc).2 (by rw [a2j.out];exact List.mem_flatten.2 ⟨P,hP,hx⟩))
     have hU9:Bj F W w4:=Ej.out.trans' RD (λx hx=>.inr (nN.out x hx).1);have HH9:=AX hH9;have zH:=AX Me;have HB9:=AX a4I;have kU:=AX hU9;clear Va RD Me a4I hH9 hU9;go_wp2_with fail
     go_roundg (gk - 1)
     case measure=>have:=HK.out;omega
     case rel=>
      refine ⟨k+1,A9,C9,Ac HK,by go_num,by rw [QJ.out,Bc];rfl,HH9.out,?_,?_,kU.out⟩
      ·rw [QJ.out,Bc];exact zH.out
      ·rw [QJ.out,Bc];exact HB9.out
   ·have hfull:l.take k=l:=List.take_of_length_le (by omega);have hH2:=QZ.out;have hL2:=HL.out;rw [hfull] at hH2 hL2;have htl:t<ps1.length:=by rw [hH2.Lc,OJ];omega
    obtain ⟨pt,hpt⟩:∃p,ps1[t]? = some p:=⟨_,Ba htl⟩;obtain ⟨q,hAt,hq1,a4J,hq2,OA⟩:=RU hH2.IV hpt;subst hAt;obtain ⟨hc0,_⟩:=hH2.cell;have hg1:=HGD.out;rw [<-hfull] at hg1;rw [HL.out] at hg1;have nY:=AX hg1;clear hpt hg1;obtain ⟨np,hnp⟩:=AU ps1.length;have hnt:=htl;rw [hnp] at hnt;have hpb:np<=2000:=by rw [<-hnp,hH2.Lc,OJ];omega
    rw [hnp] at hc3;have HH:=AX hH2;have ZW:=AX hL2;have b0:(0:Int)<=(t:Int):=AY _;have b1:(t:Int)<(np:Int):=by omega
    have HNP:=AX hnp;clear hH2 hL2 hfull hnp QZ hf3;have hc0':wr.cell? h=some (.func (.func 56) #[] #[]):=hc0;have hqh:q≠h:=λe=>HH.out.E5 (i:=2) (j:=0) rfl rfl (by omega) q (by simp [blk]) (by simp [e])
    have hhq:h≠q:=Ne.symm hqh;clear hc0 hc4 hc5;go_upto_region 11 with fail
    have hd0:wr.drew.cell? h=some (.func (.func 56) #[] #[]):=hc0';have hd3:wr.drew.cell? ⟨h,3,none⟩=some (.slice (some ⟨q,0,none⟩) np Ct):=hc3
    go_region_held3 (λw'=>w'.cell? h=some (.func (.func 56) #[] #[])/\w'.cell? ⟨h,3,none⟩=some (.slice (some ⟨q,0,none⟩) np Ct))
     (first
      |go_keep
      |(exact ⟨hd0,hd3⟩)
      |(exact ⟨(aV.cell (p:=⟨h,0,none⟩) hh2 (by simp)).trans hc0',(aV.cell (p:=⟨h,3,none⟩) hh2 (by simp)).trans hc3⟩))
     ((go_at_call 56;refine (a1Y _ L _ (See.BU (base:=0) (Bl KZ.out ((Bj.refl [] wr).drew) (by simp))) nY.1 nY.2).mono ?_;rintro e w5 ⟨tb,vb,Fb,rfl,rW,hge,aV⟩;have hst1:=(aV.cell (p:=⟨q,t*2,none⟩) OA (by simp)).trans hq1;have hst2:=(aV.frozen (p:=⟨q,t*2,none⟩) OA (by simp)).trans (hq2 _);have hst3:=(aV.cell (p:=⟨q,t*2+1,none⟩) OA (by simp)).trans a4J;have Oq:=(aV.frozen (p:=⟨q,t*2+1,none⟩) OA (by simp)).trans (hq2 _)))
    have hge':∀x∈Fb,wr.heap.size<=x:=hge;have a1a:Bj [] wr w5:=(Bj.refl [] wr).drew.trans aV;have h5:=HH.out.upd (G:=[]) (w':=w5) a1a (by intro P hP x hx;simp);obtain ⟨w6,hw6⟩:=AU ((w5.setCell ⟨q,t*2,none⟩ (.pointer (some tb))).setCell ⟨q,t*2+1,none⟩ (.map (some vb)))
    have h6:BN w6 h cb1 YF _ _ _ (ps1.set t (some tb,some vb)) Xq (kR.set t Fb) _:=hw6 ▸ h5.tree rfl (i:=t) (p:=(some tb,some vb)) (F:=Fb) (by show t<(pad S.tr (t+1)).length;rw [OJ];omega) (some (L.length,L)) (.inr ⟨_,rfl,rW⟩) (by
     intro P hP x hx hc;have h1:=hge' x hx;have h2:=HH.out.lt P hP x hc;omega)
    have L9:q∈F1:=HTF.out q (by simp [blk])
    have Jb:Bj F W w6:=by
     rw [<-hw6];exact Bj.setCell (Bj.setCell ((HU.out).trans' a1a (by simp)) (p:=⟨q,t*2,none⟩) (Zu.out q L9) _) (p:=⟨q,t*2+1,none⟩) (Zu.out q L9) _
    have hst:Cc W w6 (.pointer (some h)) F (Hf S t l):=by
     have hH6:BN w6 h cb1 YF (.slice (some ⟨q,0,none⟩) ps1.length Ct) (.slice Aa S.al.length Ca) (.slice Al S.lv.length Cl) (ps1.set t (some tb,some vb)) Xq (kR.set t Fb) (Hf S t l):=by
      unfold Hf;rw [ZW.out];exact h6
     refine ⟨_,⟨h,cb1,YF,_,_,_,_,Xq,_,rfl,hH6,rfl⟩,Jb,λx hx=>?_⟩
     have e:(parts h Xq (.slice (some ⟨q,0,none⟩) ps1.length Ct) (.slice Aa S.al.length Ca) (.slice Al S.lv.length Cl) YF (kR.set t Fb)).flatten=((parts h Xq (.slice (some ⟨q,0,none⟩) ps1.length Ct) (.slice Aa S.al.length Ca) (.slice Al S.lv.length Cl) YF kR).set (t+6) Fb).flatten:=by simp [parts]
     rw [e] at hx;rcases Ed hx with hx | hx
     ·rw [<-a2j.out] at hx;exact Zu.out x hx
     ·exact .inr (Bh HU.out.size (hge' x hx))
    rw [hw6];have HST:=AX hst;clear hst Jb h6 h5 hge' hge rW hst1 hst2 hst3 Oq;go_wp2_with fail
    go_end0
    exact ⟨rfl,by rw [RX.out];exact Ih.out _ _ HST.out⟩
