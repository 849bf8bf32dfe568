/- Half.fill. Printed by mkhg.py. -/
import Derived.Deep.DeepCutAuto
import Derived.Deep.CutBlock
import Derived.Deep.LoopGhost
import Derived.Deep.Light
import Derived.BigQuiet
import Derived.Deep.RegionHeld3
import Derived.Deep.QuietTactic
import Derived.Test.YtkbaaonchdeneaaGreatPk40
import Derived.Test.YtkbaaonchdeneaaGreatPk19
set_option maxHeartbeats 1000000
set_option maxRecDepth 100000
namespace Go.Proofs.YtkbaaonchdeneaaGreat.HSp
open Go.RowKit
theorem HalfAt.place {w w1:World} {h cb mb:Nat} {tv av lvv:Value} {ps:List TV} {Fc:List Nat} {Fs:List (List Nat)} {S:HS Sp} (H:HalfAt w h cb mb tv av lvv ps Fc Fs S) {wb:World} (hwb:Upd [] w wb) {A:Option Addr} {C:Nat}
 (HP:AppPost wb w1 0 125 2 tv ps.length (KT.all ps) 1 [.pointer none,.pointer none] A C) :
 HalfAt (w1.setCell ⟨h,3,none⟩ (.slice A (ps.length+1) C)) h cb mb (.slice A (ps.length+1) C) av lvv (ps++[(none,none)]) Fc (Fs++[[]]) { S with tr:=S.tr++[none] }∧
  Upd (h::blk tv) w (w1.setCell ⟨h,3,none⟩ (.slice A (ps.length+1) C)):=by
 have hup:Upd (blk tv) w w1:=(hwb.mono (by simp)).trans HP.upd
 have hht:h∉blk tv:=fun hc=>H.dis (i:=0) (j:=2) rfl rfl (by omega) h (by simp) hc
 have hh1:=(hup.block h (lt_of_block H.head) hht).trans H.head
 have hbt:∀x∈blk (.slice A (ps.length+1) C),x∈blk tv∨w.heap.size≤x:=by
  intro x hx
  rcases HP.at with h' | h'
  ·rw [h'] at hx;exact .inl hx
  ·rw [h'] at hx;have:=hwb.size;simp at hx;right;omega
 have hu:Upd (h::blk tv) w (w1.setCell ⟨h,3,none⟩ (.slice A (ps.length+1) C)):=
  (hup.mono (G:=h::blk tv) fun x hx=>.inl (by simp [hx])).setCell (p:=⟨h,3,none⟩) (.inl (by simp)) _
 refine ⟨H.trees hu ?_ ?_ hbt (by rw [List.length_append,List.length_append,H.plen];rfl) (by rw [List.length_append,List.length_append,H.flen];rfl) ?_ ?_ ?_ ?_,hu⟩
 ·have:=heap_setCell_same w1 h 3 _ _ (.slice A (ps.length+1) C) hh1
  simpa using this
 ·unfold ptrRow Kind.row
  rw [List.length_append,Kind.all_app]
  refine own_upd HP.own ((Upd.refl [h] w1).setCell (p:=⟨h,3,none⟩) (.inl (by simp)) _) fun x hx=>?_
  simp
  rintro rfl
  rcases hbt x hx with g | g
  ·exact hht g
  ·have:=lt_of_block H.head;omega
 ·intro i hi
  rcases Nat.lt_or_ge i S.tr.length with g | g
  ·rw [List.getElem?_append_left g] at hi
   rw [List.getElem?_append_left (by rw [H.flen];exact g)]
   exact H.no i hi
  ·rw [List.getElem?_append_right g] at hi
   rw [List.getElem?_append_right (by rw [H.flen];exact g),H.flen]
   rcases Nat.eq_zero_or_pos (i - S.tr.length) with g0 | g0
   ·rw [g0];rfl
   ·rw [List.getElem?_eq_none (by simp;omega)] at hi;cases hi
 ·intro i l hi
  have g:i<S.tr.length:=by
   refine Nat.lt_of_not_le fun g=>?_
   rw [List.getElem?_append_right g] at hi
   rcases Nat.eq_zero_or_pos (i - S.tr.length) with g0 | g0
   ·rw [g0] at hi;cases hi
   ·rw [List.getElem?_eq_none (by simp;omega)] at hi;cases hi
  rw [List.getElem?_append_left g] at hi
  exact ⟨hi,List.getElem?_append_left (by rw [H.plen];exact g),List.getElem?_append_left (by rw [H.flen];exact g)⟩
 ·have:=pw_snoc H.apart
  simpa [parts] using this
 ·intro F hF x hx
  rcases List.mem_append.1 hF with hF | hF
  ·exact H.ltF F hF x hx
  ·simp at hF;subst hF;simp at hx
theorem HalfAt.placed {w w1:World} {h cb mb:Nat} {tv av lvv:Value} {ps:List TV} {Fc:List Nat} {Fs:List (List Nat)} {S:HS Sp} (H:HalfAt w h cb mb tv av lvv ps Fc Fs S) {wb:World} (hwb:Upd [] w wb) {A:Option Addr} {C:Nat}
 (HP:AppPost wb w1 0 125 2 tv ps.length (KT.all ps) 1 [.pointer none,.pointer none] A C) :
 HStep w (w1.setCell ⟨h,3,none⟩ (.slice A (ps.length+1) C)) (.pointer (some ⟨h,0,none⟩)) (parts h Fc tv av lvv mb Fs).flatten { S with tr:=S.tr++[none] }:=by
 obtain ⟨g1,g2⟩:=H.place hwb HP
 refine ⟨_,⟨h,cb,mb,_,av,lvv,_,Fc,_,rfl,g1,rfl⟩,g2.mono fun x hx=>.inl ?_,fun x hx=>?_⟩
 ·rcases List.mem_cons.1 hx with rfl | hx
  ·exact mem_part (i:=0) (P:=[x]) rfl (by simp)
  ·exact mem_part (i:=2) rfl hx
 ·have e:(parts h Fc (.slice A (ps.length+1) C) av lvv mb (Fs++[[]])).flatten=((parts h Fc tv av lvv mb Fs).set 2 (blk (.slice A (ps.length+1) C))).flatten:=by simp [parts]
  rw [e] at hx
  rcases flat_set hx with hx | hx
  ·exact .inl hx
  ·rcases HP.at with h' | h'
   ·rw [h'] at hx;exact .inl (mem_part (i:=2) rfl hx)
   ·rw [h'] at hx;have:=hwb.size;simp at hx;right;omega
theorem replicate_step (tr:List (Option (Nat×List Sp))) (n:Nat):tr++List.replicate n none++[none]=tr++List.replicate (n+1) none:=by
 rw [List.append_assoc,List.replicate_succ']
theorem fillH (hv:Value) (F:List Nat) (S:HS Sp) (t:Nat) (v:Value) (l:List (Sp×Nat)) (w:World) (H:IsHalf w hv F S) (hs:CSp.Ints w v l) (hd:0<l.length→∀x∈blk v,x∉F) (ht:t<1000) (htr:S.tr.length<1000) (hn:∀y∈l,y.2<S.al.length)
 (hlv:S.lv.length=S.al.length) (hl:l.length<100000) (hgood:Good (live S.al l)) (hl1:(live S.al l).length≤1000) :
 Calls Tryz.prog 142 #[hv,.int .i64 t,v] w fun e w'=>e=.returned (.tuple #[])∧HStep w w' hv F (fillS S t l):=by
 obtain ⟨A,C,rfl⟩:=hs.form
 have hF0:=H.lt
 obtain ⟨h,cb,mb,tv,av,lvv,ps,Fc,Fs,rfl,H,rfl⟩:=H
 obtain ⟨i0,hi0,hz0,hz1,hz2⟩:=info_parts info_tree
 obtain ⟨i1,hi1,hy0,hy1,hy2⟩:=info_parts info_span
 obtain ⟨W,hW,hu0,hq0⟩:=one_newC w #[.pointer none,.pointer none] 125
 have HWD:=Lib.hid hW
 have HU0:=Lib.hid hu0
 have hqn:w.heap.size∉(parts h Fc tv av lvv mb Fs).flatten:=fun hc=>Nat.lt_irrefl _ (hF0 _ hc)
 have HH:=Lib.hid (H.upd hu0 (by intro P hP x hx;simp))
 have HS':=Lib.hid (hs.upd0 hu0)
 have HD:=Lib.hid hd
 have HN:=Lib.hid hn
 have HLV:=Lib.hid hlv
 have HGD:=Lib.hid (And.intro hgood hl1)
 have HQ0:=Lib.hid hq0
 clear H hs hd hn hlv hW hu0 hF0 hgood hl1 hq0
 obtain ⟨F,hF⟩:∃F,(parts h Fc tv av lvv mb Fs).flatten=F:=⟨_,rfl⟩
 have hd':=HD.out
 rw [hF] at hd' hqn
 clear HD
 have HD:=Lib.hid hd'
 have HFE:=Lib.hid hF
 have HQN:=Lib.hid hqn
 clear hF hd' hqn
 go_enter Tryz.func142,Tryz.ntmps142
 go_upto_block 0 with fail
 rw [←HWD.out]
 clear HWD
 obtain ⟨qn,hqe⟩:∃q,w.heap.size=q:=⟨_,rfl⟩
 rw [hqe] at HQ0 HQN ⊢
 have HQE:=Lib.hid hqe
 clear hqe
 have hfin:∀(w':World) (S':HS Sp),HStep W w' (.pointer (some ⟨h,0,none⟩)) F S'→HStep w w' (.pointer (some ⟨h,0,none⟩)) F S':=fun w' S' hst=>HStep.next (HU0.out.mono (by simp)) (fun x hx=>.inl hx) hst
 have HFIN:=Lib.hid hfin
 clear hfin
 go_cut [] (fun wc=>HStep W wc (.pointer (some ⟨h,0,none⟩)) F { S with tr:=pad S.tr (t+1) })
 case first=>
  go_wp2_with fail
  go_loopg [] (t+1 - S.tr.length) (fun m wr=>∃n,m+n=t+1 - S.tr.length∧HStep W wr (.pointer (some ⟨h,0,none⟩)) F { S with tr:=S.tr++List.replicate n none })
  case atStart=>exact ⟨0,rfl,by rw [←HFE.out];simpa using HStep.refl ⟨h,cb,mb,tv,av,lvv,ps,Fc,Fs,rfl,HH.out,rfl⟩⟩
  case round=>
   obtain ⟨n,hn,F1,⟨h1,cb1,mb1,tv1,av1,lv1,ps1,Fc1,Fs1,he,H1,rfl⟩,hu1,hF1⟩:=hrel
   cases he
   have hlen:ps1.length=S.tr.length+n:=by rw [H1.plen];simp
   obtain ⟨A1,C1,htv⟩:∃A C,tv1=.slice A ps1.length C:=own_form H1.trow
   subst htv
   obtain ⟨_,_,_,hc3,_,_,_,hfr⟩:=H1.cell
   have hf3:=hfr 3
   have hh1:h<wr.heap.size:=lt_of_block H1.head
   have hht:h∉blk (.slice A1 ps1.length C1):=fun hc=>H1.dis (i:=0) (j:=2) rfl rfl (by omega) h (by simp) hc
   obtain ⟨np,hnp⟩:∃np,ps1.length=np:=⟨_,rfl⟩
   rw [hnp] at hlen hc3 hht
   have hnb:np<3000:=by omega
   have HLEN:=Lib.hid hlen
   have HNP:=Lib.hid hnp
   have HN1:=Lib.hid hn
   have HH1:=Lib.hid H1
   have HU1:=Lib.hid hu1
   have HF1:=Lib.hid hF1
   clear hlen hnp hn H1 hu1 hF1 hfr
   have hqr:qn∉(parts h Fc1 (.slice A1 ps1.length C1) av1 lv1 mb1 Fs1).flatten:=fun hc=>by
    rcases HF1.out qn hc with g | g
    ·exact HQN.out g
    ·have:=HQ0.out.lt;omega
   obtain ⟨z0,z1⟩:=(HQ0.out.upd HU1.out HQN.out).cells2
   have hqs:qn<wr.heap.size:=(HQ0.out.upd HU1.out HQN.out).lt
   by_cases hlt:np≤t
   ·have hqt:qn∉blk (.slice A1 np C1):=fun hc=>hqr (by rw [HNP.out];exact mem_part (i:=2) rfl hc)
    have hrow0:wr.ownsRow 0 125 2 (.slice A1 np C1) np (KT.all ps1):=by have:=HH1.out.trow;unfold ptrRow Kind.row at this;rw [HNP.out] at this;exact this
    have HRW:=Lib.hid hrow0
    clear hrow0
    go_upto_region 2 with fail
    clear hqr
    have d3:∀o,(wr.alloc o).cell? ⟨h,3,none⟩=some (.slice A1 np C1):=fun o=>by rw [World.cell?_alloc_past _ _ _ hh1];exact hc3
    have d0:∀o,(wr.alloc o).cell? ⟨qn,0,none⟩=some (.pointer none):=fun o=>by rw [World.cell?_alloc_past _ _ _ hqs];exact z0
    have d1:∀o,(wr.alloc o).cell? ⟨qn,1,none⟩=some (.pointer none):=fun o=>by rw [World.cell?_alloc_past _ _ _ hqs];exact z1
    have df:∀o,(wr.alloc o).frozen? ⟨h,3,none⟩=false:=fun o=>by rw [World.frozen?_alloc_past _ _ _ hh1];exact hf3
    have e3:∀o,h<(wr.alloc o).heap.size:=fun o=>by simp;omega
    have e4:∀o,qn<(wr.alloc o).heap.size:=fun o=>by simp;omega
    refine GoT.start [7,8,9,10] (fun w'=>Upd [] wr w') (by kernel_rfl) ?_ fun hS=>?_
    ·exact (Upd.refl [] wr).drew
    refine' GoT.mv (i:=0) (oi:=⟨some 17,_,_,_,_,_⟩) rfl (by rfl) ?y2_0 ?_
    case y2_0=>intro w;go_simp<;>with_reducible rfl
    simp only [Act.put,sA,sZ,sS]
    refine' GoT.mv (i:=1) (oi:=⟨some 18,_,_,_,_,_⟩) rfl (by rfl) ?y2_1 ?_
    case y2_1=>intro w;go_simp<;>with_reducible rfl
    simp only [Act.put,sA,sZ,sS]
    refine' GoT.mv (i:=2) (oi:=⟨some 19,_,_,_,_,_⟩) rfl (by rfl) ?y2_2 ?_
    case y2_2=>intro w;go_simp<;>with_reducible rfl
    simp only [Act.put,sA,sZ,sS]
    refine' GoT.mv (i:=3) (oi:=⟨some 20,_,_,_,_,_⟩) rfl (by rfl) ?y2_3 ?_
    case y2_3=>intro w;go_simp<;>with_reducible rfl
    simp only [Act.put,sA,sZ,sS]
    refine' GoT.tk 2 (i:=4) (oi:=⟨some 21,_,_,_,_,_⟩) rfl (by rfl) ?y2_4 ?_
    case y2_4=>intro w hSw;have c3:=(hSw.cell hh1 (by simp)).trans hc3;have c0:=(hSw.cell hqs (by simp)).trans z0;have c1:=(hSw.cell hqs (by simp)).trans z1;go_simp<;>with_reducible rfl
    simp only [Act.put,sA,sZ,sS]
    refine' GoT.tk 2 (i:=5) (oi:=⟨some 22,_,_,_,_,_⟩) rfl (by rfl) ?y2_5 ?_
    case y2_5=>intro w hSw;have c3:=(hSw.cell hh1 (by simp)).trans hc3;have c0:=(hSw.cell hqs (by simp)).trans z0;have c1:=(hSw.cell hqs (by simp)).trans z1;go_simp<;>with_reducible rfl
    simp only [Act.put,sA,sZ,sS]
    refine GoT.one (i:=6) (o:=⟨some 23,_,_,_,_,_⟩) rfl (by kernel_rfl) fun K hK=>?_
    go_simp
    refine hK.out _ _ (fun _ h=>?_) ?_
    ·exact h.alloc _
    clear hK K
    try simp only [Act.put,sA,sZ,sS]
    refine GoT.one (i:=7) (o:=⟨some 24,_,_,_,_,_⟩) rfl (by kernel_rfl) fun K hK=>?_
    rw [if_pos (by simp [Region.wanted])]
    refine wp_app _ _ _ 129 (by rfl) 0 125 i0 (.agg #[.pointer none,.pointer none]) 2 16 Tryz.underlying129 hi0 hz0 hz1 hz2 rfl (by decide) (.slice A1 np C1) np (KT.all ps1) (by rfl) (HRW.out.alloc _) _ 1 [.pointer none,.pointer none] (by rfl) (sees_lit wr.drew #[.pointer none,.pointer none] 125 2 1 rfl (by decide)) (by simp [Value.oneCell']) (by unfold maxLen;omega) (by omega) (Nat.zero_le _) ?_
    intro A2 C2 w1 HP
    have hst1:=((HP.upd).cell (p:=⟨h,3,none⟩) (e3 _) hht).trans (d3 _)
    have hst2:=((HP.upd).frozen (p:=⟨h,3,none⟩) (e3 _) hht).trans (df _)
    refine hK.out _ _ (fun h=>(by cases h)) ?_
    clear hK K
    try simp only [Act.put,sA,sZ,sS]
    refine' GoT.mv (i:=8) (oi:=⟨some 25,_,_,_,_,_⟩) rfl (by rfl) ?y2_8 ?_
    case y2_8=>intro w;go_simp<;>with_reducible rfl
    simp only [Act.put,sA,sZ,sS]
    refine' GoT.mv (i:=9) (oi:=⟨some 26,_,_,_,_,_⟩) rfl (by rfl) ?y2_9 ?_
    case y2_9=>intro w;go_simp<;>with_reducible rfl
    simp only [Act.put,sA,sZ,sS]
    refine GoT.one (i:=10) (o:=⟨none,_,_,_,_,_⟩) rfl (by kernel_rfl) fun K hK=>?_
    go_simp
    refine hK.out _ _ (fun h=>(by cases h)) ?_
    clear hK K
    try simp only [Act.put]
    refine GoT.done (by kernel_rfl) ?_
    have hpl:=HH1.out.placed (wb:=wr.drew.alloc (.cells #[.pointer none,.pointer none] 125)) (((Upd.refl _ _).drew).alloc _) (A:=A2) (C:=C2) (w1:=w1) (by rw [HNP.out];exact HP)
    rw [HNP.out] at hpl
    have HPL:=Lib.hid hpl
    clear HP hpl hst1 hst2 d3 d0 d1 df e3 e4 hS
    go_wp2_with fail
    go_roundg (gk - 1)
    case measure=>have:=HN1.out;have:=HLEN.out;omega
    case rel=>
     have hF1:=HF1.out
     rw [HNP.out] at hF1
     have hst:=HStep.next HU1.out hF1 HPL.out
     simp only [replicate_step] at hst
     exact ⟨n+1,by have:=HN1.out;have:=HLEN.out;omega,hst⟩
   ·go_wp2_with fail
    go_meet
    case rel=>
     have hm:n=t+1 - S.tr.length:=by have:=HN1.out;have:=HLEN.out;omega
     subst hm
     exact ⟨_,⟨h,cb1,mb1,_,av1,lv1,_,Fc1,_,rfl,HH1.out,rfl⟩,HU1.out,HF1.out⟩
 case rest=>
  obtain ⟨F1,⟨h1,cb1,mb1,tv1,av1,lv1,ps1,Fc1,Fs1,he,H1,hFe⟩,hu1,hF1⟩:=hcut
  cases he
  obtain ⟨At,Ct,htv⟩:∃A C,tv1=.slice A ps1.length C:=own_form H1.trow
  obtain ⟨Aa,Ca,hav⟩:∃A C,av1=.slice A S.al.length C:=own_form H1.arow
  obtain ⟨Al,Cl,hlv1⟩:∃A C,lv1=.slice A S.lv.length C:=own_form H1.lrow
  subst htv hav hlv1
  have hhF:h∈F1:=by rw [hFe];exact mem_part (i:=0) (P:=[h]) rfl (by simp)
  have hlF:∀x∈blk (.slice Al S.lv.length Cl),x∈F1:=fun x hx=>by rw [hFe];exact mem_part (i:=4) rfl hx
  have haF:∀x∈blk (.slice Aa S.al.length Ca),x∈F1:=fun x hx=>by rw [hFe];exact mem_part (i:=3) rfl hx
  have htF:∀x∈blk (.slice At ps1.length Ct),x∈F1:=fun x hx=>by rw [hFe];exact mem_part (i:=2) rfl hx
  have HFE1:=Lib.hid hFe
  have HH1:=Lib.hid H1
  have HU1:=Lib.hid hu1
  have HF1:=Lib.hid hF1
  have HLF:=Lib.hid hlF
  have HAF:=Lib.hid haF
  have HTF:=Lib.hid htF
  clear hFe H1 hu1 hF1 hlF haF htF
  go_wp2_with fail
  go_loopg [7,29] l.length (fun m s7 i wr=>∃k A7 C7,m+k=l.length∧i=.int .i64 (k:Int)∧s7=.slice A7 (live S.al (l.take k)).length C7∧
   HalfAt wr h cb1 mb1 (.slice At ps1.length Ct) (.slice Aa S.al.length Ca) (.slice Al S.lv.length Cl) ps1 Fc1 Fs1 { S with tr:=pad S.tr (t+1),lv:=lvSet S.lv t (l.take k) }∧KSp.row wr 0 (.slice A7 (live S.al (l.take k)).length C7) (live S.al (l.take k))∧
   (∀x∈blk (.slice A7 (live S.al (l.take k)).length C7),W.heap.size≤x∧x∉F1)∧Upd F W wr)
  case atStart=>exact ⟨0,none,0,rfl,rfl,rfl,HH1.out,World.ownsRow_nil _ _ _ _,by simp [blk],HU1.out⟩
  case round=>
   obtain ⟨k,A7,C7,hk,rfl,rfl,H2,hrow,hbl,hu⟩:=hrel
   have hkm:k≤l.length:=by omega
   obtain ⟨L,hL⟩:∃L,live S.al (l.take k)=L:=⟨_,rfl⟩
   rw [hL] at hrow hbl ⊢
   have hLl:L.length≤k:=by
    rw [←hL]
    unfold live liv
    rw [List.length_map]
    exact Nat.le_trans (List.length_filter_le _ _) (by rw [List.length_take];omega)
   obtain ⟨_,_,_,hc3,hc4,hc5,_,hfr⟩:=H2.cell
   have hf3:=hfr 3
   have hh2:h<wr.heap.size:=lt_of_block H2.head
   have HK:=Lib.hid hk
   have HL:=Lib.hid hL
   have HH2:=Lib.hid H2
   have HROW:=Lib.hid hrow
   have HBL:=Lib.hid hbl
   have HU:=Lib.hid hu
   clear hk hL H2 hrow hbl hu hfr
   by_cases hlt:k<l.length
   ·obtain ⟨bb,oo,hB,hcy0,hcy1,hcy2,hcy3⟩:=(HS'.out.upd HU.out fun h0 x hx _=>HD.out h0 x hx).cell (k:=k) hlt
    subst hB
    obtain ⟨y,hy⟩:∃y,l[k]=y:=⟨_,rfl⟩
    have hyn:=HN.out l[k] (List.getElem_mem _)
    rw [hy] at hcy0 hcy1 hcy2 hcy3 hyn
    have hyl:y.2<(lvSet S.lv t (l.take k)).length:=by rw [lvSet_len,HLV.out];exact hyn
    obtain ⟨q,hAl,hq1,hq2,_,hqs⟩:=own_at HH2.out.lrow hyl (u:=.int .i64 ((lvSet S.lv t (l.take k))[y.2]:Int)) (by simp [hyl])
    subst hAl
    obtain ⟨qa,hAa,hqa1,hqa2,_,hqas⟩:=own_at HH2.out.arow hyn (u:=.bool (S.al[y.2])) (by simp [hyn])
    subst hAa
    have hcond:S.al.getD y.2 false=S.al[y.2]:=by simp [List.getD,hyn]
    obtain ⟨z,hz⟩:∃z,(lvSet S.lv t (l.take k))[y.2]=z:=⟨_,rfl⟩
    obtain ⟨c,hc⟩:∃c,S.al[y.2]=c:=⟨_,rfl⟩
    rw [hz] at hq1
    rw [hc] at hqa1 hcond
    obtain ⟨y1,y2⟩:=y
    dsimp only at hcy0 hcy1 hcy2 hcy3 hyn hyl hq1 hq2 hqa1 hqa2 hcond
    have hyn2:y2<S.lv.length:=by rw [HLV.out];exact hyn
    have HCOND:=Lib.hid hcond
    have HY:=Lib.hid hy
    clear hy hz hc hcond
    have b0:(0:Int)≤(k:Int):=Int.natCast_nonneg _
    have b1:(k:Int)<(l.length:Int):=by omega
    have b2:(0:Int)≤(y2:Int):=Int.natCast_nonneg _
    have b3:(y2:Int)<(S.al.length:Int):=by omega
    have b4:(y2:Int)<(S.lv.length:Int):=by omega
    go_upto_region 7 with fail
    obtain ⟨p,hp⟩:∃p,wr.heap.size=p:=⟨_,rfl⟩
    have hua:Upd [] wr (wr.alloc (.cells #[.int .i64 y1.lo,.int .i64 y1.hi,.int .u32 (y1.id:Int),.int .i64 (y2:Int)] 200)):=(Upd.refl _ _).alloc _
    have hp0:(wr.alloc (.cells #[.int .i64 y1.lo,.int .i64 y1.hi,.int .u32 (y1.id:Int),.int .i64 (y2:Int)] 200)).cell? ⟨wr.heap.size,0,none⟩=some (.int .i64 y1.lo):=by rw [World.cell?_alloc_at _ _ _ _ rfl];rfl
    have hp1:(wr.alloc (.cells #[.int .i64 y1.lo,.int .i64 y1.hi,.int .u32 (y1.id:Int),.int .i64 (y2:Int)] 200)).cell? ⟨wr.heap.size,1,none⟩=some (.int .i64 y1.hi):=by rw [World.cell?_alloc_at _ _ _ _ rfl];rfl
    have hp2:(wr.alloc (.cells #[.int .i64 y1.lo,.int .i64 y1.hi,.int .u32 (y1.id:Int),.int .i64 (y2:Int)] 200)).cell? ⟨wr.heap.size,2,none⟩=some (.int .u32 (y1.id:Int)):=by rw [World.cell?_alloc_at _ _ _ _ rfl];rfl
    have hp3:(wr.alloc (.cells #[.int .i64 y1.lo,.int .i64 y1.hi,.int .u32 (y1.id:Int),.int .i64 (y2:Int)] 200)).cell? ⟨wr.heap.size,3,none⟩=some (.int .i64 (y2:Int)):=by rw [World.cell?_alloc_at _ _ _ _ rfl];rfl
    have hps:wr.heap.size<(wr.alloc (.cells #[.int .i64 y1.lo,.int .i64 y1.hi,.int .u32 (y1.id:Int),.int .i64 (y2:Int)] 200)).heap.size:=by simp
    generalize (wr.alloc (.cells #[.int .i64 y1.lo,.int .i64 y1.hi,.int .u32 (y1.id:Int),.int .i64 (y2:Int)] 200))=w1 at *
    have hc4':=(hua.cell (p:=⟨h,4,none⟩) hh2 (by simp)).trans hc4
    have hc5':=(hua.cell (p:=⟨h,5,none⟩) hh2 (by simp)).trans hc5
    have hq1':=(hua.cell (p:=⟨q,y2,none⟩) hqs (by simp)).trans hq1
    have hq2':=(hua.frozen (p:=⟨q,y2,none⟩) hqs (by simp)).trans hq2
    have hqa1':=(hua.cell (p:=⟨qa,y2,none⟩) hqas (by simp)).trans hqa1
    rw [hp] at hp0 hp1 hp2 hp3 hps ⊢
    have hpq:p≠q:=by omega
    have hpqa:p≠qa:=by omega
    have hph:p≠h:=by omega
    have hqh:q≠h:=fun e=>HH2.out.dis (i:=4) (j:=0) rfl rfl (by omega) q (by simp [blk]) (by simp [e])
    have hqqa:q≠qa:=fun e=>HH2.out.dis (i:=4) (j:=3) rfl rfl (by omega) q (by simp [blk]) (by simp [blk,e])
    have HP:=Lib.hid hp
    have HUA:=Lib.hid hua
    clear hp hua hc3 hc4 hc5 hf3 hq1 hq2 hqa1 hqa2
    go_region
    have hu2:Upd [q] w1 (w1.setCell ⟨q,y2,none⟩ (.int .i64 (t:Int))).drew:=((Upd.refl [q] w1).setCell (p:=⟨q,y2,none⟩) (.inl (by simp)) _).drew
    have hqF:q∈F1:=HLF.out q (by simp [blk])
    have hH2:=((HH2.out.upd HUA.out (by intro P hP x hx;simp)).lev rfl y2 t).upd ((Upd.refl [] (w1.setCell ⟨q,y2,none⟩ (.int .i64 (t:Int)))).drew) (by intro P hP x hx;simp)
    have hr2:KSp.row (w1.setCell ⟨q,y2,none⟩ (.int .i64 (t:Int))).drew 0 (.slice A7 L.length C7) L:=own_upd (own_upd HROW.out HUA.out (by simp)) hu2 (fun x hx hc=>(HBL.out x hx).2 (by simp at hc;rw [hc];exact hqF))
    have hU2:Upd F W (w1.setCell ⟨q,y2,none⟩ (.int .i64 (t:Int))).drew:=(HU.out.trans' HUA.out (by simp)).trans' hu2 (fun x hx=>by simp at hx;rw [hx];exact HF1.out q hqF)
    have hsz1:=HUA.out.size
    generalize (w1.setCell ⟨q,y2,none⟩ (.int .i64 (t:Int))).drew=w2 at *
    have hsz2:=hu2.size
    have hc4:=(hu2.cell (p:=⟨h,4,none⟩) (show h<_ by omega) (by simp;exact Ne.symm hqh)).trans hc4'
    have hqa:=(hu2.cell (p:=⟨qa,y2,none⟩) (show qa<_ by omega) (by simp;exact Ne.symm hqqa)).trans hqa1'
    have hv0:=(hu2.cell (p:=⟨p,0,none⟩) hps (by simp;exact hpq)).trans hp0
    have hv1:=(hu2.cell (p:=⟨p,1,none⟩) hps (by simp;exact hpq)).trans hp1
    have hv2:=(hu2.cell (p:=⟨p,2,none⟩) hps (by simp;exact hpq)).trans hp2
    have hv3:=(hu2.cell (p:=⟨p,3,none⟩) hps (by simp;exact hpq)).trans hp3
    have hH2':HalfAt w2 h cb1 mb1 (.slice At ps1.length Ct) (.slice (some ⟨qa,0,none⟩) S.al.length Ca) (.slice (some ⟨q,0,none⟩) S.lv.length Cl) ps1 Fc1 Fs1 { S with tr:=pad S.tr (t+1),lv:=lvSet S.lv t (l.take (k+1)) }:=by
     rw [List.take_succ_eq_append_getElem hlt,lvSet_snoc,HY.out]
     exact hH2
    have HH3:=Lib.hid hH2'
    have HR2:=Lib.hid hr2
    have HU2:=Lib.hid hU2
    clear hu2 hH2 hH2' hr2 hU2 hq1' hq2' hqa1' hc4' hc5' hp0 hp1 hp2 hp3 HUA
    cases c
    ·have hnext:live S.al (l.take (k+1))=L:=by
      rw [List.take_succ_eq_append_getElem hlt,HY.out]
      unfold live
      rw [liv_app,List.map_append]
      have:liv S.al [(y1,y2)] = []:=by unfold liv;rw [List.filter_cons,if_neg (by simpa using HCOND.out),List.filter_nil]
      rw [this]
      have:=HL.out
      unfold live at this
      simp [this]
     have HNX:=Lib.hid hnext
     clear hnext
     go_wp2_with fail
     go_quiet (fail)
     go_wp2_with fail
     go_roundg (gk - 1)
     case measure=>have:=HK.out;omega
     case rel=>
      refine ⟨k+1,A7,C7,by have:=HK.out;omega,by go_num,by rw [HNX.out],HH3.out.upd ((Upd.refl [] w2).drewN _) (by intro P hP x hx;simp),?_,?_,HU2.out.drewN _⟩
      ·rw [HNX.out];exact HR2.out
      ·rw [HNX.out];exact HBL.out
    ·have hnext:live S.al (l.take (k+1))=L++[y1]:=by
      rw [List.take_succ_eq_append_getElem hlt,HY.out]
      unfold live
      rw [liv_app,List.map_append]
      have:liv S.al [(y1,y2)] = [(y1,y2)]:=by unfold liv;rw [List.filter_cons,if_pos HCOND.out,List.filter_nil]
      rw [this]
      have:=HL.out
      unfold live at this
      simp [this]
     have HNX:=Lib.hid hnext
     have HSZ:=Lib.hid (Nat.le_trans hsz1 hsz2)
     have HWS:=Lib.hid HU.out.size
     clear hnext
     go_wp2_with fail
     go_quiet (fail)
     go_wp2_with (at_builtin;refine wpList_app _ rfl _ _ 56 rfl 0 62 i1 (.agg #[.int .i64 0,.int .i64 0,.int .u32 0]) 3 24 Tryz.underlying56 hi1 hy0 hy1 hy2 rfl (by decide) _ _ _ rfl ((own_upd (HR2.out) ((Upd.refl [] w2).drewN nq) (by simp)).alloc _) _ 1 [.int .i64 y1.lo,.int .i64 y1.hi,.int .u32 (y1.id:Int)] rfl (sees_lit (w2.drewN nq) #[.int .i64 y1.lo,.int .i64 y1.hi,.int .u32 (y1.id:Int)] 62 3 1 rfl (by decide)) (by simp [Value.oneCell']) (by unfold maxLen;omega) (by omega) (Nat.zero_le _) ?_)
     intro A9 C9 w4 HP9
     have hup9:Upd (blk (.slice A7 L.length C7)) w2 w4:=((Upd.refl _ _).drewN nq).trans' (((Upd.refl _ _).alloc _).trans HP9.upd) (fun x hx=>.inl hx)
     have hrow9:KSp.row w4 0 (.slice A9 (L.length+1) C9) (L++[y1]):=by
      unfold Kind.row
      rw [Kind.all_app,List.length_append]
      exact HP9.own
     have hbl9:∀x∈blk (.slice A9 (L.length+1) C9),W.heap.size≤x∧x∉F1:=by
      intro x hx
      rcases HP9.at with h' | h'
      ·rw [h'] at hx;exact HBL.out x hx
      ·rw [h'] at hx
       simp at hx
       subst hx
       have h1:=HSZ.out
       have h2:=HWS.out
       refine ⟨by omega,fun hc=>?_⟩
       rw [HFE1.out] at hc
       have e:=HH3.out.lt
       obtain ⟨P,hP,hx⟩:=List.mem_flatten.1 hc
       simp only [parts,List.mem_cons] at hP
       have:=IsHalf.lt (hv:=.pointer (some ⟨h,0,none⟩)) ⟨h,cb1,mb1,_,_,_,_,_,_,rfl,HH3.out,rfl⟩ _ hc
       omega
     have hH9:=HH3.out.upd hup9 (by
      intro P hP x hx hc
      exact (HBL.out x hc).2 (by rw [HFE1.out];exact List.mem_flatten.2 ⟨P,hP,hx⟩))
     have hU9:Upd F W w4:=HU2.out.trans' hup9 (fun x hx=>.inr (HBL.out x hx).1)
     have HH9:=Lib.hid hH9
     have HR9:=Lib.hid hrow9
     have HB9:=Lib.hid hbl9
     have HU9:=Lib.hid hU9
     clear HP9 hup9 hrow9 hbl9 hH9 hU9
     go_wp2_with fail
     go_roundg (gk - 1)
     case measure=>have:=HK.out;omega
     case rel=>
      refine ⟨k+1,A9,C9,by have:=HK.out;omega,by go_num,by rw [HNX.out,List.length_append];rfl,HH9.out,?_,?_,HU9.out⟩
      ·rw [HNX.out,List.length_append];exact HR9.out
      ·rw [HNX.out,List.length_append];exact HB9.out
   ·have hfull:l.take k=l:=List.take_of_length_le (by omega)
    have hH2:=HH2.out
    have hL2:=HL.out
    rw [hfull] at hH2 hL2
    have htl:t<ps1.length:=by rw [hH2.plen,pad_len];omega
    obtain ⟨pt,hpt⟩:∃p,ps1[t]? = some p:=⟨_,List.getElem?_eq_getElem htl⟩
    obtain ⟨q,hAt,hq1,hq1b,hq2,hqs⟩:=tree_at hH2.trow hpt
    subst hAt
    obtain ⟨hc0,_⟩:=hH2.cell
    have hg1:=HGD.out
    rw [←hfull] at hg1
    rw [HL.out] at hg1
    have HG1:=Lib.hid hg1
    clear hpt hg1
    obtain ⟨np,hnp⟩:∃np,ps1.length=np:=⟨_,rfl⟩
    have hnt:=htl
    rw [hnp] at hnt
    have hpb:np≤2000:=by rw [←hnp,hH2.plen,pad_len];omega
    rw [hnp] at hc3
    have HH:=Lib.hid hH2
    have HLL:=Lib.hid hL2
    have b0:(0:Int)≤(t:Int):=Int.natCast_nonneg _
    have b1:(t:Int)<(np:Int):=by omega
    have HNP:=Lib.hid hnp
    clear hH2 hL2 hfull hnp HH2 hf3
    have hc0':wr.cell? ⟨h,0,none⟩=some (.func (.func 79) #[] #[]):=hc0
    have hqh:q≠h:=fun e=>HH.out.dis (i:=2) (j:=0) rfl rfl (by omega) q (by simp [blk]) (by simp [e])
    have hhq:h≠q:=Ne.symm hqh
    clear hc0 hc4 hc5
    go_upto_region 11 with fail
    have hd0:wr.drew.cell? ⟨h,0,none⟩=some (.func (.func 79) #[] #[]):=hc0'
    have hd3:wr.drew.cell? ⟨h,3,none⟩=some (.slice (some ⟨q,0,none⟩) np Ct):=hc3
    go_region_held3 (fun w'=>w'.cell? ⟨h,0,none⟩=some (.func (.func 79) #[] #[])∧w'.cell? ⟨h,3,none⟩=some (.slice (some ⟨q,0,none⟩) np Ct))
     (first
      |go_keep
      |(exact ⟨hd0,hd3⟩)
      |(exact ⟨(hupb.cell (p:=⟨h,0,none⟩) hh2 (by simp)).trans hc0',(hupb.cell (p:=⟨h,3,none⟩) hh2 (by simp)).trans hc3⟩))
     ((go_at_call 79;refine (buildT _ L _ (See.of_row (base:=0) (own_upd HROW.out ((Upd.refl [] wr).drew) (by simp))) HG1.out.1 HG1.out.2).mono ?_;rintro e w5 ⟨tb,vb,Fb,rfl,hbag,hge,hupb⟩;have hst1:=(hupb.cell (p:=⟨q,t*2,none⟩) hqs (by simp)).trans hq1;have hst2:=(hupb.frozen (p:=⟨q,t*2,none⟩) hqs (by simp)).trans (hq2 _);have hst3:=(hupb.cell (p:=⟨q,t*2+1,none⟩) hqs (by simp)).trans hq1b;have hst4:=(hupb.frozen (p:=⟨q,t*2+1,none⟩) hqs (by simp)).trans (hq2 _)))
    have hge':∀x∈Fb,wr.heap.size≤x:=hge
    have hupb':Upd [] wr w5:=(Upd.refl [] wr).drew.trans hupb
    have h5:=HH.out.upd (G:=[]) (w':=w5) hupb' (by intro P hP x hx;simp)
    obtain ⟨w6,hw6⟩:∃w6,(w5.setCell ⟨q,t*2,none⟩ (.pointer (some ⟨tb,0,none⟩))).setCell ⟨q,t*2+1,none⟩ (.pointer (some ⟨vb,0,none⟩))=w6:=⟨_,rfl⟩
    have h6:HalfAt w6 h cb1 mb1 _ _ _ (ps1.set t (some tb,some vb)) Fc1 (Fs1.set t Fb) _:=hw6 ▸ h5.tree rfl (i:=t) (p:=(some tb,some vb)) (F:=Fb) (by show t<(pad S.tr (t+1)).length;rw [pad_len];omega) (some (L.length,L)) (.inr ⟨_,rfl,hbag⟩) (by
     intro P hP x hx hc
     have h1:=hge' x hx
     have h2:=HH.out.lt P hP x hc
     omega)
    have hqF:q∈F1:=HTF.out q (by simp [blk])
    have hu6:Upd F W w6:=by
     rw [←hw6]
     exact Upd.setCell (Upd.setCell ((HU.out).trans' hupb' (by simp)) (p:=⟨q,t*2,none⟩) (HF1.out q hqF) _) (p:=⟨q,t*2+1,none⟩) (HF1.out q hqF) _
    have hst:HStep W w6 (.pointer (some ⟨h,0,none⟩)) F (fillS S t l):=by
     have hH6:HalfAt w6 h cb1 mb1 (.slice (some ⟨q,0,none⟩) ps1.length Ct) (.slice Aa S.al.length Ca) (.slice Al S.lv.length Cl) (ps1.set t (some tb,some vb)) Fc1 (Fs1.set t Fb) (fillS S t l):=by
      unfold fillS
      rw [HLL.out]
      exact h6
     refine ⟨_,⟨h,cb1,mb1,_,_,_,_,Fc1,_,rfl,hH6,rfl⟩,hu6,fun x hx=>?_⟩
     have e:(parts h Fc1 (.slice (some ⟨q,0,none⟩) ps1.length Ct) (.slice Aa S.al.length Ca) (.slice Al S.lv.length Cl) mb1 (Fs1.set t Fb)).flatten=((parts h Fc1 (.slice (some ⟨q,0,none⟩) ps1.length Ct) (.slice Aa S.al.length Ca) (.slice Al S.lv.length Cl) mb1 Fs1).set (t+6) Fb).flatten:=by simp [parts]
     rw [e] at hx
     rcases flat_set hx with hx | hx
     ·rw [←HFE1.out] at hx;exact HF1.out x hx
     ·exact .inr (Nat.le_trans HU.out.size (hge' x hx))
    rw [hw6]
    have HST:=Lib.hid hst
    clear hst hu6 h6 h5 hge' hge hbag hst1 hst2 hst3 hst4
    go_wp2_with fail
    go_end0
    exact ⟨rfl,by rw [HFE.out];exact HFIN.out _ _ HST.out⟩
end Go.Proofs.YtkbaaonchdeneaaGreat.HSp
