/- names' Put, of a new name: the walk. Printed by genNmL.py. names' Drop. names' Put and Drop, by what a name's place is. -/
import Derived.IntWalk
import Derived.Test.YtkbaaonchdeneaaGreatPkSpansTellP8
set_option maxHeartbeats 8000000
set_option maxRecDepth 100000
namespace Go.Proofs.YtkbaaonchdeneaaGreat.Nm
open Go.RowKit
attribute [local go_sem ↓] Go.wp_at_zero Go.wp_at_succ
def S1 (S:NS) (p:Nat):NS:={ S with al:=S.al++[true],pl:=S.pl++[p],n:=S.n+1 }
theorem putNew (tv:Value) (F:List Nat) (S:NS) (x p:Nat) (w:World) (H:IsNm w tv F S) (I:NInv S) (hal:S.al.length<90000) (hw:S.wk<549755813888) (hk:S.cs.lookup x=none) :
 Calls Tryz.prog 72 #[tv,.int .u32 (x:Int),.int .i64 (p:Int)] w fun e w'=>e=.returned (.int .i64 0)∧NmStep w w' tv F (pushS S x p):=by
 have hlen:=I.len
 have hl:S.cs.length<90000:=by omega
 have hn:S.n<100000:=by rw [I.cnt];have:=List.count_le_length (a:=true) (l:=S.al);omega
 have HN:=Lib.hid (noneN tv F w H)
 have hfc:=findC tv F S x w H I hl
 unfold FindPost at hfc
 rw [hk] at hfc
 have HF:=Lib.hid hfc
 have HH:=Lib.hid H
 have HI:=Lib.hid I
 obtain ⟨q,cb,vb,vp,va,vs,bk,Fc,rfl,-⟩:=H
 have hd:numV none = -1:=rfl
 rw [hd] at HF
 clear I hk hfc hd
 go_enter Tryz.func72,Tryz.ntmps72
 go_wp2_with fail
 (with_reducible refine HN.out.mono ?_)
 rintro e w' ⟨rfl,rfl⟩
 go_wp2_with fail
 (with_reducible refine HF.out.mono ?_)
 rintro e w1 ⟨t0,rfl,ht0,hu⟩
 obtain ⟨q,cb,vb,vp,va,vs,bk,Fc,he,H1,hb,hF⟩:=HH.out.upd hu (by simp)
 cases he
 obtain ⟨A0,C0,hav⟩:∃A C,va=.slice A S.al.length C:=own_form H1.arow
 obtain ⟨A9,C9,hpv⟩:∃A C,vp=.slice A S.pl.length C:=own_form H1.prow
 subst hav hpv
 obtain ⟨-,-,-,-,h4,hfr⟩:=H1.cell
 have hf4:=hfr 4
 have n0:(0:Int)≤(S.n:Int):=Int.natCast_nonneg _
 have n1:(S.n:Int)<100000:=by omega
 have HU:=Lib.hid hu
 have HB:=Lib.hid hb
 have HFE:=Lib.hid hF
 have hH2:=H1.count (S.n+1)
 have he:Value.int .i64 ((S.n+1:Nat):Int)=Value.int .i64 ((S.n:Int)+1):=by congr 1
 rw [he] at hH2
 have hu2:Upd [q] w1 (w1.setCell ⟨q,4,none⟩ (.int .i64 ((S.n:Int)+1))):=(Upd.refl _ _).setCell (p:=⟨q,4,none⟩) (.inl (by simp)) _
 have HU2:=Lib.hid hu2
 obtain ⟨c0,-,c2,c3,-,-⟩:=hH2.cell
 have HH2:=Lib.hid hH2
 have hqs:q<w1.heap.size:=H1.head.lt
 clear hu hb hF hfr hu2 hH2 H1
 dsimp only
 go_upto_region 7 with fail
 obtain ⟨w2,hw2⟩:∃W,W=w1.setCell ⟨q,4,none⟩ (.int .i64 ((S.n:Int)+1)):=⟨_,rfl⟩
 rw [←hw2] at HU2 HH2 c0 c2 c3 ⊢
 clear h4 hf4 hw2
 have hqs2:q<w2.heap.size:=HH2.out.head.lt
 obtain ⟨W,hW,hu3,hq3⟩:=one_newC w2 #[.int .u32 (x:Int),.int .i64 (S.al.length:Int)] 172
 go_upto_region 11 with fail
 rw [←hW]
 have HH3:=Lib.hid (HH2.out.upd0 hu3)
 have hltP:=HH2.out.lt
 have hqe:∀P∈parts q Fc vb vs (.slice A9 S.pl.length C9) (.slice A0 S.al.length C0),w2.heap.size∉P:=fun P hP hc=>Nat.lt_irrefl _ (hltP P hP _ hc)
 obtain ⟨qe,hqe2⟩:∃k,w2.heap.size=k:=⟨_,rfl⟩
 rw [hqe2] at hq3 hqe ⊢
 have HQE:=Lib.hid hqe
 have HQ3:=Lib.hid hq3
 have HU3:=Lib.hid (And.intro hu3 hqe2)
 have hqs3:q<W.heap.size:=HH3.out.head.lt
 clear hW hu3 hltP hqe hqe2 hq3 c0 c2 c3
 obtain ⟨-,-,c2,c3,-,hfr⟩:=HH3.out.cell
 have f2:=hfr 2
 have f3:=hfr 3
 clear hfr
 obtain ⟨ib,hib,hb0,hb1,hb2⟩:=info_parts info_bool
 obtain ⟨ii,hii,hi0,hi1,hi2⟩:=info_parts info_int
 have h4n:q∉blk (.slice A0 S.al.length C0):=fun hc=>HH3.out.dis (i:=0) (j:=4) rfl rfl (by omega) q (by simp) hc
 have h5n:q∉blk (.slice A9 S.pl.length C9):=fun hc=>HH3.out.dis (i:=0) (j:=3) rfl rfl (by omega) q (by simp) hc
 have HA4:=Lib.hid HH3.out.arow
 have HA5:=Lib.hid HH3.out.prow
 have hpl:S.pl.length<90000:=by rw [HI.out.pll];exact hal
 have hd54:∀y∈blk (.slice A9 S.pl.length C9),y∉blk (.slice A0 S.al.length C0):=HH3.out.dis (i:=3) (j:=4) rfl rfl (by omega)
 have HD54:=Lib.hid hd54
 clear hd54
 have hsT:Sees ((W.alloc (.cells #[.int .i64 (p:Int)] 3)).alloc (.cells #[.bool true] 4)).drew 1 (.slice (some ⟨W.heap.size+1,0,none⟩) 1 1) 1 [.bool true]:=by
  have h0:(W.alloc (.cells #[.int .i64 (p:Int)] 3)).heap.size=W.heap.size+1:=by simp
  have:=(sees_lit (W.alloc (.cells #[.int .i64 (p:Int)] 3)) #[.bool true] 4 1 1 rfl (by decide)).drew
  rw [h0] at this
  exact this
 have hsI:Sees ((W.alloc (.cells #[.bool true] 4)).alloc (.cells #[.int .i64 (p:Int)] 3)).drew 1 (.slice (some ⟨W.heap.size+1,0,none⟩) 1 1) 1 [.int .i64 (p:Int)]:=by
  have h0:(W.alloc (.cells #[.bool true] 4)).heap.size=W.heap.size+1:=by simp
  have:=(sees_lit (W.alloc (.cells #[.bool true] 4)) #[.int .i64 (p:Int)] 3 1 1 rfl (by decide)).drew
  rw [h0] at this
  exact this
 have hsJ:Sees ((W.alloc (.cells #[.int .i64 (p:Int)] 3)).alloc (.cells #[.bool true] 4)).drew 1 (.slice (some ⟨W.heap.size,0,none⟩) 1 1) 1 [.int .i64 (p:Int)]:=
  (sees_upd (sees_lit W #[.int .i64 (p:Int)] 3 1 1 rfl (by decide)) ((Upd.refl [] _).alloc _) (by simp)).drew
 have hav2:=own_lt HA4.out
 have hnI:∀y∈blk (.slice (some ⟨W.heap.size+1,0,none⟩) 1 1),y∉blk (.slice A0 S.al.length C0):=fun y hy hc=>by have:=hav2 y hc;simp [blk] at hy;omega
 have hnJ:∀y∈blk (.slice (some ⟨W.heap.size,0,none⟩) 1 1),y∉blk (.slice A0 S.al.length C0):=fun y hy hc=>by have:=hav2 y hc;simp [blk] at hy;omega
 have HNI:=Lib.hid hnI
 have HNJ:=Lib.hid hnJ
 have HST:=Lib.hid hsT
 have HSI:=Lib.hid hsI
 have HSJ:=Lib.hid hsJ
 have HAV:=Lib.hid hav2
 clear hsT hsI hsJ hav2 hnI hnJ
 obtain ⟨F3,hF3⟩:∃F3,(parts q Fc vb vs (.slice A9 S.pl.length C9) (.slice A0 S.al.length C0)).flatten=F3:=⟨_,rfl⟩
 have HF3:=Lib.hid hF3
 clear hF3
 go_cut [] (fun wc=>NStep W wc q cb F3 bk (S1 S p))
 case first=>
  clear HFE HU HU2 HU3 HI HB HQE HQ3 hl hw hn HH HH2 HN HF n0 n1 hlen ht0 hqs hqs2
  go_region_law (first
   |(
    refine step_app _ (by rfl) _ _ 162 (by rfl) 0 4 ib (.bool false) 1 1 Tryz.underlying162 hib hb0 hb1 hb2 rfl (by decide) _ S.al.length (S.al.map .bool) (by rfl) (by first | exact owns_drew (HA4.out.alloc _) | exact owns_drew ((HA4.out.alloc _).alloc _)) _ 1 [.bool true] (by rfl) (by first | exact (sees_lit _ #[.bool true] 4 1 1 rfl (by decide)).drew | exact (sees_upd (sees_lit _ #[.bool true] 4 1 1 rfl (by decide)) ((Upd.refl [] _).alloc _) (by simp)).drew | exact HST.out) (by simp [Value.oneCell']) (by unfold maxLen;omega) (by omega) (Nat.zero_le _) ?_;intro A4 C4 w4 HP4
    have hpu4:Upd (blk (.slice A0 S.al.length C0)) _ w4:=HP4.upd
    obtain ⟨hup4,ho4,hb4⟩:=app_out (w:=W) (v:=.slice A0 S.al.length C0) (by first | exact ((Upd.refl _ W).alloc (.cells #[.bool true] 4)).drew | exact (((Upd.refl _ W).alloc (.cells #[.bool true] 4)).alloc (.cells #[.int .i64 (p:Int)] 3)).drew | exact (((Upd.refl _ W).alloc (.cells #[.int .i64 (p:Int)] 3)).alloc (.cells #[.bool true] 4)).drew) HP4
    clear HP4
    have HO4:=Lib.hid ho4
    have HB4:=Lib.hid hb4
    clear ho4 hb4
    have hx5:=(hup4.cell (p:=⟨q,2,none⟩) hqs3 h4n).trans c2
    have hx5a:∀o,(w4.alloc o).cell? ⟨q,2,none⟩=some (.slice A9 S.pl.length C9):=fun o=>by rw [World.cell?_alloc_past _ _ _ (Nat.lt_of_lt_of_le hqs3 hup4.size)];exact hx5)
   |(
    refine step_app _ (by rfl) _ _ 163 (by rfl) 0 3 ii (.int .i64 0) 1 8 Tryz.underlying163 hii hi0 hi1 hi2 rfl (by decide) _ S.pl.length (S.pl.map fun (n:Nat)=>.int .i64 (n:Int)) (by rfl) (by first | exact (own_upd HA5.out hup4 HD54.out).alloc _ | exact own_upd HA5.out hup4 HD54.out) _ 1 [.int .i64 (p:Int)] (by rfl) (by
     first
      |exact sees_lit w4 #[.int .i64 (p:Int)] 3 1 1 rfl (by decide)
      |exact sees_upd HSI.out hpu4 (fun _ y hy _=>HNI.out y hy)
      |exact sees_upd HSJ.out hpu4 (fun _ y hy _=>HNJ.out y hy)) (by simp [Value.oneCell']) (by unfold maxLen;omega) (by omega) (Nat.zero_le _) ?_;intro A5 C5 w5 HP5
    obtain ⟨hup5,ho5,hb5⟩:=app_out (w:=w4) (v:=.slice A9 S.pl.length C9) (by first | exact ((Upd.refl _ w4).alloc (.cells #[.int .i64 (p:Int)] 3)) | exact Upd.refl _ w4) HP5
    clear HP5
    have HO5:=Lib.hid ho5
    have HB5:=Lib.hid hb5
    clear ho5 hb5 hx5 hx5a
    have hhw4:q<w4.heap.size:=Nat.lt_of_lt_of_le hqs3 hup4.size
    have hst4:=(hup5.cell (p:=⟨q,3,none⟩) hhw4 h5n).trans ((hup4.cell (p:=⟨q,3,none⟩) hqs3 h4n).trans c3)
    have hst5:=(hup5.cell (p:=⟨q,2,none⟩) hhw4 h5n).trans ((hup4.cell (p:=⟨q,2,none⟩) hqs3 h4n).trans c2)
    have hsf4:=(hup5.frozen (p:=⟨q,3,none⟩) hhw4 h5n).trans ((hup4.frozen (p:=⟨q,3,none⟩) hqs3 h4n).trans f3)
    have hsf5:=(hup5.frozen (p:=⟨q,2,none⟩) hhw4 h5n).trans ((hup4.frozen (p:=⟨q,2,none⟩) hqs3 h4n).trans f2)))
  all_goals
   go_wp2_with fail
   go_meet
   case rel=>
    rw [←HF3.out]
    exact HH3.out.pushed hup4 HO4.out HB4.out hup5 HO5.out HB5.out (by first | exact .inl rfl | exact .inr rfl)
 case rest=>
  clear c2 c3 f2 f3 HNI HNJ HST HSI HSJ HAV HA4 HA5 HD54 hib hb0 hb1 hb2 hii hi0 hi1 hi2 h4n h5n
  obtain ⟨w5,hw5⟩:∃V:World,V=wc:=⟨_,rfl⟩
  subst hw5
  obtain ⟨vb5,vp5,va5,vs5,Fc5,H5,hu5,hF5⟩:=hcut
  have hqF:qe∉F3:=fun hc=>by
   rw [←HF3.out] at hc
   obtain ⟨P,hP,hx⟩:=List.mem_flatten.1 hc
   exact HQE.out P hP hx
  obtain ⟨e0,e1⟩:=(HQ3.out.upd hu5 hqF).cells2
  have hqe5:qe<w5.heap.size:=(HQ3.out.upd hu5 hqF).lt
  obtain ⟨d0,-⟩:=H5.cell
  have hq5:q<w5.heap.size:=H5.head.lt
  have hqF5:q∉Fc5:=fun hc=>H5.dis (i:=0) (j:=1) rfl rfl (by omega) q (by simp) hc
  have hqeF5:qe∉Fc5:=fun hc=>by
   rcases hF5 qe (mem_part (i:=1) rfl hc) with g | g
   ·exact hqF g
   ·have:=HQ3.out.lt;omega
  have hbn:(setB S.cs).length≤20:=by rw [setB_len];exact bitsN_le S.cs.length 20 (by omega)
  have hfl:(setB S.cs).flatten.length<90000:=by rw [setB_flat];exact hl
  have HH5:=Lib.hid H5
  have HU5:=Lib.hid (And.intro hu5 hF5)
  have dd0:w5.drew.cell? ⟨q,0,none⟩=some (.pointer (some ⟨cb,0,none⟩)):=d0
  have de0:w5.drew.cell? ⟨qe,0,none⟩=some (.int .u32 (x:Int)):=e0
  have de1:w5.drew.cell? ⟨qe,1,none⟩=some (.int .i64 (S.al.length:Int)):=e1
  clear H5 hu5 hF5 hqF d0 e0 e1
  go_upto_region 12 with fail
  go_region_held3 (fun w'=>w'.cell? ⟨q,0,none⟩=some (.pointer (some ⟨cb,0,none⟩))∧w'.cell? ⟨qe,0,none⟩=some (.int .u32 (x:Int))∧w'.cell? ⟨qe,1,none⟩=some (.int .i64 (S.al.length:Int)))
   (first
    |(exact ⟨dd0,de0,de1⟩)
    |(exact ⟨(g2.cell (p:=⟨q,0,none⟩) hq5 hqF5).trans dd0,(g2.cell (p:=⟨qe,0,none⟩) hqe5 hqeF5).trans de0,(g2.cell (p:=⟨qe,1,none⟩) hqe5 hqeF5).trans de1⟩)
    |go_keep)
   ((go_at_call 126;refine (CEn.addI cb Fc5 (x,S.al.length) _ _ _ _ (HH5.out.car.upd ((Upd.refl [] w5).drew) (by simp)) (by show (setB S.cs).length<_;omega) (by show (setB S.cs).flatten.length<_;omega) (by show S.cs.length<_;omega) (by show S.wk<_;omega)).mono ?_;rintro e w6 ⟨A2,C2,rfl,Fc6,g1,g2,g3,g4,g5⟩))
  have hup6:Upd Fc5 w5 w6:=((Upd.refl [] w5).drew.mono (by simp)).trans' g2 (fun y hy=>.inl hy)
  have hgl:=(gath_set S.cs (x,S.al.length)).2
  obtain ⟨G,hG⟩:∃G,gath (setB S.cs) (x,S.al.length)=G:=⟨_,rfl⟩
  obtain ⟨t,ht⟩:∃t,firstE (setB S.cs)=t:=⟨_,rfl⟩
  have ht20:t≤20:=by
   have h1:=firstE_le (setB S.cs)
   omega
  have hGl:G.length<100000:=by
   rw [←hG,(gath_set S.cs (x,S.al.length)).1,List.length_append,List.length_drop];simp;omega
  have htb:t≤bk.length:=by
   have h1:=firstE_le (setB S.cs)
   have h2:=HB.out.1
   omega
  have h6:=HH5.out.carry (w':=w6) (cs:=S.cs++[(x,S.al.length)]) (wk:=S.wk+(gath (setB S.cs) (x,S.al.length)).length) (Fc':=Fc6) (by rw [←add_set,List.length_append];exact g1) hup6 g3
  have h6:NmAt w6 q cb vb5 vp5 va5 vs5 bk Fc6 (pushS S x p):=h6
  have hge:(gath (setB (S1 S p).cs) (x,S.al.length))=G:=hG
  have hfe:firstE (setB (S1 S p).cs)=t:=ht
  rw [hge] at g4 g5 ⊢
  rw [hfe]
  obtain ⟨F6,hF6⟩:∃F6,(parts q Fc6 vb5 vs5 vp5 va5).flatten=F6:=⟨_,rfl⟩
  have hSL:∀y∈blk (.slice A2 G.length C2),y∉F6:=by
   intro y hy hc
   rw [←hF6,show parts q Fc6 vb5 vs5 vp5 va5=(parts q Fc5 vb5 vs5 vp5 va5).set 1 Fc6 from rfl] at hc
   rcases flat_set hc with hc | hc
   ·have e1:=own_ge g4 y hy
    obtain ⟨P,hP,hyP⟩:=List.mem_flatten.1 hc
    have e2:=HH5.out.lt P hP y hyP
    have e3:w5.drew.heap.size=w5.heap.size:=rfl
    omega
   ·exact g5 y hy hc
  have hfin6:∀(S':NS) (bk':List (List (Nat×Nat))) (w'':World),NStep w6 w'' q cb (F6++blk (.slice A2 G.length C2)) bk' S'→NStep w w'' q cb F bk' S':=by
   intro S' bk' w'' h
   have k1:NStep w5 w'' q cb (parts q Fc5 vb5 vs5 vp5 va5).flatten bk' S':=by
    refine NStep.next (hup6.mono (fun y hy=>.inl (mem_part (i:=1) rfl hy))) ?_ h
    intro y hy
    rcases List.mem_append.1 hy with hy | hy
    case inr=>exact .inr (own_ge g4 y hy)
    rw [←hF6,show parts q Fc6 vb5 vs5 vp5 va5=(parts q Fc5 vb5 vs5 vp5 va5).set 1 Fc6 from rfl] at hy
    rcases flat_set hy with g | g
    ·exact .inl g
    ·exact (g3 y g).imp (mem_part (i:=1) rfl) id
   have k2:NStep W w'' q cb F3 bk' S':=NStep.next HU5.out.1 HU5.out.2 k1
   have hF:F3=F:=by rw [←HF3.out];exact HFE.out.symm
   rw [hF] at k2
   have k3:NStep w2 w'' q cb F bk' S':=NStep.next (HU3.out.1.mono (by simp)) (fun y hy=>.inl hy) k2
   have k4:NStep w1 w'' q cb F bk' S':=NStep.next (HU2.out.mono (fun y hy=>.inl (by rw [HFE.out];exact mem_part (i:=0) (P:=[q]) rfl hy))) (fun y hy=>.inl hy) k3
   exact NStep.next (HU.out.mono (by simp)) (fun y hy=>.inl hy) k4
  have HFIN:=Lib.hid hfin6
  have HSL:=Lib.hid hSL
  have HG4:=Lib.hid g4
  have HG:=Lib.hid (And.intro hG (And.intro ht hF6))
  have HH6:=Lib.hid h6
  have hst6:NStep w6 w6 q cb F6 bk (pushS S x p):=by rw [←hF6];exact NStep.refl h6
  have HS6:=Lib.hid hst6
  have hslt:=own_lt g4
  have HSLT:=Lib.hid hslt
  clear hfin6 hSL g1 g2 g3 g4 g5 h6 hge hfe hG ht hF6 hst6 hslt dd0 de0 de1 hup6 hgl hq5 hqe5 hqF5 hqeF5 hbn hfl
  have t0':(0:Int)≤(t:Int):=Int.natCast_nonneg _
  obtain ⟨i0,hi0,hz0,hz1,hz2⟩:=info_parts info_rowsE
  go_upto_block 0 with fail
  go_cut [] (fun wc=>∃bk7,t<bk7.length∧bk7.drop (t+1)=bk.drop (t+1)∧NStep w6 wc q cb F6 bk7 (pushS S x p))
  case first=>
   go_wp2_with fail
   go_loopg [] (t+1 - bk.length) (fun m wr=>∃n,m+n=t+1 - bk.length∧NStep w6 wr q cb F6 (bk++List.replicate n []) (pushS S x p))
   case atStart=>exact ⟨0,rfl,by simpa using HS6.out⟩
   case round=>
    obtain ⟨n,hmn,vb7,vp7,va7,vs7,Fc7,H7,hu7,hF7⟩:=hrel
    obtain ⟨A7,C7,hv7⟩:=own_form H7.rows.list
    subst hv7
    obtain ⟨n7,hn7⟩:∃n7,vs7.length=n7:=⟨_,rfl⟩
    have hlen7:n7=bk.length+n:=by rw [←hn7,H7.rows.len];simp
    obtain ⟨-,c1,-,-,-,hfr⟩:=H7.cell
    have f1:=hfr 1
    rw [hn7] at c1
    have hb20:bk.length≤20:=by rw [HB.out.1,setB_len];exact bitsN_le S.cs.length 20 (by omega)
    have hn7b:n7≤50:=by omega
    have hq7:q<wr.heap.size:=H7.head.lt
    have hqv:q∉blk (.slice A7 n7 C7):=fun hc=>H7.dis (i:=0) (j:=2) rfl rfl (by omega) q (by simp) (mem_rfoot.2 (.inl (by rw [hn7];exact hc)))
    have hrow7:wr.ownsRow 0 187 1 (.slice A7 n7 C7) n7 vs7:=by have:=H7.rows.list;rwa [hn7] at this
    have HR7:=Lib.hid hrow7
    have HH7:=Lib.hid H7
    have HU7:=Lib.hid (And.intro hu7 hF7)
    have HM:=Lib.hid (And.intro hmn (And.intro hlen7 hn7))
    by_cases hlt:n7≤t
    ·have hlt2:(n7:Int)≤(t:Int):=by omega
     clear hmn hlen7 hn7 H7 hu7 hF7 hfr hrow7
     go_upto_region 14 with fail
     go_wp2_with (at_builtin;refine wpList_app _ rfl _ _ 173 rfl 0 187 i0 (.slice none 0 0) 1 24 Tryz.underlying173 hi0 hz0 hz1 hz2 rfl (by decide) _ n7 vs7 rfl (HR7.out.alloc _) _ 1 [.slice none 0 0] rfl (sees_lit wr #[.slice none 0 0] 187 1 1 rfl (by decide)) (by simp [Value.oneCell']) (by unfold maxLen;omega) (by omega) (Nat.zero_le _) ?_)
     intro A8 C8 w8 HP
     have hst1:w8.cell? ⟨q,1,none⟩=some (.slice A7 n7 C7):=by
      rw [(HP.upd).cell (p:=⟨q,1,none⟩) (by simp;omega) hqv,World.cell?_alloc_past _ _ _ hq7]
      exact c1
     have hst2:w8.frozen? ⟨q,1,none⟩=false:=by
      rw [(HP.upd).frozen (p:=⟨q,1,none⟩) (by simp;omega) hqv,World.frozen?_alloc_past _ _ _ hq7]
      exact f1
     have HPP:=Lib.hid HP
     clear HP c1 f1
     go_wp2_with fail
     go_roundg (gk - 1)
     case measure=>have:=HM.out;omega
     case rel=>
      have hpp:=HPP.out
      obtain ⟨m1,m2,m3⟩:=HM.out
      rw [←m3] at hpp
      have hwd:=HH7.out.wide hpp rfl
      rw [m3] at hwd
      have hst:=NStep.next HU7.out.1 HU7.out.2 (by rw [m3];exact hwd)
      refine ⟨n+1,by omega,?_⟩
      rw [List.append_assoc,←List.replicate_succ'] at hst
      exact hst
    ·have hlt2:¬(n7:Int)≤(t:Int):=by omega
     clear hmn hlen7 hn7 H7 hu7 hF7 hfr hrow7
     have HLT:=Lib.hid hlt
     clear hlt
     go_wp2_with fail
     go_meet
     case rel=>
      obtain ⟨m1,m2,m3⟩:=HM.out
      refine ⟨bk++List.replicate n [],by simp;have:=HLT.out;omega,?_,⟨_,_,_,_,_,HH7.out,HU7.out.1,HU7.out.2⟩⟩
      rcases Nat.lt_or_ge t bk.length with h | h
      ·have:n=0:=by omega
       subst this
       simp
      ·rw [List.drop_eq_nil_of_le (by simp;omega),List.drop_eq_nil_of_le (by omega)]
  case rest=>
   obtain ⟨w7,hw7⟩:∃V:World,V=wc:=⟨_,rfl⟩
   subst hw7
   obtain ⟨bk7,hb7,hdp,hs7⟩:=hcut
   have HS7:=Lib.hid hs7
   have HDP:=Lib.hid hdp
   clear hs7 hdp
   go_upto_block 2 with fail
   go_cut [] (fun wc=>NStep w6 wc q cb F6 (List.replicate t []++bk7.drop t) (pushS S x p))
   case first=>
    go_wp2_with fail
    go_loopg [106] t (fun m s wr=>∃k:Nat,m+k=t∧s=.int .i64 (k:Int)∧NStep w6 wr q cb F6 (List.replicate k []++bk7.drop k) (pushS S x p))
    case atStart=>exact ⟨0,by omega,rfl,by simpa using HS7.out⟩
    case round=>
     obtain ⟨k,hk,rfl,vb8,vp8,va8,vs8,Fc8,H8,hu8,hF8⟩:=hrel
     have b0:(0:Int)≤(k:Int):=Int.natCast_nonneg _
     have HU8:=Lib.hid (And.intro hu8 hF8)
     have HH8:=Lib.hid H8
     have HK:=Lib.hid hk
     by_cases hlt:k<t
     ·have b1:(k:Int)<(t:Int):=by omega
      obtain ⟨A8,C8,hv8⟩:=own_form H8.rows.list
      subst hv8
      obtain ⟨n8,hn8⟩:∃n8,vs8.length=n8:=⟨_,rfl⟩
      have hlen8:n8=bk7.length:=by rw [←hn8,H8.rows.len];simp;omega
      obtain ⟨g,Ak,Ck,hA,hv,hcell,hfro,hrow⟩:=H8.rows.at (k:=k) (by simp;omega)
      subst hA
      obtain ⟨u8,hcell8⟩:∃u,wr.cell? ⟨g,k,none⟩=some u:=⟨_,hcell⟩
      clear hcell
      obtain ⟨-,c1,-⟩:=H8.cell
      have htn:=H8.turn rfl k (.slice none 0 0) [] (World.ownsRow_nil _ _ _ _) (by simp [blk])
      rw [none_step bk7 k (by omega)] at htn
      have HTN:=Lib.hid htn
      rw [hn8] at c1
      have b2:(k:Int)<(n8:Int):=by omega
      clear hrow hv hn8 hlen8 H8 hu8 hF8 hk htn
      go_wp2_with fail
      go_roundg (t - (k+1))
      case measure=>have:=HK.out;omega
      case rel=>
       obtain ⟨k1,k2,k3⟩:=HTN.out
       exact ⟨k+1,by have:=HK.out;omega,by go_num,NStep.next HU8.out.1 HU8.out.2 ⟨_,_,_,_,_,k1,k2,fun y hy=>by rcases k3 y hy with g | g;exact .inl g;simp [blk] at g⟩⟩
     ·have hkt:k=t:=by omega
      subst hkt
      clear hu8 hF8 H8 hk
      go_wp2_with fail
      go_meet
      case rel=>exact ⟨_,_,_,_,_,HH8.out,HU8.out.1,HU8.out.2⟩
   case rest=>
    obtain ⟨w8,hw8⟩:∃V:World,V=wc:=⟨_,rfl⟩
    subst hw8
    obtain ⟨vb9,vp9,va9,vs9,Fc9,H9,hu9,hF9⟩:=hcut
    obtain ⟨A9',C9',hv9⟩:=own_form H9.rows.list
    subst hv9
    obtain ⟨g,Ak,Ck,hA,hv,hcell,hfro,hrow⟩:=H9.rows.at (k:=t) (by simp;omega)
    subst hA
    obtain ⟨u9,hcell9⟩:∃u,w8.cell? ⟨g,t,none⟩=some u:=⟨_,hcell⟩
    clear hcell
    obtain ⟨n9,hn9⟩:∃n9,vs9.length=n9:=⟨_,rfl⟩
    have hlen9:n9=bk7.length:=by rw [←hn9,H9.rows.len];simp;omega
    obtain ⟨-,c1,-⟩:=H9.cell
    rw [hn9] at c1
    have hq9:q<w8.heap.size:=H9.head.lt
    have hgP:g∈(parts q Fc9 (.slice (some ⟨g,0,none⟩) vs9.length C9') vs9 vp9 va9).flatten:=mem_part (i:=2) rfl (mem_rfoot.2 (.inl (by simp [blk])))
    have hg9:g<w8.heap.size:=World.block_lt_of_cell? _ _ hcell9
    have hrow8:=own_upd HG4.out hu9 HSL.out
    have hqP:q∈(parts q Fc9 (.slice (some ⟨g,0,none⟩) vs9.length C9') vs9 vp9 va9).flatten:=mem_part (i:=0) (P:=[q]) rfl (by simp)
    have hout:∀y∈blk (.slice A2 G.length C2),y∉(parts q Fc9 (.slice (some ⟨g,0,none⟩) vs9.length C9') vs9 vp9 va9).flatten:=by
     intro y hy hc
     rcases hF9 y hc with h | h
     ·exact HSL.out y hy h
     ·have:=HSLT.out y hy;omega
    have hqb:q∉blk (.slice A2 G.length C2):=fun hc=>hout q hc hqP
    have hgb:g∉blk (.slice A2 G.length C2):=fun hc=>hout g hc hgP
    have hqg:q≠g:=fun e=>H9.dis (i:=0) (j:=2) rfl rfl (by omega) q (by simp) (mem_rfoot.2 (.inl (by simp [blk,e])))
    have hgq:g≠q:=Ne.symm hqg
    have HH9:=Lib.hid H9
    have HU9:=Lib.hid (And.intro hu9 hF9)
    have HR8:=Lib.hid hrow8
    have HOUT:=Lib.hid hout
    have HN9:=Lib.hid hn9
    have b1:(t:Int)<(n9:Int):=by omega
    have d1:w8.drew.cell? ⟨q,1,none⟩=some (.slice (some ⟨g,0,none⟩) n9 C9'):=c1
    clear hrow hv H9 hu9 hF9 hn9 hlen9 hrow8 hout hqP hgP
    go_upto_region 20 with fail
    go_region_held3 (fun w'=>w'.cell? ⟨q,1,none⟩=some (.slice (some ⟨g,0,none⟩) n9 C9'))
     (first
      |go_keep
      |(exact (u10.cell (p:=⟨q,1,none⟩) hq9 hqb).trans d1)
      |(rw [World.cell?_setCell_other _ _ _ _ (by simp [hqg])];exact (u10.cell (p:=⟨q,1,none⟩) hq9 hqb).trans d1)
      |(rw [World.cell?_setCell_other _ _ _ _ (by simp [hgq])];exact (u10.cell (p:=⟨q,1,none⟩) hq9 hqb).trans d1))
     ((go_at_call 127;refine (sortedC _ _ G _ (own_upd HR8.out ((Upd.refl [] w8).drew) (by simp)) (by omega)).mono ?_;rintro e w10 ⟨rfl,u10,l10,p10,s10,r10⟩;have hst1:=(u10.cell (p:=⟨g,t,none⟩) hg9 hgb).trans hcell9;have hst2:=(u10.frozen (p:=⟨g,t,none⟩) hg9 hgb).trans hfro))
    all_goals
     have H10:=HH9.out.upd (((Upd.refl [] w8).drew.mono (G:=blk (.slice A2 G.length C2)) (by simp)).trans u10) (fun P hP y hy hc=>HOUT.out y hc (List.mem_flatten.2 ⟨P,hP,hy⟩))
     have htn:=H10.turn rfl t (.slice A2 G.length C2) l10 (own_base (by have:=r10;rw [←p10.length_eq] at *;exact this) (Nat.zero_le _)) HOUT.out
     rw [put_at bk7 t l10 hb7,HDP.out] at htn
     have HTN:=Lib.hid htn
     have HP10:=Lib.hid (And.intro p10 (And.intro s10 u10))
     clear H10 htn p10 s10 u10 r10 hst1 hst2
     go_wp2_with fail
     go_ret
     obtain ⟨k1,k2,k3⟩:=HTN.out
     obtain ⟨p10,s10,u10⟩:=HP10.out
     obtain ⟨g1,g2,g3⟩:=HG.out
     have hbk:=bk_push HB.out (e:=(x,S.al.length)) (l:=l10) (by rw [g1];exact p10) s10
     rw [g2] at hbk
     refine ⟨rfl,NStep.is (HFIN.out _ _ _ ?_) hbk⟩
     refine ⟨_,_,_,_,_,k1,?_,?_⟩
     ·have hdw:Upd (F6++blk (.slice A2 G.length C2)) w8 w10:=((Upd.refl [] w8).drew.mono (by simp)).trans (u10.mono (fun y hy=>.inl (List.mem_append.2 (.inr hy))))
      refine ((HU9.out.1.mono (fun y hy=>.inl (List.mem_append.2 (.inl hy)))).trans hdw).trans' k2 (fun y hy=>?_)
      exact (HU9.out.2 y hy).imp (fun h=>List.mem_append.2 (.inl h)) id
     ·intro y hy
      rcases k3 y hy with h | h
      ·exact (HU9.out.2 y h).imp (fun h=>List.mem_append.2 (.inl h)) id
      ·exact .inl (List.mem_append.2 (.inr h))
end Go.Proofs.YtkbaaonchdeneaaGreat.Nm
namespace Go.Proofs.YtkbaaonchdeneaaGreat.Nm
open Go.RowKit
theorem lenN {w w2:World} {q cb:Nat} {vb vp va:Value} {vs:List Value} {bk:List (List (Nat×Nat))} {Fc:List Nat} {S:NS} (H:NmAt w q cb vb vp va vs bk Fc S) (hu:Upd [] w w2) :
 Calls Tryz.prog 130 #[.pointer (some ⟨cb,0,none⟩)] w2 fun e w'=>e=.returned (.int .i64 (S.cs.length:Nat))∧w2=w':=
 CEn.lenI cb Fc (setB S.cs) S.cs.length S.wk w2 (H.car.upd hu (by simp))
theorem dropNot (tv:Value) (F:List Nat) (S:NS) (x:Nat) (w:World) (H:IsNm w tv F S) (I:NInv S) (hl:S.cs.length<90000) (hk:place S x=none) :
 Calls Tryz.prog 74 #[tv,.int .u32 (x:Int)] w fun e w'=>e=.returned (.tuple #[.int .i64 0,.bool false])∧Upd [] w w':=by
 have HN:=Lib.hid (noneN tv F w H)
 have HF:=Lib.hid (findC tv F S x w H I hl)
 have HH:=Lib.hid H
 have HI:=Lib.hid I
 obtain ⟨q,cb,vb,vp,va,vs,bk,Fc,rfl,-⟩:=H
 obtain ⟨o,ho⟩:∃o,S.cs.lookup x=o:=⟨_,rfl⟩
 clear I
 go_enter Tryz.func74,Tryz.ntmps74
 go_wp2_with fail
 (with_reducible refine HN.out.mono ?_)
 rintro e w' ⟨rfl,rfl⟩
 go_wp2_with fail
 (with_reducible refine HF.out.mono ?_)
 rintro e w' ⟨t,rfl,ht,hu⟩
 have HU:=Lib.hid hu
 rw [ho]
 cases o with
 |none=>
  have hd:numV none = -1:=rfl
  rw [hd]
  clear hk ho hu hd
  dsimp only
  go_wp2_with fail
  go_ret2
  exact ⟨rfl,HU.out⟩
 |some k=>
  obtain ⟨hk1,hk2⟩:=num_lt HI.out ho
  obtain ⟨q,cb,vb,vp,va,vs,bk,Fc,he,H,hb,hF⟩:=HH.out.upd hu (by simp)
  cases he
  obtain ⟨-,-,h2,h3,-⟩:=H.cell
  obtain ⟨ga,Ca,rfl,a1,-⟩:=alive_at H.arow hk1
  have k0:(0:Int)≤(k:Int):=Int.natCast_nonneg _
  have k1:(k:Int)<(S.al.length:Int):=by omega
  have k3:¬(k:Int)<0:=by omega
  have hd:numV (some k)=(k:Int):=rfl
  rw [hd]
  have hal:S.al.getD k false=false:=by
   unfold place at hk
   rw [ho] at hk
   by_cases h:S.al.getD k false=true
   ·dsimp only at hk;rw [if_pos h] at hk;cases hk
   ·simpa using h
  rw [hal] at a1
  clear H hb hF hd hk ho hu hal hk1 hk2
  dsimp only
  go_wp2_with fail
  go_ret2
  exact ⟨rfl,HU.out⟩
theorem dropOne (tv:Value) (F:List Nat) (S:NS) (x k:Nat) (w:World) (H:IsNm w tv F S) (I:NInv S) (hl:S.cs.length<90000) (hn:S.n<100000) (hw:S.wk<549755813888) (hk:S.cs.lookup x=some k) (ha:S.al.getD k false=true) :
 Calls Tryz.prog 74 #[tv,.int .u32 (x:Int)] w fun e w'=>e=.returned (.tuple #[.int .i64 ((S.pl.getD k 0:Nat):Int),.bool true])∧NmStep w w' tv F (dropS S x):=by
 have HN:=Lib.hid (noneN tv F w H)
 have hfc:=findC tv F S x w H I hl
 unfold FindPost at hfc
 rw [hk] at hfc
 have HF:=Lib.hid hfc
 have HH:=Lib.hid H
 have HI:=Lib.hid I
 obtain ⟨q,cb,vb,vp,va,vs,bk,Fc,rfl,-⟩:=H
 obtain ⟨hk1,hk2⟩:=num_lt I hk
 have hd:numV (some k)=(k:Int):=rfl
 rw [hd] at HF
 have hpos:0<S.n:=by
  have:=count_false_set ha
  rw [I.cnt];omega
 have hds:dropS S x=if S.cs.length > 2*(S.n - 1) then anewN (killS S k) else killS S k:=by unfold dropS;rw [hk]
 have HDS:=Lib.hid hds
 obtain ⟨pv,hpv⟩:∃pv,S.pl.getD k 0=pv:=⟨_,rfl⟩
 rw [hpv]
 have HPV:=Lib.hid hpv
 clear I hk hfc hd hds
 go_enter Tryz.func74,Tryz.ntmps74
 go_wp2_with fail
 (with_reducible refine HN.out.mono ?_)
 rintro e w' ⟨rfl,rfl⟩
 go_wp2_with fail
 (with_reducible refine HF.out.mono ?_)
 rintro e w1 ⟨t,rfl,ht,hu⟩
 have HU:=Lib.hid hu
 obtain ⟨q,cb,vb,vp,va,vs,bk,Fc,he,H1,hb,hF⟩:=HH.out.upd hu (by simp)
 cases he
 obtain ⟨h0,-,h2,h3,h4,hfr⟩:=H1.cell
 obtain ⟨ga,Ca,rfl,a1,a2,-⟩:=alive_at H1.arow hk1
 obtain ⟨gp,Cp,rfl,p1,p2,-⟩:=place_at H1.prow hk2
 have hf4:=hfr 4
 have k0:(0:Int)≤(k:Int):=Int.natCast_nonneg _
 have k1:(k:Int)<(S.al.length:Int):=by omega
 have k2:(k:Int)<(S.pl.length:Int):=by omega
 have k3:¬(k:Int)<0:=by omega
 rw [ha] at a1
 have n0:(0:Int)<(S.n:Int):=by omega
 have n1:(S.n:Int)<100000:=by omega
 have hqa:q≠ga:=fun e=>H1.dis (i:=0) (j:=4) rfl rfl (by omega) q (by simp) (by simp [blk,e])
 have hqp:q≠gp:=fun e=>H1.dis (i:=0) (j:=3) rfl rfl (by omega) q (by simp) (by simp [blk,e])
 have hap:ga≠gp:=fun e=>H1.dis (i:=4) (j:=3) rfl rfl (by omega) ga (by simp [blk]) (by simp [blk,e])
 have hm1:=H1.mark rfl k false
 have hm2:=hm1.count (S.n - 1)
 have he:Value.int .i64 ((S.n - 1:Nat):Int)=Value.int .i64 ((S.n:Int) - 1):=by congr 1;omega
 rw [he] at hm2
 have hus:Upd (parts q Fc vb vs (.slice (some ⟨gp,0,none⟩) S.pl.length Cp) (.slice (some ⟨ga,0,none⟩) S.al.length Ca)).flatten w1 ((w1.setCell ⟨ga,k,none⟩ (.bool false)).setCell ⟨q,4,none⟩ (.int .i64 ((S.n:Int) - 1))):=
  ((Upd.refl _ _).setCell (p:=⟨ga,k,none⟩) (.inl (mem_part (i:=4) (P:=[ga]) rfl (by simp))) _).setCell (p:=⟨q,4,none⟩) (.inl (mem_part (i:=0) (P:=[q]) rfl (by simp))) _
 have e4:(w1.setCell ⟨ga,k,none⟩ (.bool false)).cell? ⟨q,4,none⟩=some (.int .i64 (S.n:Int)):=by rw [World.cell?_setCell_other _ _ _ _ (by simp)];exact h4
 have e4f:(w1.setCell ⟨ga,k,none⟩ (.bool false)).frozen? ⟨q,4,none⟩=false:=by rw [World.frozen?_setCell];exact hf4
 have HM2:=Lib.hid hm2
 have HUS:=Lib.hid hus
 have HB:=Lib.hid hb
 have HFE:=Lib.hid hF
 clear hm1 hm2 hus hb hF H1 hu hfr hk1 hk2 he
 dsimp only
 go_upto_region 7 with fail
 clear h0 h2 h3 h4 a1 a2 p1 p2 hf4
 go_upto_region 8 with fail
 obtain ⟨w2,hw2⟩:∃W,W=((w1.setCell ⟨ga,k,none⟩ (.bool false)).setCell ⟨q,4,none⟩ (.int .i64 ((S.n:Int) - 1))):=⟨_,rfl⟩
 rw [←hw2] at HM2 HUS ⊢
 clear e4 e4f hw2
 obtain ⟨c0,-,c2,c3,c4',-⟩:=HM2.out.cell
 obtain ⟨M,hM⟩:∃M,S.n - 1=M:=⟨_,rfl⟩
 have c4:w2.cell? ⟨q,4,none⟩=some (.int .i64 (M:Int)):=by rw [←hM];exact c4'
 clear c4'
 have m0:(0:Int)≤(M:Int):=Int.natCast_nonneg _
 have m1:(M:Int)<100000:=by omega
 have hwr:IntKind.i64.wrap (2*(M:Int))=2*(M:Int):=IntWalk.i64_in _ (by omega)
 have hpl2:=HM2.out.prow
 have hkp:k<S.pl.length:=by omega
 obtain ⟨gp',Cp',hpe,p0,-⟩:=place_at hpl2 (k:=k) hkp
 cases hpe
 have p1:w2.cell? ⟨gp,k,none⟩=some (.int .i64 (pv:Int)):=by rw [←hpv];exact p0
 clear p0
 have HST:=Lib.hid (⟨_,_,_,_,_,HM2.out,HUS.out,fun x hx=>.inl hx⟩:NStep w1 w2 q cb (parts q Fc vb vs (.slice (some ⟨gp,0,none⟩) S.pl.length Cp) (.slice (some ⟨ga,0,none⟩) S.al.length Ca)).flatten bk (killS S k))
 have l0:(0:Int)≤(S.cs.length:Int):=Int.natCast_nonneg _
 have l1:(S.cs.length:Int)<90000:=by omega
 by_cases hbig:S.cs.length > 2*(S.n - 1)
 ·have hb2:2*(M:Int)<(S.cs.length:Int):=by omega
  have HBG:=Lib.hid hbig
  have HAN:=Lib.hid (fun n=>anewC (HM2.out.upd0 ((Upd.refl [] w2).drewN n)) (by intro y hy;show y.2<(S.al.set k false).length;rw [List.length_set];exact HI.out.lt y hy) (by show S.cs.length<_;omega) (by show S.wk<_;omega))
  clear hbig hpl2 hpv p1 hkp
  go_quiet (first | (go_at_call 130;refine Calls.quiet_of_same ((lenN HM2.out ((Upd.refl [] w2).drewN _)).mono fun _ _ h=>⟨h.1,h.2.symm⟩)))
  clear c0 c2 c3 c4 hwr
  go_wp2_with fail
  (with_reducible refine (HAN.out _).mono ?_)
  rintro e w3 ⟨rfl,h3⟩
  have h3':NmStep w2 w3 (.pointer (some ⟨q,0,none⟩)) (parts q Fc vb vs (.slice (some ⟨gp,0,none⟩) S.pl.length Cp) (.slice (some ⟨ga,0,none⟩) S.al.length Ca)).flatten (anewN (killS S k)):=h3.ahead ((Upd.refl [] w2).drewN _)
  obtain ⟨F3,⟨q3,cb3,vb3,vp3,va3,vs3,bk3,Fc3,he,H3,hb3,hF3⟩,hu3,hf3⟩:=h3'
  cases he
  obtain ⟨-,-,c2',-⟩:=H3.cell
  obtain ⟨gp3,Cp3,rfl,p0,-⟩:=place_at H3.prow (k:=k) (by show k<S.pl.length;omega)
  have p1:w3.cell? ⟨gp3,k,none⟩=some (.int .i64 (pv:Int)):=by rw [←HPV.out];exact p0
  have c2:w3.cell? ⟨q,2,none⟩=some (.slice (some ⟨gp3,0,none⟩) S.pl.length Cp3):=c2'
  clear c2' p0
  have HF:=Lib.hid (⟨F3,⟨q,cb3,vb3,_,va3,vs3,bk3,Fc3,rfl,H3,hb3,hF3⟩,hu3,hf3⟩:NmStep w2 w3 (.pointer (some ⟨q,0,none⟩)) (parts q Fc vb vs (.slice (some ⟨gp,0,none⟩) S.pl.length Cp) (.slice (some ⟨ga,0,none⟩) S.al.length Ca)).flatten (anewN (killS S k)))
  clear H3 hb3 hF3 hu3 hf3 h3
  go_wp2_with fail
  go_ret2
  refine ⟨rfl,?_⟩
  rw [HDS.out,if_pos HBG.out]
  obtain ⟨F3,h3,hu3,hf3⟩:=HF.out
  rw [HFE.out]
  refine ⟨F3,h3,(HU.out.mono (by simp)).trans (HUS.out.trans hu3),fun y hy=>?_⟩
  rcases hf3 y hy with g | g
  ·exact .inl g
  ·exact .inr (Nat.le_trans (Nat.le_trans HU.out.size HUS.out.size) g)
 ·have hb2:¬2*(M:Int)<(S.cs.length:Int):=by omega
  have HBG:=Lib.hid hbig
  clear hbig hpl2 hpv hkp
  go_quiet (first | (go_at_call 130;refine Calls.quiet_of_same ((lenN HM2.out ((Upd.refl [] w2).drewN _)).mono fun _ _ h=>⟨h.1,h.2.symm⟩)))
  clear hwr
  go_wp2_with fail
  go_ret2
  refine ⟨rfl,?_⟩
  rw [HDS.out,if_neg HBG.out,HFE.out]
  exact ((NStep.is HST.out HB.out).ahead HU.out).quiet ((Upd.refl _ _).drewN _)
end Go.Proofs.YtkbaaonchdeneaaGreat.Nm
namespace Go.Proofs.YtkbaaonchdeneaaGreat.Nm
open Go.RowKit
theorem place_some {S:NS} {x i:Nat} (h:place S x=some i):∃k,S.cs.lookup x=some k∧S.al.getD k false=true∧S.pl.getD k 0=i:=by
 unfold place at h
 cases hk:S.cs.lookup x with
 |none=>rw [hk] at h;cases h
 |some k=>
  rw [hk] at h
  dsimp only at h
  split at h
  ·rename_i ha
   cases h
   exact ⟨k,rfl,ha,rfl⟩
  ·cases h
theorem NInv.cnt_le {S:NS} (I:NInv S):S.n≤S.al.length:=by rw [I.cnt];exact List.count_le_length
theorem putThere (tv:Value) (F:List Nat) (S:NS) (x p:Nat) (w:World) (H:IsNm w tv F S) (I:NInv S) (hal:S.al.length<90000) (h:(place S x).isSome=true) :
 Calls Tryz.prog 72 #[tv,.int .u32 (x:Int),.int .i64 (p:Int)] w fun e w'=>e=.returned (.int .i64 2)∧Upd [] w w':=by
 obtain ⟨i,hi⟩:=Option.isSome_iff_exists.1 h
 obtain ⟨k,h1,h2,-⟩:=place_some hi
 have hl:=I.len
 have hn:=I.cnt_le
 refine (putOld tv F S x p k w H I (by omega) (by omega) h1).mono ?_
 rintro e w' (⟨-,he,hu⟩ | ⟨hc,-⟩)
 ·exact ⟨he,hu⟩
 ·rw [h2] at hc;cases hc
theorem putFree (tv:Value) (F:List Nat) (S:NS) (x p:Nat) (w:World) (H:IsNm w tv F S) (I:NInv S) (hal:S.al.length<90000) (hw:S.wk<549755813888) (h:place S x=none) :
 Calls Tryz.prog 72 #[tv,.int .u32 (x:Int),.int .i64 (p:Int)] w fun e w'=>e=.returned (.int .i64 0)∧NmStep w w' tv F (putS S x p):=by
 have hl:=I.len
 have hn:=I.cnt_le
 cases hk:S.cs.lookup x with
 |none=>
  have e:putS S x p=pushS S x p:=by unfold putS;rw [hk]
  rw [e]
  exact putNew tv F S x p w H I hal hw hk
 |some k=>
  have e:putS S x p=revS S k p:=by unfold putS;rw [hk]
  rw [e]
  have hd:S.al.getD k false=false:=by
   unfold place at h
   rw [hk] at h
   dsimp only at h
   split at h
   ·cases h
   ·rename_i hh;simpa using hh
  refine (putOld tv F S x p k w H I (by omega) (by omega) hk).mono ?_
  rintro e w' (⟨hc,-⟩ | ⟨-,he,hu⟩)
  ·rw [hd] at hc;cases hc
  ·exact ⟨he,hu⟩
theorem dropThere (tv:Value) (F:List Nat) (S:NS) (x i:Nat) (w:World) (H:IsNm w tv F S) (I:NInv S) (hal:S.al.length<90000) (hw:S.wk<549755813888) (h:place S x=some i) :
 Calls Tryz.prog 74 #[tv,.int .u32 (x:Int)] w fun e w'=>e=.returned (.tuple #[.int .i64 (i:Int),.bool true])∧NmStep w w' tv F (dropS S x):=by
 obtain ⟨k,h1,h2,h3⟩:=place_some h
 have hl:=I.len
 have hn:=I.cnt_le
 rw [←h3]
 exact dropOne tv F S x k w H I (by omega) (by omega) hw h1 h2
theorem dropFree (tv:Value) (F:List Nat) (S:NS) (x:Nat) (w:World) (H:IsNm w tv F S) (I:NInv S) (hal:S.al.length<90000) (h:place S x=none) :
 Calls Tryz.prog 74 #[tv,.int .u32 (x:Int)] w fun e w'=>e=.returned (.tuple #[.int .i64 0,.bool false])∧Upd [] w w':=by
 have hl:=I.len
 exact dropNot tv F S x w H I (by omega) h
end Go.Proofs.YtkbaaonchdeneaaGreat.Nm
