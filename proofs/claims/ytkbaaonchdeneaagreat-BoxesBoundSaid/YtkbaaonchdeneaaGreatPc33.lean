/- names' Put, of a new name: the walk. Printed by genNmL.py. names' Drop. names' Put and Drop, by -/
import Derived.Test.YtkbaaonchdeneaaGreatPc32
set_option maxHeartbeats 8000000
set_option maxRecDepth 100000
namespace Go.Proofs.YtkbaaonchdeneaaGreat
namespace Nm
open Go.RowKit
attribute [local go_sem ↓] Go.wp_at_zero Go.wp_at_succ
def S1 (S:NS) (p:Nat):NS:={ S with al:=S.al++[true],pl:=S.pl++[p],n:=S.n+1 }
theorem a2w (tv:Value) (F:List Nat) (S:NS) (x p:Nat) (w:World) (H:Gi w tv F S) (I:ED S) (hal:S.al.length<90000) (hw:S.wk<549755813888) (hk:S.cs.lookup x=none) :
 Calls Tryz.prog 72 #[tv,.int .u32 (x:Int),(p:Int)] w λe w'=>e=.returned (.int .i64 0)/\Ee w w' tv F (MC S x p):=by
 have hlen:=I.len;have hl:S.cs.length<90000:=by omega
 have hn:S.n<100000:=by rw [I.cnt];have:=List.count_le_length (a:=true) (l:=S.al);omega
 have HN:=AX (gZ tv F w H);have hfc:=ig tv F S x w H I hl;unfold MB at hfc;rw [hk] at hfc;have HF:=AX hfc;have HH:=AX H;have HI:=AX I;obtain ⟨q,cb,vb,vp,va,vs,bk,Fc,rfl,-⟩:=H;have hd:jA none = -1:=rfl;rw [hd] at HF;clear I hk hfc hd;go_enter Tryz.func72,Tryz.ntmps72
 go_wp2_with fail
 go_fit HN.out
 rintro e w' ⟨rfl,rfl⟩;go_wp2_with fail
 go_fit HF.out
 rintro e w1 ⟨t0,rfl,ht0,hu⟩;obtain ⟨q,cb,vb,vp,va,vs,bk,Fc,he,H1,hb,hF⟩:=HH.out.upd hu (by simp)
 cases he
 obtain ⟨A0,C0,hav⟩:∃A C,va=.slice A S.al.length C:=BD H1.FK;obtain ⟨A9,C9,hpv⟩:∃A C,vp=.slice A S.pl.length C:=BD H1.Ny;subst hav hpv;obtain ⟨-,-,-,-,h4,hfr⟩:=H1.cell;have hf4:=hfr 4;have n0:(0:Int)<=(S.n:Int):=AY _;have n1:(S.n:Int)<100000:=by omega
 have HU:=AX hu;have HB:=AX hb;have RX:=AX hF;have hH2:=H1.count (S.n+1);have he:Value.int .i64 ((S.n+1:Nat):Int)=Value.int .i64 ((S.n:Int)+1):=by congr 1
 rw [he] at hH2;have hu2:Bj [q] w1 (w1.setCell ⟨q,4,none⟩ (.int .i64 ((S.n:Int)+1))):=(Bj.refl _ _).setCell (p:=⟨q,4,none⟩) (.inl (by simp)) _;have Ej:=AX hu2;obtain ⟨c0,-,c2,c3,-,-⟩:=hH2.cell;have QZ:=AX hH2;have OA:q<w1.heap.size:=H1.head.lt;clear hu hb hF hfr hu2 hH2 H1;dsimp only;go_upto_region 7 with fail
 obtain ⟨w2,hw2⟩:∃W,W=w1.setCell ⟨q,4,none⟩ (.int .i64 ((S.n:Int)+1)):=⟨_,rfl⟩;rw [<-hw2] at Ej QZ c0 c2 c3 |-;clear h4 hf4 hw2;have a7z:q<w2.heap.size:=QZ.out.head.lt;obtain ⟨W,hW,hu3,hq3⟩:=CQ w2 #[.int .u32 (x:Int),(S.al.length:Int)] 172;go_upto_region 11 with fail
 rw [<-hW];have OB:=AX (QZ.out.BF hu3);have sW:=QZ.out.lt;have hqe:∀P∈parts q Fc vb vs (.slice A9 S.pl.length C9) (.slice A0 S.al.length C0),w2.heap.size∉P:=λP hP hc=>Nat.lt_irrefl _ (sW P hP _ hc)
 obtain ⟨qe,a2x⟩:∃k,w2.heap.size=k:=⟨_,rfl⟩;rw [a2x] at hq3 hqe |-;have HQE:=AX hqe;have xK:=AX hq3;have EJ:=Ap hu3 a2x;have bI:q<W.heap.size:=OB.out.head.lt;clear hW hu3 sW hqe a2x hq3 c0 c2 c3;obtain ⟨-,-,c2,c3,-,hfr⟩:=OB.out.cell;have f2:=hfr 2;have f3:=hfr 3;clear hfr;obtain ⟨ib,hib,hb0,hb1,hb2⟩:=info_parts Qo;obtain ⟨ii,hii,hi0,hi1,hi2⟩:=info_parts Uh;have lF:q∉blk (.slice A0 S.al.length C0):=λhc=>OB.out.E5 (i:=0) (j:=4) rfl rfl (by omega) q (by simp) hc
 have sH:q∉blk (.slice A9 S.pl.length C9):=λhc=>OB.out.E5 (i:=0) (j:=3) rfl rfl (by omega) q (by simp) hc
 have sJ:=AX OB.out.FK;have HA5:=AX OB.out.Ny;have hpl:S.pl.length<90000:=by rw [HI.out.pll];exact hal
 have sK:∀y∈blk (.slice A9 S.pl.length C9),y∉blk (.slice A0 S.al.length C0):=OB.out.E5 (i:=3) (j:=4) rfl rfl (by omega);have bf:=AX sK;clear sK
 have hsT:D5 ((W.alloc (.cells #[(p:Int)] 3)).alloc (.cells #[.bool true] 4)).drew 1 (.slice (some ⟨W.heap.size+1,0,none⟩) 1 1) 1 [.bool true]:=by
  have h0:(W.alloc (.cells #[(p:Int)] 3)).heap.size=W.heap.size+1:=by simp
  have:=(BK (W.alloc (.cells #[(p:Int)] 3)) #[.bool true] 4 1 1 rfl (by decide)).drew;rw [h0] at this;exact this
 have hsI:D5 ((W.alloc (.cells #[.bool true] 4)).alloc (.cells #[(p:Int)] 3)).drew 1 (.slice (some ⟨W.heap.size+1,0,none⟩) 1 1) 1 [(p:Int)]:=by
  have h0:(W.alloc (.cells #[.bool true] 4)).heap.size=W.heap.size+1:=by simp
  have:=(BK (W.alloc (.cells #[.bool true] 4)) #[(p:Int)] 3 1 1 rfl (by decide)).drew;rw [h0] at this;exact this
 have hsJ:D5 ((W.alloc (.cells #[(p:Int)] 3)).alloc (.cells #[.bool true] 4)).drew 1 (.slice (some ⟨W.heap.size,0,none⟩) 1 1) 1 [(p:Int)]:=
  (Dh (BK W #[(p:Int)] 3 1 1 rfl (by decide)) ((Bj.refl [] _).alloc _) (by simp)).drew
 have Xu:=BJ sJ.out;have hnI:∀y∈blk (.slice (some ⟨W.heap.size+1,0,none⟩) 1 1),y∉blk (.slice A0 S.al.length C0):=λy hy hc=>by have:=Xu y hc;simp [blk] at hy;omega
 have hnJ:∀y∈blk (.slice (some ⟨W.heap.size,0,none⟩) 1 1),y∉blk (.slice A0 S.al.length C0):=λy hy hc=>by have:=Xu y hc;simp [blk] at hy;omega
 have HNI:=AX hnI;have HNJ:=AX hnJ;have HST:=AX hsT;have HSI:=AX hsI;have HSJ:=AX hsJ;have HAV:=AX Xu;clear hsT hsI hsJ Xu hnI hnJ;obtain ⟨F3,hF3⟩:=AU ((parts q Fc vb vs (.slice A9 S.pl.length C9) (.slice A0 S.al.length C0)).flatten);have HF3:=AX hF3;clear hF3;go_cut [] (λwc=>Dp W wc q cb F3 bk (S1 S p))
 case first=>
  clear RX HU Ej EJ HI HB HQE xK hl hw hn HH QZ HN HF n0 n1 hlen ht0 OA a7z
  go_region_law (first
   |(
    refine ER _ (by rfl) _ _ 162 (by rfl) 0 4 ib (.bool false) 1 1 Tryz.underlying162 hib hb0 hb1 hb2 rfl (by decide) _ S.al.length (S.al.map .bool) (by rfl) (by first | exact EY (sJ.out.alloc _) | exact EY ((sJ.out.alloc _).alloc _)) _ 1 [.bool true] (by rfl) (by first | exact (BK _ #[.bool true] 4 1 1 rfl (by decide)).drew | exact (Dh (BK _ #[.bool true] 4 1 1 rfl (by decide)) ((Bj.refl [] _).alloc _) (by simp)).drew | exact HST.out) (by simp [Value.oneCell']) (by unfold maxLen;omega) (by omega) (Nat.zero_le _) ?_;intro A4 C4 w4 kE
    have sN:Bj (blk (.slice A0 S.al.length C0)) _ w4:=kE.upd;obtain ⟨Jq,zL,hb4⟩:=O9 (w:=W) (v:=.slice A0 S.al.length C0) (by first | exact ((Bj.refl _ W).alloc (.cells #[.bool true] 4)).drew | exact (((Bj.refl _ W).alloc (.cells #[.bool true] 4)).alloc (.cells #[(p:Int)] 3)).drew | exact (((Bj.refl _ W).alloc (.cells #[(p:Int)] 3)).alloc (.cells #[.bool true] 4)).drew) kE;clear kE;have HO4:=AX zL;have HB4:=AX hb4;clear zL hb4;have hx5:=(Jq.cell (p:=⟨q,2,none⟩) bI lF).trans c2;have a2p:∀o,(w4.alloc o).cell? ⟨q,2,none⟩=some (.slice A9 S.pl.length C9):=λo=>by rw [World.cell?_alloc_past _ _ _ (Bg bI Jq.size)];exact hx5)
   |(
    refine ER _ (by rfl) _ _ 163 (by rfl) 0 3 ii (.int .i64 0) 1 8 Tryz.underlying163 hii hi0 hi1 hi2 rfl (by decide) _ S.pl.length (S.pl.map λ(n:Nat)=>.int .i64 (n:Int)) (by rfl) (by first | exact (Bl HA5.out Jq bf.out).alloc _ | exact Bl HA5.out Jq bf.out) _ 1 [(p:Int)] (by rfl) (by
     first
      |exact BK w4 #[(p:Int)] 3 1 1 rfl (by decide)
      |exact Dh HSI.out sN (λ_ y hy _=>HNI.out y hy)
      |exact Dh HSJ.out sN (λ_ y hy _=>HNJ.out y hy)) (by simp [Value.oneCell']) (by unfold maxLen;omega) (by omega) (Nat.zero_le _) ?_;intro A5 C5 w5 HP5
    obtain ⟨JC,zM,hb5⟩:=O9 (w:=w4) (v:=.slice A9 S.pl.length C9) (by first | exact ((Bj.refl _ w4).alloc (.cells #[(p:Int)] 3)) | exact Bj.refl _ w4) HP5;clear HP5;have HO5:=AX zM;have HB5:=AX hb5;clear zM hb5 hx5 a2p;have Xv:q<w4.heap.size:=Bg bI Jq.size;have Oq:=(JC.cell (p:=⟨q,3,none⟩) Xv sH).trans ((Jq.cell (p:=⟨q,3,none⟩) bI lF).trans c3);have hst5:=(JC.cell (p:=⟨q,2,none⟩) Xv sH).trans ((Jq.cell (p:=⟨q,2,none⟩) bI lF).trans c2);have a7m:=(JC.frozen (p:=⟨q,3,none⟩) Xv sH).trans ((Jq.frozen (p:=⟨q,3,none⟩) bI lF).trans f3);have a7n:=(JC.frozen (p:=⟨q,2,none⟩) Xv sH).trans ((Jq.frozen (p:=⟨q,2,none⟩) bI lF).trans f2)))
  all_goals
   go_wp2_with fail
   go_meet
   case rel=>
    rw [<-HF3.out];exact OB.out.pushed Jq HO4.out HB4.out JC HO5.out HB5.out (by first | exact .inl rfl | exact .inr rfl)
 case rest=>
  clear c2 c3 f2 f3 HNI HNJ HST HSI HSJ HAV sJ HA5 bf hib hb0 hb1 hb2 hii hi0 hi1 hi2 lF sH;obtain ⟨w5,hw5⟩:∃V:World,V=wc:=⟨_,rfl⟩;subst hw5;obtain ⟨vb5,vp5,va5,vs5,Fc5,H5,EZ,hF5⟩:=hcut
  have L9:qe∉F3:=λhc=>by
   rw [<-HF3.out] at hc;obtain ⟨P,hP,hx⟩:=List.mem_flatten.1 hc;exact HQE.out P hP hx
  obtain ⟨e0,e1⟩:=(xK.out.upd EZ L9).cells2;have a2y:qe<w5.heap.size:=(xK.out.upd EZ L9).lt;obtain ⟨d0,-⟩:=H5.cell;have hq5:q<w5.heap.size:=H5.head.lt;have a5h:q∉Fc5:=λhc=>H5.E5 (i:=0) (j:=1) rfl rfl (by omega) q (by simp) hc
  have tV:qe∉Fc5:=λhc=>by
   rcases hF5 qe (Bz (i:=1) rfl hc) with g | g
   ·exact L9 g
   ·have:=xK.out.lt;omega
  have hbn:(setB S.cs).length<=20:=by rw [D6];exact BP S.cs.length 20 (by omega)
  have hfl:(setB S.cs).flatten.length<90000:=by rw [PY];exact hl
  have HH5:=AX H5;have Nv:=Ap EZ hF5;have dd0:w5.drew.cell? q=some (.pointer (some cb)):=d0;have de0:w5.drew.cell? qe=some (.int .u32 (x:Int)):=e0;have de1:w5.drew.cell? ⟨qe,1,none⟩=some (.int .i64 (S.al.length:Int)):=e1;clear H5 EZ hF5 L9 d0 e0 e1;go_upto_region 12 with fail
  go_region_held3 (λw'=>w'.cell? q=some (.pointer (some cb))/\w'.cell? qe=some (.int .u32 (x:Int))/\w'.cell? ⟨qe,1,none⟩=some (.int .i64 (S.al.length:Int)))
   (first
    |(exact ⟨dd0,de0,de1⟩)
    |(exact ⟨(g2.cell (p:=⟨q,0,none⟩) hq5 a5h).trans dd0,(g2.cell (p:=⟨qe,0,none⟩) a2y tV).trans de0,(g2.cell (p:=⟨qe,1,none⟩) a2y tV).trans de1⟩)
    |go_keep)
   ((go_at_call 126;refine (NH.a1Z cb Fc5 (x,S.al.length) _ _ _ _ (HH5.out.Om.upd ((Bj.refl [] w5).drew) (by simp)) (by show (setB S.cs).length<_;omega) (by show (setB S.cs).flatten.length<_;omega) (by show S.cs.length<_;omega) (by show S.wk<_;omega)).mono ?_;rintro e w6 ⟨A2,C2,rfl,Fc6,g1,g2,g3,g4,g5⟩))
  have Xm:Bj Fc5 w5 w6:=((Bj.refl [] w5).drew.mono (by simp)).trans' g2 (λy hy=>.inl hy);have hgl:=(Fz S.cs (x,S.al.length)).2;obtain ⟨G,hG⟩:=AU (Ec (setB S.cs) (x,S.al.length));obtain ⟨t,ht⟩:=AU (Bv (setB S.cs))
  have a7o:t<=20:=by
   have h1:=DT (setB S.cs);omega
  have hGl:G.length<100000:=by
   rw [<-hG,(Fz S.cs (x,S.al.length)).1,Bc,List.length_drop];simp;omega
  have htb:t<=bk.length:=by
   have h1:=DT (setB S.cs);have h2:=HB.1;omega
  have h6:=HH5.out.carry (w':=w6) (cs:=S.cs++[(x,S.al.length)]) (wk:=S.wk+(Ec (setB S.cs) (x,S.al.length)).length) (gU:=Fc6) (by rw [<-RH,Bc];exact g1) Xm g3;have h6:Eh w6 q cb vb5 vp5 va5 vs5 bk Fc6 (MC S x p):=h6;have hge:(Ec (setB (S1 S p).cs) (x,S.al.length))=G:=hG;have hfe:Bv (setB (S1 S p).cs)=t:=ht;rw [hge] at g4 g5 |-;rw [hfe];obtain ⟨F6,hF6⟩:=AU ((parts q Fc6 vb5 vs5 vp5 va5).flatten)
  have hSL:∀y∈blk (.slice A2 G.length C2),y∉F6:=by
   intro y hy hc;rw [<-hF6,show parts q Fc6 vb5 vs5 vp5 va5=(parts q Fc5 vb5 vs5 vp5 va5).set 1 Fc6 from rfl] at hc;rcases Ed hc with hc | hc
   ·have e1:=BH g4 y hy;obtain ⟨P,hP,hyP⟩:=List.mem_flatten.1 hc;have e2:=HH5.out.lt P hP y hyP;have e3:w5.drew.heap.size=w5.heap.size:=rfl;omega
   ·exact g5 y hy hc
  have a1g:∀(S':NS) (bk':List (List (Nat×Nat))) (w'':World),Dp w6 w'' q cb (F6++blk (.slice A2 G.length C2)) bk' S'->Dp w w'' q cb F bk' S':=by
   intro S' bk' w'' h
   have k1:Dp w5 w'' q cb (parts q Fc5 vb5 vs5 vp5 va5).flatten bk' S':=by
    refine Dp.next (Xm.mono (λy hy=>.inl (Bz (i:=1) rfl hy))) ?_ h
    intro y hy;rcases List.mem_append.1 hy with hy | hy
    case inr=>exact .inr (BH g4 y hy)
    rw [<-hF6,show parts q Fc6 vb5 vs5 vp5 va5=(parts q Fc5 vb5 vs5 vp5 va5).set 1 Fc6 from rfl] at hy;rcases Ed hy with g | g
    ·exact .inl g
    ·exact (g3 y g).imp (Bz (i:=1) rfl) id
   have k2:Dp W w'' q cb F3 bk' S':=Dp.next Nv.1 Nv.2 k1;have hF:F3=F:=by rw [<-HF3.out];exact RX.out.symm
   rw [hF] at k2;have k3:Dp w2 w'' q cb F bk' S':=Dp.next (EJ.1.mono (by simp)) (λy hy=>.inl hy) k2;have k4:Dp w1 w'' q cb F bk' S':=Dp.next (Ej.out.mono (λy hy=>.inl (by rw [RX.out];exact Bz (i:=0) (P:=[q]) rfl hy))) (λy hy=>.inl hy) k3;exact Dp.next (HU.out.mono (by simp)) (λy hy=>.inl hy) k4
  have Ih:=AX a1g;have HSL:=AX hSL;have zQ:=AX g4;have HG:=Aq hG ht hF6;have HH6:=AX h6;have Vj:Dp w6 w6 q cb F6 bk (MC S x p):=by rw [<-hF6];exact Dp.refl h6
  have tX:=AX Vj;have hslt:=BJ g4;have a7A:=AX hslt;clear a1g hSL g1 g2 g3 g4 g5 h6 hge hfe hG ht hF6 Vj hslt dd0 de0 de1 Xm hgl hq5 a2y a5h tV hbn hfl;have t0':(0:Int)<=(t:Int):=AY _;obtain ⟨i0,hi0,hz0,hz1,hz2⟩:=info_parts Uj;go_upto_block 0 with fail
  go_cut [] (λwc=>∃xU,t<xU.length/\xU.drop (t+1)=bk.drop (t+1)/\Dp w6 wc q cb F6 xU (MC S x p))
  case first=>
   go_wp2_with fail
   go_loopg [] (t+1 - bk.length) (λm wr=>∃n,m+n=t+1 - bk.length/\Dp w6 wr q cb F6 (bk++List.replicate n []) (MC S x p))
   case atStart=>exact ⟨0,rfl,by simpa using tX.out⟩
   case round=>
    obtain ⟨n,hmn,vb7,vp7,va7,vs7,Fc7,H7,QN,lS⟩:=hrel;obtain ⟨A7,C7,hv7⟩:=BD H7.rows.list;subst hv7;obtain ⟨n7,hn7⟩:=AU vs7.length;have tY:n7=bk.length+n:=by rw [<-hn7,H7.rows.len];simp
    obtain ⟨-,c1,-,-,-,hfr⟩:=H7.cell;have f1:=hfr 1;rw [hn7] at c1;have a6H:bk.length<=20:=by rw [HB.1,D6];exact BP S.cs.length 20 (by omega)
    have a8K:n7<=50:=by omega
    have hq7:q<wr.heap.size:=H7.head.lt;have xQ:q∉blk (.slice A7 n7 C7):=λhc=>H7.E5 (i:=0) (j:=2) rfl rfl (by omega) q (by simp) (BQ.2 (.inl (by rw [hn7];exact hc)))
    have tZ:wr.ownsRow 0 187 1 (.slice A7 n7 C7) n7 vs7:=by have:=H7.rows.list;rwa [hn7] at this
    have X3:=AX tZ;have HH7:=AX H7;have Oz:=Ap QN lS;have HM:=Aq hmn tY hn7;by_cases hlt:n7<=t
    ·have hlt2:(n7:Int)<=(t:Int):=by omega
     clear hmn tY hn7 H7 QN lS hfr tZ;go_upto_region 14 with fail
     go_wp2_with (at_builtin;refine BM _ rfl _ _ 173 rfl 0 187 i0 (.slice none 0 0) 1 24 Tryz.underlying173 hi0 hz0 hz1 hz2 rfl (by decide) _ n7 vs7 rfl (X3.out.alloc _) _ 1 [.slice none 0 0] rfl (BK wr #[.slice none 0 0] 187 1 1 rfl (by decide)) (by simp [Value.oneCell']) (by unfold maxLen;omega) (by omega) (Nat.zero_le _) ?_)
     intro A8 C8 w8 HP
     have hst1:w8.cell? ⟨q,1,none⟩=some (.slice A7 n7 C7):=by
      rw [(HP.upd).cell (p:=⟨q,1,none⟩) (by simp;omega) xQ,World.cell?_alloc_past _ _ _ hq7];exact c1
     have hst2:w8.frozen? ⟨q,1,none⟩=false:=by
      rw [(HP.upd).frozen (p:=⟨q,1,none⟩) (by simp;omega) xQ,World.frozen?_alloc_past _ _ _ hq7];exact f1
     have zn:=AX HP;clear HP c1 f1;go_wp2_with fail
     go_roundg (gk - 1)
     case measure=>have:=HM.out;omega
     case rel=>
      have hpp:=zn.out;obtain ⟨m1,m2,m3⟩:=HM.out;rw [<-m3] at hpp;have hwd:=HH7.out.wide hpp rfl;rw [m3] at hwd;have hst:=Dp.next Oz.1 Oz.2 (by rw [m3];exact hwd);refine ⟨n+1,by omega,?_⟩
      rw [List.append_assoc,<-List.replicate_succ'] at hst;exact hst
    ·have hlt2:¬(n7:Int)<=(t:Int):=by omega
     clear hmn tY hn7 H7 QN lS hfr tZ;have JO:=AX hlt;clear hlt;go_wp2_with fail
     go_meet
     case rel=>
      obtain ⟨m1,m2,m3⟩:=HM.out;refine ⟨bk++List.replicate n [],by simp;have:=JO.out;omega,?_,⟨_,_,_,_,_,HH7.out,Oz.1,Oz.2⟩⟩
      rcases Nat.lt_or_ge t bk.length with h | h
      ·have:n=0:=by omega
       subst this;simp
      ·rw [List.drop_eq_nil_of_le (by simp;omega),List.drop_eq_nil_of_le (by omega)]
  case rest=>
   obtain ⟨w7,hw7⟩:∃V:World,V=wc:=⟨_,rfl⟩;subst hw7;obtain ⟨xU,hb7,hdp,hs7⟩:=hcut;have HS7:=AX hs7;have HDP:=AX hdp;clear hs7 hdp;go_upto_block 2 with fail
   go_cut [] (λwc=>Dp w6 wc q cb F6 (List.replicate t []++xU.drop t) (MC S x p))
   case first=>
    go_wp2_with fail
    go_loopg [106] t (λm s wr=>∃k:Nat,m+k=t/\s=.int .i64 (k:Int)/\Dp w6 wr q cb F6 (List.replicate k []++xU.drop k) (MC S x p))
    case atStart=>exact ⟨0,by omega,rfl,by simpa using HS7.out⟩
    case round=>
     obtain ⟨k,hk,rfl,vb8,vp8,va8,vs8,Fc8,H8,gX,zS⟩:=hrel;have b0:(0:Int)<=(k:Int):=AY _;have nS:=Ap gX zS;have HH8:=AX H8;have HK:=AX hk;by_cases hlt:k<t
     ·have b1:(k:Int)<(t:Int):=by omega
      obtain ⟨A8,C8,hv8⟩:=BD H8.rows.list;subst hv8;obtain ⟨n8,hn8⟩:=AU vs8.length;have a5i:n8=xU.length:=by rw [<-hn8,H8.rows.len];simp;omega
      obtain ⟨g,Ak,Ck,hA,hv,hcell,hfro,hrow⟩:=H8.rows.at (k:=k) (by simp;omega);subst hA;obtain ⟨u8,a7B⟩:∃u,wr.cell? ⟨g,k,none⟩=some u:=⟨_,hcell⟩;clear hcell;obtain ⟨-,c1,-⟩:=H8.cell;have htn:=H8.turn rfl k (.slice none 0 0) [] (World.ownsRow_nil _ _ _ _) (by simp [blk]);rw [lN xU k (by omega)] at htn;have HTN:=AX htn;rw [hn8] at c1;have b2:(k:Int)<(n8:Int):=by omega
      clear hrow hv hn8 a5i H8 gX zS hk htn;go_wp2_with fail
      go_roundg (t - (k+1))
      case measure=>have:=HK.out;omega
      case rel=>
       obtain ⟨k1,k2,k3⟩:=HTN.out;exact ⟨k+1,Ac HK,by go_num,Dp.next nS.1 nS.2 ⟨_,_,_,_,_,k1,k2,λy hy=>by rcases k3 y hy with g | g;exact .inl g;simp [blk] at g⟩⟩
     ·have hkt:k=t:=by omega
      subst hkt;clear gX zS H8 hk;go_wp2_with fail
      go_meet
      case rel=>exact ⟨_,_,_,_,_,HH8.out,nS.1,nS.2⟩
   case rest=>
    obtain ⟨w8,hw8⟩:∃V:World,V=wc:=⟨_,rfl⟩;subst hw8;obtain ⟨vb9,vp9,va9,vs9,Fc9,H9,X6,hF9⟩:=hcut;obtain ⟨A9',C9',hv9⟩:=BD H9.rows.list;subst hv9;obtain ⟨g,Ak,Ck,hA,hv,hcell,hfro,hrow⟩:=H9.rows.at (k:=t) (by simp;omega);subst hA;obtain ⟨u9,uf⟩:∃u,w8.cell? ⟨g,t,none⟩=some u:=⟨_,hcell⟩;clear hcell;obtain ⟨n9,hn9⟩:=AU vs9.length;have a5j:n9=xU.length:=by rw [<-hn9,H9.rows.len];simp;omega
    obtain ⟨-,c1,-⟩:=H9.cell;rw [hn9] at c1;have hq9:q<w8.heap.size:=H9.head.lt;have hgP:g∈(parts q Fc9 (.slice (some ⟨g,0,none⟩) vs9.length C9') vs9 vp9 va9).flatten:=Bz (i:=2) rfl (BQ.2 (.inl (by simp [blk])));have hg9:g<w8.heap.size:=World.block_lt_of_cell? _ _ uf;have a1h:=Bl zQ.out X6 HSL.out;have hqP:q∈(parts q Fc9 (.slice (some ⟨g,0,none⟩) vs9.length C9') vs9 vp9 va9).flatten:=Bz (i:=0) (P:=[q]) rfl (by simp)
    have hout:∀y∈blk (.slice A2 G.length C2),y∉(parts q Fc9 (.slice (some ⟨g,0,none⟩) vs9.length C9') vs9 vp9 va9).flatten:=by
     intro y hy hc;rcases hF9 y hc with h | h
     ·exact HSL.out y hy h
     ·have:=a7A.out y hy;omega
    have PO:q∉blk (.slice A2 G.length C2):=λhc=>hout q hc hqP
    have hgb:g∉blk (.slice A2 G.length C2):=λhc=>hout g hc hgP
    have hqg:q≠g:=λe=>H9.E5 (i:=0) (j:=2) rfl rfl (by omega) q (by simp) (BQ.2 (.inl (by simp [blk,e])))
    have hgq:g≠q:=Ne.symm hqg;have HH9:=AX H9;have kU:=Ap X6 hF9;have nT:=AX a1h;have a5k:=AX hout;have HN9:=AX hn9;have b1:(t:Int)<(n9:Int):=by omega
    have d1:w8.drew.cell? ⟨q,1,none⟩=some (.slice (some ⟨g,0,none⟩) n9 C9'):=c1;clear hrow hv H9 X6 hF9 hn9 a5j a1h hout hqP hgP;go_upto_region 20 with fail
    go_region_held3 (λw'=>w'.cell? ⟨q,1,none⟩=some (.slice (some ⟨g,0,none⟩) n9 C9'))
     (first
      |go_keep
      |(exact (u10.cell (p:=⟨q,1,none⟩) hq9 PO).trans d1)
      |(rw [World.cell?_setCell_other _ _ _ _ (by simp [hqg])];exact (u10.cell (p:=⟨q,1,none⟩) hq9 PO).trans d1)
      |(rw [World.cell?_setCell_other _ _ _ _ (by simp [hgq])];exact (u10.cell (p:=⟨q,1,none⟩) hq9 PO).trans d1))
     ((go_at_call 127;refine (gY _ _ G _ (Bl nT.out ((Bj.refl [] w8).drew) (by simp)) (by omega)).mono ?_;rintro e w10 ⟨rfl,u10,l10,p10,s10,r10⟩;have hst1:=(u10.cell (p:=⟨g,t,none⟩) hg9 hgb).trans uf;have hst2:=(u10.frozen (p:=⟨g,t,none⟩) hg9 hgb).trans hfro))
    all_goals
     have H10:=HH9.out.upd (((Bj.refl [] w8).drew.mono (G:=blk (.slice A2 G.length C2)) (by simp)).trans u10) (λP hP y hy hc=>a5k.out y hc (List.mem_flatten.2 ⟨P,hP,hy⟩));have htn:=H10.turn rfl t (.slice A2 G.length C2) l10 (own_base (by have:=r10;rw [<-p10.length_eq] at *;exact this) (Nat.zero_le _)) a5k.out;rw [a2s xU t l10 hb7,HDP.out] at htn;have HTN:=AX htn;have a7C:=Aq p10 s10 u10;clear H10 htn p10 s10 u10 r10 hst1 hst2;go_wp2_with fail
     go_ret
     obtain ⟨k1,k2,k3⟩:=HTN.out;obtain ⟨p10,s10,u10⟩:=a7C.out;obtain ⟨g1,g2,g3⟩:=HG.out;have hbk:=a0a HB.out (e:=(x,S.al.length)) (l:=l10) (by rw [g1];exact p10) s10;rw [g2] at hbk;refine ⟨rfl,Dp.is (Ih.out _ _ _ ?_) hbk⟩
     refine ⟨_,_,_,_,_,k1,?_,?_⟩
     ·have hdw:Bj (F6++blk (.slice A2 G.length C2)) w8 w10:=((Bj.refl [] w8).drew.mono (by simp)).trans (u10.mono (λy hy=>.inl (List.mem_append.2 (.inr hy))));refine ((kU.1.mono (λy hy=>.inl (List.mem_append.2 (.inl hy)))).trans hdw).trans' k2 (λy hy=>?_)
      exact (kU.2 y hy).imp (λh=>List.mem_append.2 (.inl h)) id
     ·intro y hy;rcases k3 y hy with h | h
      ·exact (kU.2 y h).imp (λh=>List.mem_append.2 (.inl h)) id
      ·exact .inl (List.mem_append.2 (.inr h))
end Nm
namespace Nm
open Go.RowKit
theorem a5l {w w2:World} {q cb:Nat} {vb vp va:Value} {vs:List Value} {bk:List (List (Nat×Nat))} {Fc:List Nat} {S:NS} (H:Eh w q cb vb vp va vs bk Fc S) (hu:Bj [] w w2) :
 Calls Tryz.prog 130 #[.pointer (some cb)] w2 λe w'=>e=.returned (.int .i64 (S.cs.length:Nat))/\w2=w':=
 NH.zo cb Fc (setB S.cs) S.cs.length S.wk w2 (H.Om.upd hu (by simp))
theorem a0j (tv:Value) (F:List Nat) (S:NS) (x:Nat) (w:World) (H:Gi w tv F S) (I:ED S) (hl:S.cs.length<90000) (hk:place S x=none) :
 Calls Tryz.prog 74 #[tv,.int .u32 (x:Int)] w λe w'=>e=.returned (.tuple #[.int .i64 0,.bool false])/\Bj [] w w':=by
 have HN:=AX (gZ tv F w H);have HF:=AX (ig tv F S x w H I hl);have HH:=AX H;have HI:=AX I;obtain ⟨q,cb,vb,vp,va,vs,bk,Fc,rfl,-⟩:=H;obtain ⟨o,ho⟩:=AU (S.cs.lookup x);clear I;go_enter Tryz.func74,Tryz.ntmps74
 go_wp2_with fail
 go_fit HN.out
 rintro e w' ⟨rfl,rfl⟩;go_wp2_with fail
 go_fit HF.out
 rintro e w' ⟨t,rfl,ht,hu⟩;have HU:=AX hu;rw [ho]
 cases o with
 |none=>
  have hd:jA none = -1:=rfl;rw [hd];clear hk ho hu hd;dsimp only;go_wp2_with fail
  go_ret2
  exact ⟨rfl,HU.out⟩
 |some k=>
  obtain ⟨hk1,hk2⟩:=Ou HI.out ho;obtain ⟨q,cb,vb,vp,va,vs,bk,Fc,he,H,hb,hF⟩:=HH.out.upd hu (by simp)
  cases he
  obtain ⟨-,-,h2,h3,-⟩:=H.cell;obtain ⟨ga,Ca,rfl,a1,-⟩:=Ui H.FK hk1;have k0:(0:Int)<=(k:Int):=AY _;have k1:(k:Int)<(S.al.length:Int):=by omega
  have k3:¬(k:Int)<0:=by omega
  have hd:jA (some k)=(k:Int):=rfl;rw [hd]
  have hal:S.al.getD k false=false:=by
   unfold place at hk;rw [ho] at hk;by_cases h:S.al.getD k false=true
   ·dsimp only at hk;rw [if_pos h] at hk;cases hk
   ·simpa using h
  rw [hal] at a1;clear H hb hF hd hk ho hu hal hk1 hk2;dsimp only;go_wp2_with fail
  go_ret2
  exact ⟨rfl,HU.out⟩
theorem Sj (tv:Value) (F:List Nat) (S:NS) (x k:Nat) (w:World) (H:Gi w tv F S) (I:ED S) (hl:S.cs.length<90000) (hn:S.n<100000) (hw:S.wk<549755813888) (hk:S.cs.lookup x=some k) (ha:S.al.getD k false=true) :
 Calls Tryz.prog 74 #[tv,.int .u32 (x:Int)] w λe w'=>e=.returned (.tuple #[.int .i64 ((S.pl.getD k 0:Nat):Int),.bool true])/\Ee w w' tv F (Dk S x):=by
 have HN:=AX (gZ tv F w H);have hfc:=ig tv F S x w H I hl;unfold MB at hfc;rw [hk] at hfc;have HF:=AX hfc;have HH:=AX H;have HI:=AX I;obtain ⟨q,cb,vb,vp,va,vs,bk,Fc,rfl,-⟩:=H;obtain ⟨hk1,hk2⟩:=Ou I hk;have hd:jA (some k)=(k:Int):=rfl;rw [hd] at HF
 have hpos:0<S.n:=by
  have:=KR ha;rw [I.cnt];omega
 have hds:Dk S x=if S.cs.length > 2*(S.n - 1) then Ph (Pj S k) else Pj S k:=by unfold Dk;rw [hk]
 have HDS:=AX hds;obtain ⟨pv,hpv⟩:=AU (S.pl.getD k 0);rw [hpv];have nO:=AX hpv;clear I hk hfc hd hds;go_enter Tryz.func74,Tryz.ntmps74
 go_wp2_with fail
 go_fit HN.out
 rintro e w' ⟨rfl,rfl⟩;go_wp2_with fail
 go_fit HF.out
 rintro e w1 ⟨t,rfl,ht,hu⟩;have HU:=AX hu;obtain ⟨q,cb,vb,vp,va,vs,bk,Fc,he,H1,hb,hF⟩:=HH.out.upd hu (by simp)
 cases he
 obtain ⟨h0,-,h2,h3,h4,hfr⟩:=H1.cell;obtain ⟨ga,Ca,rfl,a1,a2,-⟩:=Ui H1.FK hk1;obtain ⟨gp,Cp,rfl,p1,p2,-⟩:=Pe H1.Ny hk2;have hf4:=hfr 4;have k0:(0:Int)<=(k:Int):=AY _;have k1:(k:Int)<(S.al.length:Int):=by omega
 have k2:(k:Int)<(S.pl.length:Int):=by omega
 have k3:¬(k:Int)<0:=by omega
 rw [ha] at a1;have n0:(0:Int)<(S.n:Int):=by omega
 have n1:(S.n:Int)<100000:=by omega
 have hqa:q≠ga:=λe=>H1.E5 (i:=0) (j:=4) rfl rfl (by omega) q (by simp) (by simp [blk,e])
 have xR:q≠gp:=λe=>H1.E5 (i:=0) (j:=3) rfl rfl (by omega) q (by simp) (by simp [blk,e])
 have hap:ga≠gp:=λe=>H1.E5 (i:=4) (j:=3) rfl rfl (by omega) ga (by simp [blk]) (by simp [blk,e])
 have hm1:=H1.mark rfl k false;have hm2:=hm1.count (S.n - 1);have he:Value.int .i64 ((S.n - 1:Nat):Int)=Value.int .i64 ((S.n:Int) - 1):=by congr 1;omega
 rw [he] at hm2
 have hus:Bj (parts q Fc vb vs (.slice (some ⟨gp,0,none⟩) S.pl.length Cp) (.slice (some ⟨ga,0,none⟩) S.al.length Ca)).flatten w1 ((w1.setCell ⟨ga,k,none⟩ (.bool false)).setCell ⟨q,4,none⟩ (.int .i64 ((S.n:Int) - 1))):=
  ((Bj.refl _ _).setCell (p:=⟨ga,k,none⟩) (.inl (Bz (i:=4) (P:=[ga]) rfl (by simp))) _).setCell (p:=⟨q,4,none⟩) (.inl (Bz (i:=0) (P:=[q]) rfl (by simp))) _
 have e4:(w1.setCell ⟨ga,k,none⟩ (.bool false)).cell? ⟨q,4,none⟩=some (.int .i64 (S.n:Int)):=by rw [World.cell?_setCell_other _ _ _ _ (by simp)];exact h4
 have e4f:(w1.setCell ⟨ga,k,none⟩ (.bool false)).frozen? ⟨q,4,none⟩=false:=by rw [World.frozen?_setCell];exact hf4
 have oz:=AX hm2;have HUS:=AX hus;have HB:=AX hb;have RX:=AX hF;clear hm1 hm2 hus hb hF H1 hu hfr hk1 hk2 he;dsimp only;go_upto_region 7 with fail
 clear h0 h2 h3 h4 a1 a2 p1 p2 hf4;go_upto_region 8 with fail
 obtain ⟨w2,hw2⟩:∃W,W=((w1.setCell ⟨ga,k,none⟩ (.bool false)).setCell ⟨q,4,none⟩ (.int .i64 ((S.n:Int) - 1))):=⟨_,rfl⟩;rw [<-hw2] at oz HUS |-;clear e4 e4f hw2;obtain ⟨c0,-,c2,c3,c4',-⟩:=oz.out.cell;obtain ⟨M,hM⟩:=AU (S.n - 1);have c4:w2.cell? ⟨q,4,none⟩=some (.int .i64 (M:Int)):=by rw [<-hM];exact c4'
 clear c4';have m0:(0:Int)<=(M:Int):=AY _;have m1:(M:Int)<100000:=by omega
 have hwr:IntKind.i64.wrap (2*(M:Int))=2*(M:Int):=IntWalk.i64_in _ (by omega);have hpl2:=oz.out.Ny;have hkp:k<S.pl.length:=by omega
 obtain ⟨gp',Cp',hpe,p0,-⟩:=Pe hpl2 (k:=k) hkp
 cases hpe
 have p1:w2.cell? ⟨gp,k,none⟩=some (.int .i64 (pv:Int)):=by rw [<-hpv];exact p0
 clear p0;have HST:=AX (⟨_,_,_,_,_,oz.out,HUS.out,λx hx=>.inl hx⟩:Dp w1 w2 q cb (parts q Fc vb vs (.slice (some ⟨gp,0,none⟩) S.pl.length Cp) (.slice (some ⟨ga,0,none⟩) S.al.length Ca)).flatten bk (Pj S k));have l0:(0:Int)<=(S.cs.length:Int):=AY _;have l1:(S.cs.length:Int)<90000:=by omega
 by_cases hbig:S.cs.length > 2*(S.n - 1)
 ·have hb2:2*(M:Int)<(S.cs.length:Int):=by omega
  have HBG:=AX hbig;have HAN:=AX (λn=>a4Z (oz.out.BF ((Bj.refl [] w2).drewN n)) (by intro y hy;show y.2<(S.al.set k false).length;rw [List.length_set];exact HI.out.lt y hy) (by show S.cs.length<_;omega) (by show S.wk<_;omega));clear hbig hpl2 hpv p1 hkp;go_quiet (first | (go_at_call 130;refine Calls.quiet_of_same ((a5l oz.out ((Bj.refl [] w2).drewN _)).mono λ_ _ h=>⟨h.1,h.2.symm⟩)))
  clear c0 c2 c3 c4 hwr;go_wp2_with fail
  go_fit (HAN.out _)
  rintro e w3 ⟨rfl,h3⟩;have h3':Ee w2 w3 (.pointer (some q)) (parts q Fc vb vs (.slice (some ⟨gp,0,none⟩) S.pl.length Cp) (.slice (some ⟨ga,0,none⟩) S.al.length Ca)).flatten (Ph (Pj S k)):=h3.ahead ((Bj.refl [] w2).drewN _);obtain ⟨F3,⟨q3,cb3,vb3,vp3,va3,vs3,bk3,Fc3,he,H3,hb3,hF3⟩,hu3,hf3⟩:=h3'
  cases he
  obtain ⟨-,-,c2',-⟩:=H3.cell;obtain ⟨gp3,Cp3,rfl,p0,-⟩:=Pe H3.Ny (k:=k) (by show k<S.pl.length;omega);have p1:w3.cell? ⟨gp3,k,none⟩=some (.int .i64 (pv:Int)):=by rw [<-nO.out];exact p0
  have c2:w3.cell? ⟨q,2,none⟩=some (.slice (some ⟨gp3,0,none⟩) S.pl.length Cp3):=c2';clear c2' p0;have HF:=AX (⟨F3,⟨q,cb3,vb3,_,va3,vs3,bk3,Fc3,rfl,H3,hb3,hF3⟩,hu3,hf3⟩:Ee w2 w3 (.pointer (some q)) (parts q Fc vb vs (.slice (some ⟨gp,0,none⟩) S.pl.length Cp) (.slice (some ⟨ga,0,none⟩) S.al.length Ca)).flatten (Ph (Pj S k)));clear H3 hb3 hF3 hu3 hf3 h3;go_wp2_with fail
  go_ret2
  refine ⟨rfl,?_⟩
  rw [HDS.out,if_pos HBG.out];obtain ⟨F3,h3,hu3,hf3⟩:=HF.out;rw [RX.out];refine ⟨F3,h3,(HU.out.mono (by simp)).trans (HUS.out.trans hu3),λy hy=>?_⟩
  rcases hf3 y hy with g | g
  ·exact .inl g
  ·exact .inr (Bh (Bh HU.out.size HUS.out.size) g)
 ·have hb2:¬2*(M:Int)<(S.cs.length:Int):=by omega
  have HBG:=AX hbig;clear hbig hpl2 hpv hkp;go_quiet (first | (go_at_call 130;refine Calls.quiet_of_same ((a5l oz.out ((Bj.refl [] w2).drewN _)).mono λ_ _ h=>⟨h.1,h.2.symm⟩)))
  clear hwr;go_wp2_with fail
  go_ret2
  refine ⟨rfl,?_⟩
  rw [HDS.out,if_neg HBG.out,RX.out];exact ((Dp.is HST.out HB.out).ahead HU.out).quiet ((Bj.refl _ _).drewN _)
end Nm
namespace Nm
open Go.RowKit
theorem Us {S:NS} {x i:Nat} (h:place S x=some i):∃k,S.cs.lookup x=some k/\S.al.getD k false=true/\S.pl.getD k 0=i:=by
 unfold place at h
 cases hk:S.cs.lookup x with
 |none=>rw [hk] at h;cases h
 |some k=>
  rw [hk] at h;dsimp only at h;split at h
  ·rename_i ha
   cases h
   exact ⟨k,rfl,ha,rfl⟩
  ·cases h
theorem ED.cnt_le {S:NS} (I:ED S):S.n<=S.al.length:=by rw [I.cnt];exact List.count_le_length
theorem ug (tv:Value) (F:List Nat) (S:NS) (x p:Nat) (w:World) (H:Gi w tv F S) (I:ED S) (hal:S.al.length<90000) (h:(place S x).isSome=true) :
 Calls Tryz.prog 72 #[tv,.int .u32 (x:Int),(p:Int)] w λe w'=>e=.returned (.int .i64 2)/\Bj [] w w':=by
 obtain ⟨i,hi⟩:=Option.isSome_iff_exists.1 h;obtain ⟨k,h1,h2,-⟩:=Us hi;have hl:=I.len;have hn:=I.cnt_le;refine (tC tv F S x p k w H I (by omega) (by omega) h1).mono ?_
 rintro e w' (⟨-,he,hu⟩ | ⟨hc,-⟩)
 ·exact ⟨he,hu⟩
 ·rw [h2] at hc;cases hc
theorem a0k (tv:Value) (F:List Nat) (S:NS) (x p:Nat) (w:World) (H:Gi w tv F S) (I:ED S) (hal:S.al.length<90000) (hw:S.wk<549755813888) (h:place S x=none) :
 Calls Tryz.prog 72 #[tv,.int .u32 (x:Int),(p:Int)] w λe w'=>e=.returned (.int .i64 0)/\Ee w w' tv F (Nz S x p):=by
 have hl:=I.len;have hn:=I.cnt_le
 cases hk:S.cs.lookup x with
 |none=>
  have e:Nz S x p=MC S x p:=by unfold Nz;rw [hk]
  rw [e];exact a2w tv F S x p w H I hal hw hk
 |some k=>
  have e:Nz S x p=bD S k p:=by unfold Nz;rw [hk]
  rw [e]
  have hd:S.al.getD k false=false:=by
   unfold place at h;rw [hk] at h;dsimp only at h;split at h
   ·cases h
   ·rename_i hh;simpa using hh
  refine (tC tv F S x p k w H I (by omega) (by omega) hk).mono ?_
  rintro e w' (⟨hc,-⟩ | ⟨-,he,hu⟩)
  ·rw [hd] at hc;cases hc
  ·exact ⟨he,hu⟩
theorem lT (tv:Value) (F:List Nat) (S:NS) (x i:Nat) (w:World) (H:Gi w tv F S) (I:ED S) (hal:S.al.length<90000) (hw:S.wk<549755813888) (h:place S x=some i) :
 Calls Tryz.prog 74 #[tv,.int .u32 (x:Int)] w λe w'=>e=.returned (.tuple #[(i:Int),.bool true])/\Ee w w' tv F (Dk S x):=by
 obtain ⟨k,h1,h2,h3⟩:=Us h;have hl:=I.len;have hn:=I.cnt_le;rw [<-h3];exact Sj tv F S x k w H I (by omega) (by omega) hw h1 h2
theorem uj (tv:Value) (F:List Nat) (S:NS) (x:Nat) (w:World) (H:Gi w tv F S) (I:ED S) (hal:S.al.length<90000) (h:place S x=none) :
 Calls Tryz.prog 74 #[tv,.int .u32 (x:Int)] w λe w'=>e=.returned (.tuple #[.int .i64 0,.bool false])/\Bj [] w w':=by
 have hl:=I.len;exact a0j tv F S x w H I (by omega) h
