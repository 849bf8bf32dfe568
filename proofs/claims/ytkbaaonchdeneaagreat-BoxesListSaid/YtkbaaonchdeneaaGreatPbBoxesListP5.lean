/- gridironlaw25.list. -/
import Derived.Test.YtkbaaonchdeneaaGreatPbBoxesListP4
set_option maxHeartbeats 8000000
set_option maxRecDepth 100000
namespace Go.Proofs.YtkbaaonchdeneaaGreat.GN
open Go.RowKit
open Go.Proofs.YtkbaaonchdeneaaGreat.Ps
theorem a0e (L:List Bx) (x:Nat):∃(b:Bx) (t:Bool),bxO (GL L x)=.agg #[.int .i64 b.x1,.int .i64 b.x2,.int .i64 b.y1,.int .i64 b.y2,.int .u32 (b.id:Int)]∧(GL L x).isSome=t∧(t=true→GL L x=some b)∧(t=false→GL L x=none):=by
 cases h:GL L x with
 |none=>exact ⟨⟨0,0,0,0,0⟩,false,rfl,rfl,fun e=>(by cases e),fun _=>rfl⟩
 |some b=>exact ⟨b,true,rfl,rfl,fun _=>rfl,fun e=>(by cases e)⟩
theorem a0f {l:List Bx} {x j:Nat} {u:Bx} (h:l[j]? = some u):(l.take (j+1)).any (fun v=>v.id==x)=((l.take j).any (fun v=>v.id==x)||u.id==x):=by
 obtain ⟨g1,g2⟩:=AV h;rw [AZ g1,g2,List.any_append];simp
theorem a8F {w0 w:World} {tv:Value} {S:Ec} {F:List Nat} (h:Held w0 w tv S F) (v:Value) (os:List Qp) (hv:See VQ w v os) (hin:∀o∈os,o.BO) (hl:os.length≤100) (ht:S.t<999) :
 Calls Tryz.prog 53 #[tv,v] w fun e w'=>∃A C,e=.returned (.slice A (Ku (Cj S) (os.map fun o=>o.s.id)).length C)∧G5.row w' w.heap.size (.slice A (Ku (Cj S) (os.map fun o=>o.s.id)).length C) (Ku (Cj S) (os.map fun o=>o.s.id))∧Bf [] w w':=by
 obtain ⟨A,C,rfl⟩:=hv.form;obtain ⟨i1,hi1,hy0,hy1,hy2⟩:=info_parts EI.QG;obtain ⟨q,hq⟩:∃q,tv=.pointer (some ⟨q,0,none⟩):=by obtain ⟨q,_,_,_,_,_,e,-⟩:=h.is;exact ⟨q,e⟩
 subst hq;obtain ⟨N,hN⟩:=AO os.length;obtain ⟨xs,hxs⟩:∃xs,(os.map fun o=>o.s.id)=xs:=⟨_,rfl⟩;have hxN:xs.length=N:=by rw [←hxs,List.length_map,hN]
 have hlen:∀k,(Ku (Cj S) (xs.take k)).length≤k:=fun k=>by
  refine Bd (Zj _ _).2.2.2 ?_
  rw [Ba];omega
 rw [hxs];rw [hN] at hl hv ⊢;have n0:(0:Int)≤(N:Int):=AU _;have H:=AQ hv;have HN:=Ap hN hxs hxN hlen;have ZE:=AQ hin;have HG:=AQ (fun (w9:World) (hu:Bf [] w w9) (x:Nat)=>kY (h.quiet hu) x ht);clear h hv hin hN hxs hxN hlen ht;go_enter Tryz.func53,Tryz.ntmps53
 go_wp2_with fail
 go_loopg [5,14] N (fun m s5 s14 wr=>∃(k:Nat) (vo:Value),vo=s5∧m+k=N∧s14=.int .i64 (k:Int)∧G5.row wr w.heap.size vo (Ku (Cj S) (xs.take k))∧Bf [] w wr)
 case atStart=>exact ⟨0,_,rfl,rfl,rfl,World.ownsRow_nil _ _ _ _,Bf.refl _ _⟩
 case round=>
  obtain ⟨k,vo,hvo,hk,rfl,hrow,hup⟩:=hrel;subst hvo;have k0:(0:Int)≤(k:Int):=AU _;have hkN:k≤N:=by omega
  obtain ⟨Ar,Cr,hvr⟩:=Bv hrow;subst hvr;obtain ⟨wl,rfl⟩:∃wl:World,wl=wr:=⟨_,rfl⟩;by_cases hlt:k<N
  ·obtain ⟨o,ho⟩:∃o,os[k]? = some o:=⟨_,AX (by rw [HN.1];exact hlt)⟩;have hoi:o.BO:=ZE.out o (List.mem_of_getElem? ho);have hxk:xs[k]? = some o.s.id:=by rw [←HN.2.1,List.getElem?_map,ho];rfl
   obtain ⟨g,og,hA,-,-,ey⟩:=(H.out.Bh hup).at ho
   cases hA
   have y0:wl.cell? ⟨g,og+k*8,none⟩=some (.int .u8 (o.u:Int)):=ey 0 _ rfl;have y1:wl.cell? ⟨g,og+k*8+1,none⟩=some (.int .i64 o.s.x1):=ey 1 _ rfl;have y2:wl.cell? ⟨g,og+k*8+2,none⟩=some (.int .i64 o.s.x2):=ey 2 _ rfl;have y3:wl.cell? ⟨g,og+k*8+3,none⟩=some (.int .i64 o.s.y1):=ey 3 _ rfl;have y4:wl.cell? ⟨g,og+k*8+4,none⟩=some (.int .i64 o.s.y2):=ey 4 _ rfl;have y5:wl.cell? ⟨g,og+k*8+5,none⟩=some (.int .u32 (o.s.id:Int)):=ey 5 _ rfl;have y6:wl.cell? ⟨g,og+k*8+6,none⟩=some (.int .i64 o.x):=ey 6 _ rfl;have y7:wl.cell? ⟨g,og+k*8+7,none⟩=some (.int .i64 o.y):=ey 7 _ rfl;have b1:(k:Int)<(N:Int):=by omega
   have hstep:=a0d (L:=Cj S) hxk;have hlk:=HN.2.2.2 k;obtain ⟨G,hG⟩:=AO (Ku (Cj S) (xs.take k));rw [hG] at hrow hlk hstep ⊢;obtain ⟨r,hr⟩:=AO G.length;have hrow2:=hrow;rw [hr] at hrow2 hlk ⊢;obtain ⟨x,hx⟩:=AO o.s.id;obtain ⟨b,t,hb,ht,hbs,hbn⟩:=a0e (Cj S) x;have HGT:=AQ (fun (w9:World) (hu:Bf [] w w9)=>(show Calls Tryz.prog 23 #[.pointer (some ⟨q,0,none⟩),.int .u32 (x:Int)] w9 fun e w'=>e=.returned (.tuple #[.agg #[.int .i64 b.x1,.int .i64 b.x2,.int .i64 b.y1,.int .i64 b.y2,.int .u32 (b.id:Int)],.bool t])∧Bf [] w9 w' from (by have h9:=HG.out w9 hu x;rw [hb,ht] at h9;exact h9)));have HK:=Az hk hrow2 hup hstep hr hx hbs hbn;rw [hx] at y5;clear hk hrow hrow2 hup hstep hoi hxk ho ey hG hr hx hb ht hbs hbn;go_upto_region 5 with fail
   obtain ⟨W1,hW1,u1,q1⟩:=BJ wl #[.int .u8 (o.u:Int),.int .i64 o.s.x1,.int .i64 o.s.x2,.int .i64 o.s.y1,.int .i64 o.s.y2,.int .u32 (x:Int),.int .i64 o.x,.int .i64 o.y] 30;rw [←hW1];obtain ⟨qo,hqo⟩:∃k,wl.heap.size=k:=⟨_,rfl⟩;rw [hqo] at q1 ⊢;have z5:W1.cell? ⟨qo,5,none⟩=some (.int .u32 (x:Int)):=q1.cell 5;have HQ1:=AQ q1;have FY:=AQ (HK.2.2.1.trans u1);have HR1:=AQ (Bg HK.2.1 u1 (by simp));clear hW1 u1 q1 hqo y0 y1 y2 y3 y4 y5 y6 y7;go_wp2_with fail
   (with_reducible refine (HGT.out _ FY.out).mono ?_);rintro e w2 ⟨rfl,u2⟩;have Fq:=AQ (FY.out.trans u2);have HR2:=AQ (Bg HR1.out u2 (by simp));have HQ2:=AQ (HQ1.out.Bh u2);clear u2 z5;go_upto_block 2 with fail
   obtain ⟨W3,hW3,u3,q3⟩:=BJ w2 #[.int .i64 b.x1,.int .i64 b.x2,.int .i64 b.y1,.int .i64 b.y2,.int .u32 (b.id:Int)] 28;rw [←hW3];obtain ⟨qb,RZ⟩:∃k,w2.heap.size=k:=⟨_,rfl⟩;rw [RZ] at q3 ⊢;have Gj:=AQ (Fq.out.trans u3);have HR3:=AQ (Bg HR2.out u3 (by simp));have HQ3:=AQ (HQ2.out.Bh u3);have HB3:=AQ q3;have r0:(0:Int)≤(r:Int):=AU _;clear hW3 u3 q3 RZ FY HR1 HQ1 Fq HR2 HQ2;go_cut [9] (fun s9 wc=>s9=.bool (t&&!(G.any fun u=>u.id==x))∧Bf [] w wc∧G5.row wc w.heap.size (.slice Ar r Cr) G∧Ic wc qb #[.int .i64 b.x1,.int .i64 b.x2,.int .i64 b.y1,.int .i64 b.y2,.int .u32 (b.id:Int)] 28)
   case first=>
    go_wp2_with fail
    go_loopg [9,28] r (fun m s9 s28 wr=>∃j:Nat,m+j=r∧s28=.int .i64 (j:Int)∧s9=.bool (t&&!((G.take j).any fun u=>u.id==x))∧Bf [] w wr∧G5.row wr w.heap.size (.slice Ar r Cr) G∧Ic wr qb #[.int .i64 b.x1,.int .i64 b.x2,.int .i64 b.y1,.int .i64 b.y2,.int .u32 (b.id:Int)] 28∧Ic wr qo #[.int .u8 (o.u:Int),.int .i64 o.s.x1,.int .i64 o.s.x2,.int .i64 o.s.y1,.int .i64 o.s.y2,.int .u32 (x:Int),.int .i64 o.x,.int .i64 o.y] 30)
    case atStart=>exact ⟨0,rfl,rfl,by simp,Gj.out,HR3.out,HB3.out,HQ3.out⟩
    case round=>
     obtain ⟨j,hj,rfl,hs9,Nq,a0g,a1L,a5D⟩:=hrel;obtain ⟨c,hc⟩:∃c,(t&&!((G.take j).any fun u=>u.id==x))=c:=⟨_,rfl⟩;rw [hc] at hs9;subst hs9;have j0:(0:Int)≤(j:Int):=AU _;have hjr:j≤r:=by omega
     by_cases hjl:j<r
     ·obtain ⟨u,hu⟩:∃u,G[j]? = some u:=⟨_,AX (by rw [HK.2.2.2.2.1];exact hjl)⟩;obtain ⟨g2,o2,hA2,-,-,ex⟩:=(See.BX a0g).at hu
      cases hA2
      have x0:wr.cell? ⟨g2,o2+j*5,none⟩=some (.int .i64 u.x1):=ex 0 _ rfl;have x1:wr.cell? ⟨g2,o2+j*5+1,none⟩=some (.int .i64 u.x2):=ex 1 _ rfl;have x2:wr.cell? ⟨g2,o2+j*5+2,none⟩=some (.int .i64 u.y1):=ex 2 _ rfl;have x3:wr.cell? ⟨g2,o2+j*5+3,none⟩=some (.int .i64 u.y2):=ex 3 _ rfl;have x4:wr.cell? ⟨g2,o2+j*5+4,none⟩=some (.int .u32 (u.id:Int)):=ex 4 _ rfl;have c1:(j:Int)<(r:Int):=by omega
      have hnx:(t&&!((G.take (j+1)).any fun u=>u.id==x))=(c&&(u.id != x)):=by
       rw [a0f hu,←hc]
       cases t<;>cases ((G.take j).any fun u=>u.id==x)<;>simp [bne]
      have HJ:=Au hj Nq a0g a1L a5D hnx;clear hj Nq a0g a1L a5D hnx hc hu ex;go_upto_region 9 with fail
      obtain ⟨W5,hW5,u5,q5⟩:=BJ wr #[.int .i64 u.x1,.int .i64 u.x2,.int .i64 u.y1,.int .i64 u.y2,.int .u32 (u.id:Int)] 28;rw [←hW5];have z4:W5.cell? ⟨wr.heap.size,4,none⟩=some (.int .u32 (u.id:Int)):=q5.cell 4;have z5:W5.cell? ⟨qo,5,none⟩=some (.int .u32 (x:Int)):=(HJ.2.2.2.2.1.Bh u5).cell 5;have LJ:=Ap (HJ.2.1.trans u5) (Bg HJ.2.2.1 u5 (by simp)) (HJ.2.2.2.1.Bh u5) (HJ.2.2.2.2.1.Bh u5);clear hW5 u5 q5 x0 x1 x2 x3 x4;generalize wr.heap.size=q5 at z4 ⊢
      cases c
      ·go_wp2_with fail
       go_roundg (r - (j+1))
       case measure=>have:=HJ.1;omega
       case rel=>exact ⟨j+1,Ac HJ.1,by go_num,by rw [HJ.2.2.2.2.2];rfl,LJ.1,LJ.2.1,LJ.2.2.1,LJ.2.2.2⟩
      ·obtain ⟨d,hd⟩:∃d,((u.id:Int) != (x:Int))=d:=⟨_,rfl⟩
       have hd2:(u.id != x)=d:=by
        rw [←hd,Bool.eq_iff_iff,bne_iff_ne,bne_iff_ne];omega
       have HD:=AQ hd2;clear hd2
       cases d
       ·go_wp2_with fail
        go_roundg (r - (j+1))
        case measure=>have:=HJ.1;omega
        case rel=>exact ⟨j+1,Ac HJ.1,by go_num,by rw [HJ.2.2.2.2.2,HD.out];rfl,LJ.1,LJ.2.1,LJ.2.2.1,LJ.2.2.2⟩
       ·go_wp2_with fail
        go_roundg (r - (j+1))
        case measure=>have:=HJ.1;omega
        case rel=>exact ⟨j+1,Ac HJ.1,by go_num,by rw [HJ.2.2.2.2.2,HD.out];rfl,LJ.1,LJ.2.1,LJ.2.2.1,LJ.2.2.2⟩
     ·have b2z:j=r:=by omega
      have hfin:G.take j=G:=by rw [List.take_of_length_le];rw [HK.2.2.2.2.1];omega
      rw [hfin] at hc;have HF:=Ap hc Nq a0g a1L;clear hc Nq a0g a1L a5D hfin hj;go_wp2_with fail
      go_meet
      case rel=>exact ⟨by rw [HF.1],HF.2.1,HF.2.2.1,HF.2.2.2⟩
   case rest=>
    obtain ⟨hs9,J7,a8G,a8H⟩:=hcut;obtain ⟨c,hc⟩:∃c,(t&&!(G.any fun u=>u.id==x))=c:=⟨_,rfl⟩;rw [hc] at hs9;subst hs9;obtain ⟨w4,rfl⟩:∃W:World,W=wc:=⟨_,rfl⟩;obtain ⟨b0,b1',b2,b3,b4⟩:=a8H.cells5;have HC:=Aj hc J7 a8G;clear hc J7 a8G a8H Gj HR3 HQ3 HB3
    cases c
    ·have hg:Vg (Cj S) G x=G:=by
      have h1:=HC.1;unfold Vg
      cases ht:t with
      |false=>rw [HK.2.2.2.2.2.2.2 ht]
      |true=>
       rw [HK.2.2.2.2.2.2.1 ht];rw [ht] at h1;simp only [Bool.true_and,Bool.not_eq_false'] at h1;show (if _ then _ else _)=_
       rw [if_pos h1]
     have HGS:=AQ hg;clear hg;go_wp2_with fail
     go_roundg (N - (k+1))
     case measure=>have:=HK.1;omega
     case rel=>exact ⟨k+1,_,rfl,Ac HK.1,by go_num,by rw [HK.2.2.2.1,HK.2.2.2.2.2.1,HGS.out];exact HC.2.2,HC.2.1⟩
    ·have hg:Vg (Cj S) G x=G++[b]:=by
      have h1:=HC.1;unfold Vg
      cases ht:t with
      |false=>rw [ht] at h1;cases h1
      |true=>
       rw [HK.2.2.2.2.2.2.1 ht];rw [ht] at h1;simp only [Bool.true_and,Bool.not_eq_true'] at h1;show (if _ then _ else _)=_
       rw [if_neg (by rw [h1];decide)]
     have HGS:=AQ hg;have jV:=HC.2.2;unfold Kind.row at jV;rw [HK.2.2.2.2.1] at jV;have HRO:=AQ jV;have hwz:w.heap.size≤w4.heap.size:=HC.2.1.size;clear hg jV;go_wp2_with (at_builtin;refine BL _ rfl _ _ 42 rfl w.heap.size 28 i1 (.agg #[.int .i64 0,.int .i64 0,.int .i64 0,.int .i64 0,.int .u32 0]) 5 40 Tryz.underlying42 hi1 hy0 hy1 hy2 rfl (by decide) _ r (G5.all G) rfl (Bg HRO.out ((Bf.refl [] w4).alloc _) (by simp)) _ 1 (G5.enc b) rfl (BM w4 #[.int .i64 b.x1,.int .i64 b.x2,.int .i64 b.y1,.int .i64 b.y2,.int .u32 (b.id:Int)] 28 5 1 rfl (by decide)) (G5.one b) (by unfold maxLen;omega) (by omega) (by simp;omega) ?_)
     intro A3 C3 W3 HP3;have iq:=AQ HP3;clear HP3 b0 b1' b2 b3 b4;go_wp2_with fail
     go_roundg (N - (k+1))
     case measure=>have:=HK.1;omega
     case rel=>
      refine ⟨k+1,.slice A3 (r+1) C3,rfl,Ac HK.1,by go_num,?_,(HC.2.1.alloc _).trans' iq.out.upd (fun y hy=>.inr (BD HC.2.2 y hy))⟩
      rw [HK.2.2.2.1,HK.2.2.2.2.2.1,HGS.out];unfold Kind.row;rw [AY,HK.2.2.2.2.1,G5.Ci];exact iq.out.own
  ·have hfin:xs.take k=xs:=by rw [List.take_of_length_le];rw [HN.2.2.1];omega
   rw [hfin] at hrow ⊢;have HF:=Ai hrow hup;obtain ⟨n,hn⟩:=AO ((Ku (Cj S) xs).length);rw [hn];have ZR:=AQ hn;clear hrow hup hfin hk hn;go_wp2_with fail
   go_ret
   exact ⟨Ar,Cr,by rw [ZR.out];rfl,HF.1,HF.2⟩
