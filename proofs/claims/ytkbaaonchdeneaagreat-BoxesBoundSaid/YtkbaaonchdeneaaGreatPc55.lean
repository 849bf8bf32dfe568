/- The law BoxesBound: the walk. Printed by genBB.py. -/
import Derived.Test.YtkbaaonchdeneaaGreatPc54
set_option maxHeartbeats 8000000
set_option maxRecDepth 100000
namespace Go.Proofs.YtkbaaonchdeneaaGreat.LQ
open Go.RowKit
open Ps
open Fv (U6 Ig Ic)
theorem je {w:World} {b n m:Nat} {f g:Nat->Option Bx} (h1:f=g) (h2:n=m) (h:MapU U6 w b f n):MapU U6 w b g m:=by subst h1 h2;exact h
theorem Rx (p:Nat) (h:p<1000000):wrap64 (p:Int)=(p:Int):=by unfold wrap64;omega
theorem RF (v:Value) (l:List Zw) (w:World) (h:U3 w v l) (hl:l.length<=9223372036854775807) (hin:∀o∈l,o.CS) :
 Calls Tryz.prog 3 #[v] w λe w'=>e=.returned (.bool true)/\Bj [] w w':=by
 obtain ⟨n,hn⟩:=AU (min l.length 200);have hmn:Value.int .i64 (min (l.length:Int) 200)=Value.int .i64 (n:Int):=by rw [<-hn];congr 1;omega
 obtain ⟨A1,C1,hrun1,hs1⟩:=a0E h n (by omega);obtain ⟨Ao,Co,rfl⟩:=h.form;have hin1:∀o∈l.take n,o.CS:=λo ho=>hin o (List.mem_of_mem_take ho)
 have hln:(l.take n).length=n:=by rw [Bf];omega
 have a8w:n<=200:=by omega
 generalize l.take n=os at hs1 hin1 hln;have HS:=AX hs1;have kC:=AX hin1;have PU:=AX hln;have HA:=AX (λw=>a0I (Nat.le_refl _) a0S (by decide) w);clear h hin hs1 hin1 hln hn;go_enter Tryz.func3,Tryz.ntmps3
 go_wp2_with fail
 go_fit (newP w)
 rintro e w1 ⟨tv,F0,rfl,h0,hn0,hu0⟩;obtain ⟨q,hq⟩:∃q,tv=.pointer (some ⟨q,0,none⟩):=by obtain ⟨q,_,_,_,_,_,e,-⟩:=h0;exact ⟨q,e⟩
 subst hq;have mm0:=MapU.made U6 w1;have um0:Bj [] w1 (w1.alloc (.map #[] 0)):=(Bj.refl _ _).alloc _;have H0:=AX ((⟨h0,a1t,a1u,hn0,hu0⟩:Held w w1 (.pointer (some q)) P0 F0).quiet um0);have hmF:w1.heap.size∉F0:=λhc=>by have:=h0.lt _ hc;omega
 have HM0:=Aq mm0 hmF hu0.size;clear h0 hn0 hu0 mm0 hmF um0;have hmm:=@run_makeMap Tryz.prog;go_upto_region 3 with fail
 clear hmm;generalize w1.alloc (.map #[] 0)=w2 at H0 HM0 |-;generalize w1.heap.size=mb at HM0 |-;go_wp2_with fail
 go_loopg [5,6,26] n (λg m4 p5 i wr=>∃(k:Nat) (S:GY) (F:List Nat) (A D m p:Nat),g+k=n/\i=.int .i64 (k:Int)/\m4=.int .i64 (m:Int)/\p5=.int .i64 (p:Int)/\A+D=m/\m<=k/\Held w wr (.pointer (some q)) S F/\S.t<=k/\BdS S.H A D/\S.H.wk=p/\MapU U6 wr mb (Ig (Dw S)) (Dw S).length/\mb∉F)
 case atStart=>exact ⟨0,P0,F0,0,0,0,0,rfl,rfl,rfl,rfl,rfl,Nat.le_refl _,H0.out,Nat.le_refl _,bd0,rfl,HM0.1,HM0.2.1⟩
 case round=>
  obtain ⟨k,S,F,A,D,m,p,hk,rfl,rfl,rfl,hAD,hmk,hH,ht,hB,hwk,hmp,hmF⟩:=hrel;obtain ⟨wl,rfl⟩:∃wl:World,wl=wr:=⟨_,rfl⟩;have k0:(0:Int)<=(k:Int):=AY _;have hkn:k<=n:=by omega
  have HK:=AX hk;have HAD:=AX hAD;clear hk hAD;by_cases hlt:k<n
  ·obtain ⟨o,ho⟩:∃o,os[k]? = some o:=⟨_,Ba (by rw [PU.out];exact hlt)⟩;have hoi:o.CS:=kC.out o (List.mem_of_getElem? ho);obtain ⟨g,og,hA,-,-,ey⟩:=(HS.out.BF hH.upd).at ho
   cases hA
   have y0:wl.cell? ⟨g,og+k*8,none⟩=some (.int .u8 (o.u:Int)):=ey 0 _ rfl;have y1:wl.cell? ⟨g,og+k*8+1,none⟩=some (.int .i64 o.s.x1):=ey 1 _ rfl;have y2:wl.cell? ⟨g,og+k*8+2,none⟩=some (.int .i64 o.s.x2):=ey 2 _ rfl;have y3:wl.cell? ⟨g,og+k*8+3,none⟩=some (.int .i64 o.s.y1):=ey 3 _ rfl;have y4:wl.cell? ⟨g,og+k*8+4,none⟩=some (.int .i64 o.s.y2):=ey 4 _ rfl;have y5:wl.cell? ⟨g,og+k*8+5,none⟩=some (.int .u32 (o.s.id:Int)):=ey 5 _ rfl;have y6:wl.cell? ⟨g,og+k*8+6,none⟩=some (.int .i64 o.x):=ey 6 _ rfl;have y7:wl.cell? ⟨g,og+k*8+7,none⟩=some (.int .i64 o.y):=ey 7 _ rfl;have b1:(k:Int)<(n:Int):=by omega
   have hcs:=xA hH.inv;have hFl:=hH.is.lt;have hnm:((Dw S).map Bx.id).Nodup:=hH.inv.names;have HD:=AX (λ(w9:World) (hu:Bj [] wl w9)=>a6p (hH.quiet hu) o hoi (by omega));unfold a3m at HD;have HH:=AP ht hB hwk hcs hFl hmp hmF hnm (show mb<wl.heap.size from hmp.lt) hH.upd;have a1w:o.s.id<4294967296:=hoi.2.1.2;clear ho hoi ey hH ht hB hwk hcs hFl hmp hmF hnm;go_upto_region 7 with fail
   obtain ⟨Wx,hWx,RS,JQ⟩:=CQ wl #[.int .u8 (o.u:Int),o.s.x1,o.s.x2,o.s.y1,o.s.y2,.int .u32 (o.s.id:Int),o.x,o.y] 30;rw [<-hWx];obtain ⟨qx,hqq⟩:∃k,wl.heap.size=k:=⟨_,rfl⟩;rw [hqq] at JQ |-;have z0:Wx.cell? qx=some (.int .u8 (o.u:Int)):=JQ.cell 0;have z1:Wx.cell? ⟨qx,1,none⟩=some (.int .i64 o.s.x1):=JQ.cell 1;have z2:Wx.cell? ⟨qx,2,none⟩=some (.int .i64 o.s.x2):=JQ.cell 2;have z3:Wx.cell? ⟨qx,3,none⟩=some (.int .i64 o.s.y1):=JQ.cell 3;have z4:Wx.cell? ⟨qx,4,none⟩=some (.int .i64 o.s.y2):=JQ.cell 4;have z5:Wx.cell? ⟨qx,5,none⟩=some (.int .u32 (o.s.id:Int)):=JQ.cell 5;have z6:Wx.cell? ⟨qx,6,none⟩=some (.int .i64 o.x):=JQ.cell 6;have z7:Wx.cell? ⟨qx,7,none⟩=some (.int .i64 o.y):=JQ.cell 7;have xW:=AX RS;have HQX:=AX JQ;have L9:qx∉F:=λhc=>by have:=HH.2.2.2.2.1 qx hc;omega
   have Jr:=Ap L9 (show mb≠qx from by have:=HH.2.2.2.2.2.2.2.2.1;omega);clear hWx JQ RS L9 hqq y0 y1 y2 y3 y4 y5 y6 y7;go_wp2_with fail
   go_fit (HD.out _ xW.out)
   rintro e w3 ⟨n0,rfl,S',F',hh,hup,hFF,haf⟩;have HX3:=AX (HQX.out.upd hup Jr.1);have a3u:MapU U6 w3 mb (Ig (Dw S)) (Dw S).length:=(HH.2.2.2.2.2.1.upd xW.out (by simp)).upd hup HH.2.2.2.2.2.2.1
   have nH:mb∉F':=λhc=>by
    rcases hFF mb hc with g | g
    ·exact HH.2.2.2.2.2.2.1 g
    ·have:=HH.2.2.2.2.2.2.2.2.1;have:=xW.out.size;omega
   clear z0 z1 z2 z3 z4 z5 z6 z7;obtain ⟨A',D',hB',a0N⟩:=haf.bd A D HH.2.1 (Ad HH.2.2.2.1 HH.1);have a6B:=haf.lv;obtain ⟨did,a3v⟩:∃b,nC (Dw S) o=b:=⟨_,rfl⟩;rw [a3v] at a0N |-;have ht':=haf.t;have nI:=haf.wk;rw [HH.2.2.1] at nI;have hht:=HH.1;have hcs':=xA hh.inv;obtain ⟨m3,hm3⟩:=AU (A'+D');obtain ⟨p3,hp3⟩:=AU (p+n0);rw [hp3] at nI;have hadd:=HAD.out;have a8W:m3<=k+1:=by cases did<;>simp at a0N<;>omega
   have xI:(if did then m+1 else m)=m3:=by cases did<;>simp at a0N |-<;>omega
   obtain ⟨nl,hnl⟩:∃x,(Dw S').length=x:=⟨_,rfl⟩;obtain ⟨st,hst⟩:∃x,S'.H.cs.length=x:=⟨_,rfl⟩;have hb2:=a2v hB';have hbe:=a2u hB' (by omega);rw [hm3] at hbe;have hvl:(live S'.H.al S'.H.cs).length=nl:=hnl;rw [hvl,hst] at hb2;rw [nI] at hbe;have hbm:=nD (S:=S') (by rw [hnl,hst];exact hb2.2);rw [hnl] at hbm;obtain ⟨N2,hN2⟩:∃x,nl+2=x:=⟨_,rfl⟩;obtain ⟨N1,hN1⟩:∃x,m3+1=x:=⟨_,rfl⟩;rw [hN2] at hbm;obtain ⟨G,hG⟩:∃x,lg N2=x:=⟨_,rfl⟩;obtain ⟨G1,hG1⟩:∃x,lg N1=x:=⟨_,rfl⟩;have a6C:BA m3=G1:=by rw [<-hG1,<-hN1];rfl
   rw [a6C] at hbe;rw [hG] at hbm;have hG9:G<=9:=by rw [<-hG];exact BP _ 9 (by omega)
   have a8X:G1<=9:=by rw [<-hG1];exact BP _ 9 (by omega)
   obtain ⟨gg,hgg⟩:∃x,16*G*G=x:=⟨_,rfl⟩;rw [hgg] at hbm;have a8Y:gg<=16*9*9:=by rw [<-hgg];exact Nat.mul_le_mul (by omega) hG9
   obtain ⟨pm,hpm⟩:=AU (m3*(G1+2));rw [hpm] at hbe;have a8Z:pm<=251*11:=by rw [<-hpm];exact Nat.mul_le_mul (by omega) (by omega)
   have hgv:Value.int .i64 (wrap64 (16*(G:Int)*(G:Int)))=Value.int .i64 (gg:Int):=by
    have e:(16*(G:Int)*(G:Int))=(gg:Int):=by rw [<-hgg];push_cast;rfl
    rw [e,Rx gg (by omega)]
   have hpv:Value.int .i64 (wrap64 ((m3:Int)*((G1:Int)+2)))=Value.int .i64 (pm:Int):=by
    have e:((m3:Int)*((G1:Int)+2))=(pm:Int):=by rw [<-hpm];push_cast;rfl
    rw [e,Rx pm (by omega)]
   have a9a:Value.int .i64 ((m3:Int)+1)=Value.int .i64 (N1:Int):=by congr 1;omega
   have a9b:Value.int .i64 ((nl:Int)+2)=Value.int .i64 (N2:Int):=by congr 1;omega
   have a9c:Value.int .i64 ((p:Int)+(n0:Int))=Value.int .i64 (p3:Int):=by congr 1;omega
   have hwq:((p3:Int) != (p3:Int))=false:=by simp
   have hlq:((nl:Int) != (nl:Int))=false:=by simp
   have hmv:did=true->Value.int .i64 ((m:Int)+1)=Value.int .i64 (m3:Int):=λe=>by rw [e] at xI;simp at xI;congr 1;omega
   have hme:did=false->m=m3:=λe=>by rw [e] at xI;simpa using xI
   obtain ⟨hs1,hs2⟩:=hb2;have hm1:=hbm;have a8h:nl<=251:=by omega
   have a9d:p3<=3000:=by omega
   have hpb:p<=3000:=by omega
   have a9e:n0<=3000:=by omega
   have hst2:st<=502:=by omega
   have a9f:m3<=250:=by omega
   have a9g:N1<=251:=by omega
   have a9h:N2<=253:=by omega
   have hlen:=λ(w9:World) (hu:Bj [mb] w3 w9)=>a7J _ F' S' w9 (hh.is.upd hu (λx hx hc=>by simp at hc;subst hc;exact nH hx)) hh.inv
   have a3w:=λ(w9:World) (hu:Bj [mb] w3 w9)=>a0l _ F' S' w9 (hh.is.upd hu (λx hx hc=>by simp at hc;subst hc;exact nH hx))
   have a3x:=λ(w9:World) (hu:Bj [mb] w3 w9)=>a5r _ F' S' w9 (hh.is.upd hu (λx hx hc=>by simp at hc;subst hc;exact nH hx))
   have xJ:=λ(w9:World) (hu:Bj [mb] w3 w9)=>atP (Nat.le_refl _) a0S _ F' S' o.x o.y w9 (hh.is.upd hu (λx hx hc=>by simp at hc;subst hc;exact nH hx)) hh.inv hh.good (by omega) (by omega)
   rw [hnl] at hlen;rw [hst] at a3w;rw [nI] at a3x;have hnm':((Dw S').map Bx.id).Nodup:=hh.inv.names
   have a6D:(uF (Dw S') o.x o.y).length<=nl:=by
    unfold uF;rw [EF,List.length_map,<-hnl];exact List.length_filter_le _ _
   generalize uF (Dw S') o.x o.y=L1 at xJ a6D;obtain ⟨cc,hcc⟩:∃x,(Ea ((Dw S').map Ic) o.x).length=x:=⟨_,rfl⟩
   have a9i:cc<=nl:=by
    rw [<-hcc,<-hnl];exact Sl _ _
   obtain ⟨n1,hn1⟩:∃x,L1.length=x:=⟨_,rfl⟩;unfold bM OW at xJ;rw [hn1,hcc] at xJ;rw [hn1] at a6D;have xO:=AX hlen;have HST:=AX a3w;have HWR:=AX a3x;have HSA:=AX xJ;have HLG:=Ap hG hG1;have yC:=AX hm1;have Je:=Ap hnl hcc;have VE:=AQ hh ht' hB' nI hm3 hht a3u nH hnm' a6B a3v;have a9j:=Ap hup HH.2.2.2.2.2.2.2.2.2;have a9k:mb<w3.heap.size:=a3u.lt;clear hlen a3w a3x xJ hG hG1 hm1 hh ht' hB' nI hm3 hht hup haf a3v a0N hadd hvl hnl hst hn1 hN1 hN2 a6C hgg hpm hp3 hcs' xI a3u nH hnm' a6B hcc hFF;go_upto_if 36 with fail
   go_cut [5] (λs5 wc=>s5=.int .i64 (m3:Int)/\Bj [mb] w3 wc/\MapU U6 wc mb (Ig (Dw S')) nl)
   case first=>
    cases did
    ·have e:=hme rfl;subst e;clear hme hmv;go_wp2_with fail
     go_meet
     case rel=>
      refine ⟨rfl,Bj.refl _ _,?_⟩
      obtain ⟨-,-,-,-,-,-,k7,-,-,k10,k11⟩:=VE.out
      have e:Dw S'=Dw S:=by
       rw [k10];unfold xu nC at *;split
       ·rename_i h9
        rw [if_pos h9] at k11;unfold mZ;rw [k11];rfl
       ·rename_i h9
        rw [if_neg h9] at k11;unfold ni at k11;unfold NK;rw [List.filter_eq_self];intro y hy;rw [List.any_eq_false] at k11;simpa using k11 y hy
      rw [e,<-Je.1,e];exact k7
    ·have e:=hmv rfl;clear hme hmv;obtain ⟨-,-,-,-,-,-,k7,-,k9,k10,k11⟩:=VE.out;obtain ⟨r,hr2⟩:=AU (o.u % 2);have hr3:r<2:=by rw [<-hr2];exact Nat.mod_lt _ (by decide)
     have tm:(o.u:Int).tmod 2=(r:Int):=by rw [<-hr2];rfl
     have o0:(0:Int)<=(o.u:Int):=AY _;obtain ⟨wd,hdel,hmd,hud,hsd⟩:=k7.drop a1w 0;have a0X:(Builtin.delete_ #[25,26] 0 #[.map (some mb),.int .u32 (o.s.id:Int)]).run Tryz.prog w3=.ok (.tuple #[]) wd:=hdel;have nM:=HX3.out.upd hud (by simp;exact λh=>Jr.2 h.symm);have x5:w3.cell? ⟨qx,5,none⟩=some (.int .u32 (o.s.id:Int)):=HX3.out.cell 5;have d0:wd.cell? qx=some (.int .u8 (o.u:Int)):=nM.cell 0;have d1:wd.cell? ⟨qx,1,none⟩=some (.int .i64 o.s.x1):=nM.cell 1;have d2:wd.cell? ⟨qx,2,none⟩=some (.int .i64 o.s.x2):=nM.cell 2;have d3:wd.cell? ⟨qx,3,none⟩=some (.int .i64 o.s.y1):=nM.cell 3;have d4:wd.cell? ⟨qx,4,none⟩=some (.int .i64 o.s.y2):=nM.cell 4;have d5:wd.cell? ⟨qx,5,none⟩=some (.int .u32 (o.s.id:Int)):=nM.cell 5;rcases (by omega:r=0\/r=1) with rfl | rfl
     ·have hml:U2 (Dw S) o.s=true:=by unfold nC at k11;rw [if_pos hr2] at k11;exact k11
      have hne:∀u∈Dw S,u.id≠o.s.id:=by unfold U2 at hml;rw [Bool.and_eq_true] at hml;simpa using hml.2
      have hst:Dw S'=Dw S++[o.s]:=by rw [k10];unfold xu mZ;rw [if_pos hr2,if_pos hml]
      obtain ⟨f1,f2⟩:=a0F hne;rw [f2,if_neg (by decide)] at hmd;obtain ⟨we,hpt,hme,hue,hse⟩:=hmd.put a1w o.s (by have:=Je.1;rw [hst,Bc] at this;unfold maxLen;simp at this |-;omega);have a9l:(Instr.mapUpdate 25 (.map (some mb)) (.int .u32 (o.s.id:Int)) (.agg #[o.s.x1,o.s.x2,o.s.y1,o.s.y2,.int .u32 (o.s.id:Int)])).run Tryz.prog wd=.ok () we:=hpt;have e9:(Dw S).length+1=nl:=by rw [<-Je.1,hst,Bc];rfl
      have HF:=AX (show Bj [mb] w3 we/\MapU U6 we mb (Ig (Dw S')) nl from ⟨hud.trans hue,je (by rw [hst];exact f1) (by simpa using e9) hme⟩);clear e9;clear k7 k9 k10 k11 hmd hud hsd nM hml hne hst f1 f2 hme hue hse hdel hpt hr2;go_wp2_with fail
      go_meet
      case rel=>exact ⟨by go_num,HF.out⟩
     ·have hst:Dw S'=NK (Dw S) o.s.id:=by rw [k10];unfold xu;rw [if_neg (by omega)]
      obtain ⟨f1,f2⟩:=xB HH.2.2.2.2.2.2.2.1 o.s.id;have HF:=AX (show Bj [mb] w3 wd/\MapU U6 wd mb (Ig (Dw S')) nl from ⟨hud,je (by rw [hst];exact f1) (by rw [<-f2,<-hst];exact Je.1) hmd⟩);clear k7 k9 k10 k11 hmd hud hsd nM hst f1 f2 hdel hr2;go_wp2_with fail
      go_meet
      case rel=>exact ⟨by go_num,HF.out⟩
   case rest=>
    obtain ⟨rfl,huc,hmc⟩:=hcut;obtain ⟨w4,rfl⟩:∃W:World,W=wc:=⟨_,rfl⟩;clear hme hmv;have HUC:=Ap huc hmc;clear huc hmc;go_wp2_with fail
    go_fit (xO.out _ HUC.1)
    rintro e w5 ⟨rfl,rfl⟩;go_upto_block 2 with (at_range;refine Ve (K:=U6) _ rfl _ rfl rfl HUC.2 ?_;intro wq hrg0 hur hsr;have HR0:=Aq hrg0 hur hsr;clear hrg0 hur hsr)
    go_frame
    go_cut [12] (λs12 wd=>s12=.int .i64 (cc:Int)/\Bj [] w4 wd)
    case first=>
     have HX4:=AX (HX3.out.upd HUC.1 (by simp;exact λh=>Jr.2 h.symm));go_wp2_with fail
     go_loopg [12] nl (λg s12 wr=>∃(left:Nat->Bool) (ss:List Nat),NW U6 wr mb w4.heap.size (Ig (Dw S')) nl left g/\ss.length+g<=nl/\s12=.int .i64 (ss.length:Int)/\Bj [] w4 wr/\KX (Dw S') (λb=>Es b.x1 b.x2 o.x) left ss)
     case atStart=>exact ⟨_,[],HR0.1,by simp,rfl,HR0.2.1,KX.start _ _⟩
     case round=>
      obtain ⟨left,ss,hrg,hlen,a6E,hur,QX⟩:=hrel;obtain ⟨c,hc⟩:=AU ss.length;rw [hc] at a6E hlen;subst a6E;have c0:(0:Int)<=(c:Int):=AY _;have cb:c<=251:=by omega
      have HW:=Aw hrg hlen hur QX hc;clear hrg hlen hur QX hc;go_wp2_with (at_next;refine WQ (K:=U6) _ rfl _ rfl rfl HW.1 ?_ ?_)
      ·intro hl0;have HD0:=AX hl0;clear hl0;go_wp2_with fail
       go_meet
       case rel=>
        refine ⟨?_,HW.2.2.1⟩
        have:=HW.2.2.2.1.done VE.2.2.2.2.2.2.2.2.1 HD0.out;rw [HW.2.2.2.2,Je.2] at this;rw [this]
      ·intro x y w6 cnt2 hx32 hlk hfx hrg2 hlt2 hu2 hs2 hen;obtain ⟨a1,a2,a3,a4,ai⟩:=y;rw [show U6.enc ⟨a1,a2,a3,a4,ai⟩=.agg #[a1,a2,a3,a4,.int .u32 (ai:Int)] from rfl] at hen |-;have Jb:Bj [] w4 w6:=HW.2.2.1.trans' hu2 (λz hz=>.inr (by simp at hz;omega));have x6:w6.cell? ⟨qx,6,none⟩=some (.int .i64 o.x):=(HX4.out.BF Jb).cell 6;have H2:=Aw hrg2 hlt2 Jb hlk hfx;have HXX:=AX (HX4.out.BF Jb);clear hrg2 hlt2 hu2 hs2 hlk hfx Jb;go_upto_region 18 with fail
       obtain ⟨W7,hW7,u7,q7⟩:=CQ w6 #[a1,a2,a3,a4,.int .u32 (ai:Int)] 28;rw [<-hW7];have x6:W7.cell? ⟨qx,6,none⟩=some (.int .i64 o.x):=(HXX.out.BF u7).cell 6;have e0:W7.cell? w6.heap.size=some (.int .i64 a1):=q7.cell 0;have e1:W7.cell? ⟨w6.heap.size,1,none⟩=some (.int .i64 a2):=q7.cell 1;have H3:=Ap (H2.1.upd u7 (by simp) (by simp)) (H2.2.2.1.trans u7);clear hW7 u7 q7 hen;generalize w6.heap.size=q7 at e0 e1 |-;by_cases g1:a1<=o.x
       ·by_cases g2:o.x<=a2
        ·have hp:(λb:Bx=>Es b.x1 b.x2 o.x) ⟨a1,a2,a3,a4,ai⟩=true:=by unfold Es;simp [g1,g2]
         have HP:=AX hp;have f1:decide (a1<=o.x)=true:=decide_eq_true g1;have f2:decide (o.x<=a2)=true:=decide_eq_true g2;clear hp;go_wp2_with fail
         go_roundg cnt2
         case measure=>exact H2.2.1
         case rel=>exact ⟨_,ss++[x],H3.1,by have:=HW.2.1;have:=HW.2.2.2.2;have:=H2.2.1;simp;omega,by have:=HW.2.2.2.2;rw [Bc,this];go_num,H3.2,HW.2.2.2.1.hit H2.2.2.2.1 H2.2.2.2.2 HP.out⟩
        ·have hp:(λb:Bx=>Es b.x1 b.x2 o.x) ⟨a1,a2,a3,a4,ai⟩=false:=by unfold Es;simp [g2]
         have HP:=AX hp;have f1:decide (a1<=o.x)=true:=decide_eq_true g1;have f2:decide (o.x<=a2)=false:=decide_eq_false g2;clear hp;go_wp2_with fail
         go_roundg cnt2
         case measure=>exact H2.2.1
         case rel=>exact ⟨_,ss,H3.1,Ag HW.2.1 HW.2.2.2.2 H2.2.1,by rw [HW.2.2.2.2],H3.2,HW.2.2.2.1.miss H2.2.2.2.2 HP.out⟩
       ·have hp:(λb:Bx=>Es b.x1 b.x2 o.x) ⟨a1,a2,a3,a4,ai⟩=false:=by unfold Es;simp [g1]
        have HP:=AX hp;have f1:decide (a1<=o.x)=false:=decide_eq_false g1;clear hp;go_wp2_with fail
        go_roundg cnt2
        case measure=>exact H2.2.1
        case rel=>exact ⟨_,ss,H3.1,Ag HW.2.1 HW.2.2.2.2 H2.2.1,by rw [HW.2.2.2.2],H3.2,HW.2.2.2.1.miss H2.2.2.2.2 HP.out⟩
    case rest=>
     obtain ⟨rfl,hud⟩:=hcut;obtain ⟨w6,rfl⟩:∃W:World,W=wc:=⟨_,rfl⟩;have hue:Bj [mb] w3 w6:=HUC.1.trans (hud.mono (by simp));have oC:=AX hue;have HME:=AX (HUC.2.upd hud (by simp));have HXE:=AX (HX3.out.upd hue (by simp;exact λh=>Jr.2 h.symm));clear hud hue;go_wp2_with fail
     go_fit (a6l N2 _ (by omega))
     rintro e w7 ⟨rfl,rfl⟩;rw [HLG.1];have x6:w6.cell? ⟨qx,6,none⟩=some (.int .i64 o.x):=HXE.out.cell 6;have x7:w6.cell? ⟨qx,7,none⟩=some (.int .i64 o.y):=HXE.out.cell 7;go_wp2_with fail
     go_fit (HSA.out _ oC.out)
     rintro e w7 ⟨t1,⟨A4,C4,rfl,-,u4⟩,ha1,ha2⟩;obtain ⟨mo,hmo⟩:∃x,gg+8*cc+16=x:=⟨_,rfl⟩;have c1:n1<=t1:=ha1;have c2:t1<=mo:=Ac yC;have mo1:mo<=6000:=by omega
     have hmov:Value.int .i64 ((gg:Int)+8*(cc:Int)+16)=Value.int .i64 (mo:Int):=by congr 1;omega
     have hml:∀ty,(Builtin.len_ #[25] ty #[.map (some mb)]).run Tryz.prog w7=.ok (.int .i64 (nl:Int)) w7:=λty=>(HME.out.upd u4 (by simp)).len (K:=U6) ty
     have Oz:=AX (oC.out.trans (u4.mono (by simp)));have HM7:=AX (HME.out.upd u4 (by simp));clear u4 ha1 ha2 hmo x6 x7;go_wp2_with fail
     go_fit (HWR.out _ Oz.out)
     rintro e w8 ⟨rfl,rfl⟩;go_wp2_with fail
     go_fit (a6l N1 _ (by omega))
     rintro e w8 ⟨rfl,rfl⟩;rw [HLG.2];go_wp2_with fail
     go_fit (HST.out _ Oz.out)
     rintro e w8 ⟨rfl,rfl⟩;go_wp2_with fail
     go_fit (HST.out _ Oz.out)
     rintro e w8 ⟨rfl,rfl⟩;go_wp2_with fail
     go_roundg (n - (k+1))
     case measure=>have:=HK.out;omega
     case rel=>
      obtain ⟨r1,r2,r3,r4,r5,r6,r7,r8,r9,r10,r11⟩:=VE.out;exact ⟨k+1,S',F',A',D',m3,p3,Ac HK,by go_num,rfl,rfl,r5,by omega,⟨r1.is.upd Oz.out (λx hx hc=>by simp at hc;subst hc;exact r8 hx),r1.inv,r1.good,r1.new,r1.upd.trans' Oz.out (λx hx=>by simp at hx;subst hx;exact .inr (Ac HM0.2.2))⟩,by omega,r3,r4,by rw [Je.1];exact HM7.out,r8⟩
  ·have HU:=AX hH.upd;clear hH ht hB hwk hmp hmF;go_wp2_with fail
   go_fit (HA.out _)
   rintro e w2 ⟨rfl,u2⟩;have Ej:=AX (HU.out.trans u2);clear u2;go_wp2_with fail
   go_ret
   exact ⟨rfl,Ej.out⟩
