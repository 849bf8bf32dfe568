/- names' anew. Printed by genNmH.py. -/
import Derived.Deep.DrawnRows
import Derived.Test.YtkbaaonchdeneaaGreatPc30
set_option maxHeartbeats 8000000
set_option maxRecDepth 100000
namespace Go.Proofs.YtkbaaonchdeneaaGreat.Nm
open Go.RowKit
attribute [local go_sem ↓] Go.wp_at_zero Go.wp_at_succ
theorem lG {α:Type} {K:Kind α} {w w1:World} {v u:Value} {vs:List Value} {ll:List (List α)} {l:List α} (h:Et K w v vs ll) (hrow:K.row w 0 u l) (hap:∀k∈blk u,k∉D8 v vs) {o:Obj} {A:Option Addr} {C:Nat}
 (HP:DK (w.alloc o) w1 0 K.sT 1 v vs.length vs 1 [u] A C) :
 Et K w1 (.slice A (vs.length+1) C) (vs++[u]) (ll++[l])/\∀k∈D8 (.slice A (vs.length+1) C) (vs++[u]),k∈D8 v vs\/k∈blk u\/w.heap.size<=k:=by
 have hu:Bj (blk v) w w1:=((Bj.refl _ _).alloc _).trans HP.upd
 have hget:∀(i:Nat) (t:Value),(vs++[u])[i]? = some t->vs[i]? = some t\/(i=vs.length/\t=u):=by
  intro i t hv;rw [List.getElem?_append] at hv;split at hv
  ·exact .inl hv
  ·rename_i hge
   have hl:=(AZ hv).1;simp at hl;have e:i=vs.length:=by omega
   subst e;simp at hv;exact .inr ⟨rfl,hv.symm⟩
 have hnew:∀k,k∈blk (.slice A (vs.length+1) C)->k∈blk v\/w.heap.size<k:=by
  intro k hk;rcases HP.at with hb | hb
  ·rw [hb] at hk;exact .inl hk
  ·rw [hb] at hk;simp at hk;right;omega
 have hlt:=h.lt;have hlu:=BJ hrow;have FI:∀k∈blk u,k∉blk v:=λk hk hc=>hap k hk (BQ.2 (.inl hc))
 refine ⟨⟨by simpa using HP.own,by simp [h.len],?_,?_,?_⟩,?_⟩
 ·intro i t l' hv hl;rcases hget i t hv with hv' | ⟨rfl,rfl⟩
  ·have hi:=WM hv';rw [List.getElem?_append_left (by rw [<-h.len];exact hi)] at hl;exact Bl (h.rows i t l' hv' hl) hu λk hk=>h.away i t k hv' hk
  ·rw [h.len,List.getElem?_append_right (Nat.le_refl _),Nat.sub_self] at hl;simp at hl;subst hl;exact Bl hrow hu FI
 ·intro i t k hv hk hc;rcases hget i t hv with hv2 | ⟨e1,e2⟩
  ·rcases hnew k hc with h1 | h1
   ·exact h.away i t k hv2 hk h1
   ·have:=hlt k (BQ.2 (.inr ⟨i,t,hv2,hk⟩));omega
  ·rw [e2] at hk;rcases hnew k hc with h1 | h1
   ·exact FI k hk h1
   ·have:=hlu k hk;omega
 ·intro i j t s k hv ht hk hk';rcases hget i t hv with hv2 | ⟨e1,e2⟩
  ·rcases hget j s ht with ht2 | ⟨e3,e4⟩
   ·exact h.apart i j t s k hv2 ht2 hk hk'
   ·rw [e4] at hk';exact (hap k hk' (BQ.2 (.inr ⟨i,t,hv2,hk⟩))).elim
  ·rcases hget j s ht with ht2 | ⟨e3,e4⟩
   ·rw [e2] at hk;exact (hap k hk (BQ.2 (.inr ⟨j,s,ht2,hk'⟩))).elim
   ·rw [e1,e3]
 ·intro k hk;rw [BQ] at hk;rcases hk with hk | ⟨i,t,hv,hk⟩
  ·rcases hnew k hk with h1 | h1
   ·exact .inl (BQ.2 (.inl h1))
   ·right;right;omega
  ·rcases hget i t hv with hv | ⟨rfl,rfl⟩
   ·exact .inl (BQ.2 (.inr ⟨i,t,hv,hk⟩))
   ·exact .inr (.inl hk)
theorem Pg (al:List Bool) (b:List (Nat×Nat)):(CW al b).length<=b.length:=List.length_filter_le _ _
theorem lH (al:List Bool) (b:List (Nat×Nat)) (k:Nat) (hk:k<b.length):CW al (b.take (k+1))=if al.getD b[k].2 false then CW al (b.take k)++[b[k]] else CW al (b.take k):=by
 unfold CW;rw [Bd hk,List.filter_append];split
 ·rename_i h;simp only [List.filter_cons,h,if_true,List.filter_nil]
 ·rename_i h;simp only [List.filter_cons,h,Bool.false_eq_true,if_false,List.filter_nil,List.append_nil]
theorem Uj:(Tryz.prog.info? 187).map (λi=>(i.zero,i.size,i.bytes))=some (some (.slice none 0 0),1,24):=by kernel_rfl
def Ph (S:NS):NS:={ S with cs:=CW S.al S.cs,wk:=S.wk+(CW S.al S.cs).length }
theorem iw {w w2:World} {q cb:Nat} {vb vp va:Value} {vs:List Value} {bk:List (List (Nat×Nat))} {Fc:List Nat} {S:NS} (H:Eh w q cb vb vp va vs bk Fc S) (hu:Bj [] w w2) :
 Calls Tryz.prog 198 #[.pointer (some cb)] w2 λe w'=>e=.returned (.int .i64 (BA S.cs.length:Nat))/\w2=w':=by
 have:=NH.Xn cb Fc (setB S.cs) S.cs.length S.wk w2 (H.Om.upd hu (by simp));rwa [D6] at this
theorem iy {w w2:World} {q cb:Nat} {vb vp va:Value} {vs:List Value} {bk:List (List (Nat×Nat))} {Fc:List Nat} {S:NS} (H:Eh w q cb vb vp va vs bk Fc S) (hu:Bj [] w w2) (i:Nat) (hi:i<BA S.cs.length) (hl:S.cs.length<1000000) :
 Calls Tryz.prog 199 #[.pointer (some cb),i] w2 λe w'=>∃A C,e=.returned (.slice A (Bq S.cs i).length C)/\NH.KI.row w' w2.heap.size (.slice A (Bq S.cs i).length C) (Bq S.cs i)/\Bj [] w2 w':=by
 have hb:(Bq S.cs i).length<1000000:=by
  rw [D7];split
  ·rename_i hb
   have:=Nat.ge_two_pow_of_testBit hb;omega
  ·omega
 exact NH.Ol cb Fc i _ (setB S.cs) S.cs.length S.wk w2 (H.Om.upd hu (by simp)) (EC S.cs i hi) hb
theorem a4Z {w:World} {q cb:Nat} {vb vp va:Value} {vs:List Value} {bk:List (List (Nat×Nat))} {Fc:List Nat} {S:NS} (H:Eh w q cb vb vp va vs bk Fc S) (hn:∀y∈S.cs,y.2<S.al.length) (hl:S.cs.length<90000) (hw:S.wk<549755813888) :
 Calls Tryz.prog 131 #[.pointer (some q)] w λe w'=>e=.returned (.tuple #[])/\Ee w w' (.pointer (some q)) (parts q Fc vb vs vp va).flatten (Ph S):=by
 obtain ⟨i1,hi1,hy0,hy1,hy2⟩:=info_parts NH.DF;obtain ⟨i0,hi0,hz0,hz1,hz2⟩:=info_parts Uj;obtain ⟨hc0,_,_,hc3,_⟩:=H.cell;obtain ⟨Aa,Ca,hav⟩:∃A C,va=.slice A S.al.length C:=BD H.FK;subst hav;have QU:q<w.heap.size:=H.head.lt;have hbt:=BP S.cs.length 20 (by omega);obtain ⟨B,hB⟩:=AU (BA S.cs.length);rw [hB] at hbt;have HB:=AX hB;have HH:=AX H;have HN:=AX hn;clear hB H hn;go_enter Tryz.func131,Tryz.ntmps131
 go_wp2_with fail
 refine (iw HH.out (Bj.refl _ _)).mono ?_
 rintro e w' ⟨rfl,rfl⟩;rw [HB.out];go_upto_block 0 with fail
 go_cut [2] (λs2 wc=>∃A C,s2=.slice A (CW S.al S.cs).length C/\NH.KI.row wc w.heap.size (.slice A (CW S.al S.cs).length C) (CW S.al S.cs)/\Bj [] w wc)
 case first=>
  go_wp2_with fail
  go_loopg [2,3] B (λm o i wr=>m<=B/\i=.int .i64 ((m:Int) - 1)/\∃A C,o=.slice A (CW S.al (S.cs.take (S.cs.length / 2 ^ m*2 ^ m))).length C/\NH.KI.row wr w.heap.size (.slice A (CW S.al (S.cs.take (S.cs.length / 2 ^ m*2 ^ m))).length C) (CW S.al (S.cs.take (S.cs.length / 2 ^ m*2 ^ m)))/\Bj [] w wr)
  case atStart=>
   have h2:S.cs.length / 2 ^ B*2 ^ B=0:=by rw [<-HB.out,Nat.div_eq_of_lt (Di S.cs.length),Nat.zero_mul]
   refine ⟨Nat.le_refl _,rfl,none,0,by rw [h2];rfl,?_,Bj.refl _ _⟩
   rw [h2,List.take_zero];exact World.ownsRow_nil _ _ _ _
  case round=>
   obtain ⟨hm,rfl,A,C,rfl,hrow,hu⟩:=hrel;obtain ⟨T,hT⟩:=AU (CW S.al (S.cs.take (S.cs.length / 2 ^ gk*2 ^ gk)))
   have hTl:T.length<=S.cs.length:=by
    rw [<-hT];exact Bh (Pg _ _) (by rw [Bf];omega)
   rw [hT] at hrow |-;have HR:=AX hrow;have HU:=AX hu;have HT:=AX hT;clear hT hrow hu;by_cases h0:gk=0
   ·subst h0;go_wp2_with fail
    go_meet
    case rel=>
     have zh:T=CW S.al S.cs:=by rw [<-HT.out];simp
     subst zh;exact ⟨A,C,rfl,HR.out,HU.out⟩
   ·obtain ⟨m,rfl⟩:∃m,gk=m+1:=⟨gk - 1,by omega⟩;have e8:(((m+1:Nat):Int) - 1)=(m:Int):=by omega
    rw [e8];clear e8;have hc2':=(HU.out.cell (p:=⟨q,0,none⟩) QU (by simp)).trans hc0;go_wp2_with fail
    refine (iy HH.out HU.out m (by rw [HB.out];omega) (by omega)).mono ?_
    rintro e w2 ⟨A2,C2,rfl,hr2,hu2⟩;obtain ⟨G,hG⟩:=AU (Bq S.cs m)
    have hGl:G.length<=S.cs.length:=by
     rw [<-hG,D7];split
     ·rename_i hb
      exact Nat.ge_two_pow_of_testBit hb
     ·omega
    have hGn:∀y∈G,y.2<S.al.length:=λy hy=>HN.out y (EM (by rw [hG];exact hy))
    rw [hG] at hr2 |-;obtain ⟨ng,aW⟩:=AU G.length;rw [aW] at hr2 hGl |-;have HG:=AX hG;have gV:=AX aW;have HGN:=AX hGn;have hrl:=BJ HR.out
    have hdis:∀x∈blk (.slice A T.length C),x∉blk (.slice A2 ng C2):=λx hx hc=>by
     have h1:=hrl x hx;have h2:=BH hr2 x hc;omega
    have hblt:=BJ hr2;have a2k:=AX hblt;have Le:=AX hdis;have HR2:=AX (NH.Ints.BU hr2);have HRT:=AX (Bl HR.out hu2 (by simp));have Ej:=AX (HU.out.trans hu2);clear hG aW hGn hr2 hu2 hc2' hrl hdis hblt;go_wp2_with fail
    go_loopg [2,24] ng (λg o i wx=>∃k A3 C3,g+k=ng/\i=.int .i64 (k:Int)/\o=.slice A3 (T++CW S.al (G.take k)).length C3/\NH.KI.row wx w.heap.size (.slice A3 (T++CW S.al (G.take k)).length C3) (T++CW S.al (G.take k))/\NH.Ints wx (.slice A2 ng C2) G/\(∀x∈blk (.slice A3 (T++CW S.al (G.take k)).length C3),x∉blk (.slice A2 ng C2))/\Bj [] w wx/\w2.heap.size<=wx.heap.size)
    case atStart=>
     have e:T++CW S.al (G.take 0)=T:=by simp [CW]
     refine ⟨0,A,C,rfl,rfl,by rw [e],?_,HR2.out,?_,Ej.out,Nat.le_refl _⟩
     ·rw [e];exact HRT.out
     ·rw [e];exact Le.out
    case round=>
     obtain ⟨k,A3,C3,hk,rfl,rfl,hr3,rZ,aX,hu3,hsz3⟩:=hrel;have hkm:k<=ng:=by omega
     obtain ⟨L,hL⟩:=AU (T++CW S.al (G.take k))
     have hLl:L.length<=S.cs.length+k:=by
      rw [<-hL,Bc];have:=Pg S.al (G.take k);rw [Bf] at this;omega
     rw [hL] at hr3 aX |-;have HI3:=AX rZ;have HD3:=AX aX;have rJ:=AX hsz3;have HK:=AX hk;have HL:=AX hL;have HR3:=AX hr3;have EJ:=AX hu3;clear hk hL hr3 hu3 rZ aX hsz3;by_cases hlt:k<ng
     ·obtain ⟨bb,oo,hA,hy0',hy1'⟩:=HI3.out.cell (k:=k) (by rw [gV.out];exact hlt);subst hA;have hkG:k<G.length:=by rw [gV.out];exact hlt
      have hst:=lH S.al G k hkG;obtain ⟨y,hy⟩:=AU (G[k]);have hyn:=HGN.out G[k] (List.getElem_mem _);rw [hy] at hy0' hy1' hyn hst;obtain ⟨y1,y2⟩:=y;dsimp only at hy0' hy1' hyn hst;obtain ⟨qa,hAa,Oo,_,aU⟩:=J9 HH.out.FK hyn (u:=.bool (S.al[y2])) (by simp [hyn]);subst hAa;have hcond:S.al.getD y2 false=S.al[y2]:=by simp [List.getD,hyn]
      obtain ⟨c,hc⟩:=AU (S.al[y2]);rw [hc] at Oo hcond;rw [hcond] at hst;have kZ:=EJ.out;have Ue:=(kZ.cell (p:=⟨q,3,none⟩) QU (by simp)).trans hc3;have Q5:=(kZ.cell (p:=⟨qa,y2,none⟩) aU (by simp)).trans Oo;have hhx:q<wr.heap.size:=Bg QU kZ.size;have JQ:qa<wr.heap.size:=Bg aU kZ.size;have HST:=AX hst;have pG:=AX kZ;clear hy hcond hc hst kZ hc3 Oo;have b0:(0:Int)<=(k:Int):=AY _;have b1:(k:Int)<(ng:Int):=by omega
      have b2:(0:Int)<=(y2:Int):=AY _;have b3:(y2:Int)<(S.al.length:Int):=by omega
      go_upto_region 7 with fail
      obtain ⟨p,hp⟩:=AU wr.heap.size;have FI:Bj [] wr (wr.alloc (.cells #[.int .u32 (y1:Int),(y2:Int)] 172)):=(Bj.refl _ _).alloc _;have hp0:(wr.alloc (.cells #[.int .u32 (y1:Int),(y2:Int)] 172)).cell? wr.heap.size=some (.int .u32 (y1:Int)):=by rw [World.cell?_alloc_at _ _ _ _ rfl];rfl
      have hp1:(wr.alloc (.cells #[.int .u32 (y1:Int),(y2:Int)] 172)).cell? ⟨wr.heap.size,1,none⟩=some (.int .i64 (y2:Int)):=by rw [World.cell?_alloc_at _ _ _ _ rfl];rfl
      generalize (wr.alloc (.cells #[.int .u32 (y1:Int),(y2:Int)] 172))=w4 at *;have gW:=(FI.cell (p:=⟨q,3,none⟩) hhx (by simp)).trans Ue;have a2l:=(FI.cell (p:=⟨qa,y2,none⟩) JQ (by simp)).trans Q5;rw [hp] at hp0 hp1 |-;have Hr:=AX (EJ.out.trans FI);have HR4:=AX (Bl HR3.out FI (by simp));have zG:=AX ((EJ.out.trans FI).size);have HI4:=AX (HI3.out.BF FI);have X4:=AX (Bh rJ.out FI.size);clear hp FI Ue Q5
      cases c
      ·go_quiet (fail)
       go_wp2_with fail
       go_roundg (ng - (k+1))
       case measure=>have:=HK.out;omega
       case rel=>
        have h9:=HST.out;rw [if_neg (by simp)] at h9;refine ⟨k+1,A3,C3,Ac HK,by go_num,by rw [h9,HL.out],?_,HI4.out,?_,Hr.out.drewN _,X4.out⟩
        ·rw [h9,HL.out];exact HR4.out
        ·rw [h9,HL.out];exact HD3.out
      ·go_quiet (fail)
       go_wp2_with (at_builtin;refine BM _ rfl _ _ 187 rfl w.heap.size 172 i1 (.agg #[.int .u32 0,.int .i64 0]) 2 16 Tryz.underlying187 hi1 hy0 hy1 hy2 rfl (by decide) _ _ _ rfl ((Bl (HR4.out) ((Bj.refl [] w4).drewN nq) (by simp)).alloc _) _ 1 [.int .u32 (y1:Int),(y2:Int)] rfl (BK (w4.drewN nq) #[.int .u32 (y1:Int),(y2:Int)] 172 2 1 rfl (by decide)) (by simp [Value.oneCell']) (by unfold maxLen;omega) (by omega) (by have:=zG.out;simp;omega) ?_)
       intro A9 C9 w9 Va;have Qm:Bj (blk (.slice A3 L.length C3)) w4 w9:=((Bj.refl _ _).drewN nq).trans' (((Bj.refl _ _).alloc _).trans Va.upd) (λx hx=>.inl hx);have RD:Bj [] w w9:=Hr.out.trans' Qm (λx hx=>.inr (BH HR4.out x hx));have su:NH.Ints w9 (.slice (some ⟨bb,oo,none⟩) ng C2) G:=HI4.out.upd Qm (λ_ x hx _ hc=>HD3.out x hc hx)
       have sD:∀x∈blk (.slice A9 (L.length+1) C9),x∉blk (.slice (some ⟨bb,oo,none⟩) ng C2):=by
        intro x hx hc;rcases Va.at with h' | h'
        ·rw [h'] at hx;exact HD3.out x hx hc
        ·rw [h'] at hx;simp at hx;have h1:=a2k.out x hc;have h2:=X4.out;omega
       have HI9:=AX su;have HD9:=AX sD;have HS9:=AX (Bh X4.out Qm.size)
       have Me:NH.KI.row w9 w.heap.size (.slice A9 (L.length+1) C9) (L++[(y1,y2)]):=by
        unfold Kind.row;rw [Kind.BZ,Bc];exact Va.own
       have kU:=AX RD;have zH:=AX Me;clear RD Me Va Qm su sD;go_wp2_with fail
       go_roundg (ng - (k+1))
       case measure=>have:=HK.out;omega
       case rel=>
        have h9:=HST.out;rw [if_pos (by simp)] at h9;refine ⟨k+1,A9,C9,Ac HK,by go_num,by rw [h9,<-List.append_assoc,HL.out,Bc];rfl,?_,HI9.out,?_,kU.out,HS9.out⟩
        ·rw [h9,<-List.append_assoc,HL.out,Bc];exact zH.out
        ·rw [h9,<-List.append_assoc,HL.out,Bc];exact HD9.out
     ·have hkn:k=ng:=by omega
      have hout:T++CW S.al G=CW S.al (S.cs.take (S.cs.length / 2 ^ m*2 ^ m)):=by
       rw [<-HT.out,<-P5 S.cs m,HG.out];unfold CW;rw [List.filter_append]
      have QT:L=CW S.al (S.cs.take (S.cs.length / 2 ^ m*2 ^ m)):=by
       rw [<-hout,<-HL.out,hkn,<-gV.out,List.take_length]
      have ZW:=AX QT;clear hout QT;go_wp2_with fail
      go_roundg m
      case measure=>omega
      case rel=>exact ⟨by omega,rfl,A3,C3,by rw [ZW.out],by rw [<-ZW.out];exact HR3.out,EJ.out⟩
 case rest=>
  obtain ⟨A,C,rfl,hrow,hu⟩:=hcut;obtain ⟨wc1,hwc⟩:∃W:World,W=wc:=⟨_,rfl⟩;subst hwc;obtain ⟨cs',hcs⟩:=AU (CW S.al S.cs);have hcl:cs'.length<=S.cs.length:=by rw [<-hcs];exact Pg _ _
  rw [hcs] at hrow |-;have H1:=HH.out.BF hu;have sW:=HH.out.lt
  have hF:∀x∈Fc,x∉blk (.slice A cs'.length C):=λx hx hc=>by
   have h1:=BH hrow x hc;have h2:=sW Fc (by simp [parts]) x hx;omega
  have a7w:=AX (NH.a2d cb Fc (.slice A cs'.length C) cs' _ _ _ wc1 H1.Om (CV hrow) (λ_ x hx hc=>hF x hc hx) (by omega) (by omega));have hd0:=(hu.cell (p:=⟨q,0,none⟩) QU (by simp)).trans hc0;have DJ:=AX hu;have U9:=AX H1;have kP:=AX hcs;clear hc0 hc3 hF sW H1 hrow hu hcs;go_wp2_with fail
  go_fit a7w.out
  rintro e w2 ⟨rfl,Fc2,g1,g2,g3⟩;have hq1:q∉Fc:=λhc=>U9.out.E5 (i:=0) (j:=1) rfl rfl (by omega) q (by simp) hc
  have zO:q<wc1.heap.size:=U9.out.head.lt;have H2:=U9.out.carry (cs:=cs') g1 g2 g3;have YH:q<w2.heap.size:=H2.head.lt;have hh2:=H2.head.set 1 (.slice none 0 0);have a5a:JX (w2.setCell ⟨q,1,none⟩ (.slice none 0 0)) q #[.pointer (some cb),.slice none 0 0,vp,.slice Aa S.al.length Ca,(S.n:Int)] 175:=by simpa using hh2
  have lI:Bj [q] w2 (w2.setCell ⟨q,1,none⟩ (.slice none 0 0)):=(Bj.refl _ _).setCell (p:=⟨q,1,none⟩) (.inl (by simp)) _;have H3:=H2.bks (gQ:=.slice none 0 0) (vs':=[]) (bk':=[]) (lI.mono (by intro x hx;simp at hx;left;simp [hx])) a5a Et.nil (by simp [D8,blk])
  have hst3:Dp w (w2.setCell ⟨q,1,none⟩ (.slice none 0 0)) q cb (parts q Fc vb vs vp (.slice Aa S.al.length Ca)).flatten [] { S with cs:=cs',wk:=S.wk+cs'.length }:=by
   refine ⟨_,_,_,_,_,H3,?_,?_⟩
   ·refine (DJ.out.mono (by simp)).trans ((g2.mono (λx hx=>.inl (Bz (i:=1) rfl hx))).trans (lI.mono (λx hx=>.inl (Bz (i:=0) (P:=[q]) rfl hx))))
   ·intro x hx;simp [parts,D8,blk] at hx;rcases hx with rfl | hx | hx | hx
    ·exact .inl (Bz (i:=0) (P:=[x]) rfl (by simp))
    ·rcases g3 x hx with g | g
     ·exact .inl (Bz (i:=1) rfl g)
     ·exact .inr (Bh DJ.out.size g)
    ·exact .inl (Bz (i:=3) rfl (by simpa [blk] using hx))
    ·exact .inl (Bz (i:=4) rfl (by simpa [blk] using hx))
  have a5b:=AX hst3;have hd1:=H2.head.cell 1;have hf1:=H2.head.frozen 1;have hd0:(w2.setCell ⟨q,1,none⟩ (.slice none 0 0)).cell? q=some (.pointer (some cb)):=H3.head.cell 0;have OB:=AX H3;obtain ⟨B2,hB2⟩:=AU (BA cs'.length);have a8J:B2<=20:=by rw [<-hB2];exact BP cs'.length 20 (by omega)
  have HB2:=AX hB2;clear hst3 g1 g2 g3 H2 H3 hh2 a5a lI hB2;go_upto_region 12 with fail
  generalize (w2.setCell ⟨q,1,none⟩ (.slice none 0 0))=w3 at a5b OB hd0 |-;go_wp2_with fail
  refine (iw OB.out (Bj.refl _ _)).mono ?_
  rintro e w' ⟨rfl,rfl⟩;rw [HB2.out];go_wp2_with fail
  go_loopg [55] B2 (λm i wr=>∃(k:Nat) (bk':List (List (Nat×Nat))),m+k=B2/\i=.int .i64 (k:Int)/\bk'.length=k/\(∀(i:Nat) (l:List (Nat×Nat)),bk'[i]? = some l->l.Perm (Bq cs' i)/\l.Pairwise λa b=>a.1<=b.1)/\Dp w wr q cb (parts q Fc vb vs vp (.slice Aa S.al.length Ca)).flatten bk' { S with cs:=cs',wk:=S.wk+cs'.length })
  case atStart=>exact ⟨0,[],by omega,rfl,rfl,by simp,a5b.out⟩
  case round=>
   obtain ⟨k,bk',hk,rfl,hkl,hks,vb1,vp1,va1,vs1,Xq,H1,hu1,hF1⟩:=hrel;have b0:(0:Int)<=(k:Int):=AY _;by_cases hlt:k<B2
   ·have hlt2:(k:Int)<(B2:Int):=by omega
    obtain ⟨c0,c1,-,-,-,cf⟩:=H1.cell;obtain ⟨A1,C1,a7x⟩:=BD H1.rows.list;subst a7x;have hqr:q<wr.heap.size:=H1.head.lt;have xQ:q∉blk (.slice A1 vs1.length C1):=λhc=>H1.E5 (i:=0) (j:=2) rfl rfl (by omega) q (by simp) (BQ.2 (.inl hc))
    obtain ⟨n1,hn1⟩:=AU vs1.length;have a4s:n1<=20:=by rw [<-hn1,H1.rows.len,hkl];omega
    obtain ⟨l,hl'⟩:=AU (Bq cs' k)
    have hll:l.length<90000:=by
     rw [<-hl',D7];split
     ·rename_i hb
      have:=Nat.ge_two_pow_of_testBit hb;omega
     ·omega
    have hbk:∀w2,Bj [] wr w2->Calls Tryz.prog 199 #[.pointer (some cb),(k:Int)] w2 λe w'=>∃A C,e=.returned (.slice A l.length C)/\NH.KI.row w' w2.heap.size (.slice A l.length C) l/\Bj [] w2 w':=by
     intro w2 hu2;have:=iy H1 hu2 k (by show k<BA cs'.length;rw [HB2.out];exact hlt) (by show cs'.length<_;omega);have e:Bq ({ S with cs:=cs',wk:=S.wk+cs'.length }:NS).cs k=l:=hl';rwa [e] at this
    have yI:=AX hbk;have HR1:=AX H1;have a7y:=AX hu1;have Zu:=AX hF1;have HK:=Au hk hkl hks hl';have Ry:=AX hn1;obtain ⟨vb1,hvb⟩:∃v,Value.slice A1 vs1.length C1=v:=⟨_,rfl⟩;have HVB:=AX hvb;rw [hn1] at c1 xQ;clear H1 hu1 hF1 hk hkl hks hl' hbk hvb hd1 hf1 hd0;go_upto_region 15 with fail
    refine Bo.start [13,14,15,16] (λw'=>Bj [] wr w') (by kernel_rfl) ?_ λhS=>?_
    ·exact (Bj.refl _ _).drew
    refine' Bo.mx 0 58 ?_
    refine' Bo.mx 1 59 ?_
    refine' Bo.mx 2 60 ?_
    refine' Bo.mx 3 61 ?_
    refine' Bo.tk 3 (i:=4) (oi:=⟨some 62,_,_,_,_,_⟩) rfl (by rfl) ?a5c ?_
    case a5c=>intro w hSw;have e9:=(hSw.cell (p:=⟨q,1,none⟩) hqr (by simp)).trans c1;go_simp<;>with_reducible rfl
    simp only [Act.put,sA,sZ,sS];refine' Bo.mx 5 63 ?_
    refine' Bo.mx 6 64 ?_
    refine' Bo.mx 7 65 ?_
    refine' Bo.tk 3 (i:=8) (oi:=⟨some 66,_,_,_,_,_⟩) rfl (by rfl) ?a5d ?_
    case a5d=>intro w hSw;have e9:=(hSw.cell (p:=⟨q,0,none⟩) hqr (by simp)).trans c0;go_simp<;>with_reducible rfl
    simp only [Act.put,sA,sZ,sS];refine' Bo.mx 9 67 ?_
    refine Bo.one (i:=10) (o:=⟨some 68,_,_,_,_,_⟩) rfl (by kernel_rfl) λK hK=>?_
    go_simp
    go_at_call 199
    go_fit (yI.out _ hS)
    rintro e wA ⟨AA,CA,rfl,rA,uA⟩;have HA:=Ap rA uA;have HAR:=AX (hS.size);clear rA uA;refine hK.out _ _ (λ_ h=>?_) ?_
    ·exact h.trans HA.2
    clear hK K;try simp only [Act.put,sA,sZ,sS]
    refine Bo.one (i:=11) (o:=⟨some 69,_,_,_,_,_⟩) rfl (by kernel_rfl) λK hK=>?_
    go_simp
    go_at_call 127
    go_fit (gY _ _ _ _ HA.1 (by omega))
    rintro e wB ⟨rfl,uB,lB,pB,sB,rB⟩;have X5:=AX ((hS.trans HA.2).trans' uB (λy hy=>.inr (Bh HAR.out (BH HA.1 y hy))));have VF:=Aq pB sB rB;clear uB pB sB rB;refine hK.out _ _ (λ_ h=>?_) ?_
    ·exact X5.out
    clear hK K;try simp only [Act.put,sA,sZ,sS]
    refine Bo.one (i:=12) (o:=⟨some 70,_,_,_,_,_⟩) rfl (by kernel_rfl) λK hK=>?_
    go_simp
    refine hK.out _ _ (λ_ h=>?_) ?_
    ·exact h.alloc _
    clear hK K;try simp only [Act.put,sA,sZ,sS]
    refine Bo.one (i:=13) (o:=⟨some 71,_,_,_,_,_⟩) rfl (by kernel_rfl) λK hK=>?_
    rw [if_pos (by simp [Region.wanted])];refine SK _ _ _ 173 (by rfl) 0 187 i0 (.slice none 0 0) 1 24 Tryz.underlying173 hi0 hz0 hz1 hz2 rfl (by decide) (.slice A1 n1 C1) n1 vs1 (by rfl) ((Bl (by have:=HR1.out.rows.list;rwa [Ry.out] at this) X5.out (by simp)).alloc _) _ 1 [.slice AA l.length CA] (by rfl) (BK wB #[.slice AA l.length CA] 187 1 1 rfl (by decide)) (by simp [Value.oneCell']) (by unfold maxLen;omega) (by omega) (Nat.zero_le _) ?_
    intro A2 C2 w1 HP;have hqB:q<wB.heap.size:=Bg hqr X5.out.size
    have hst1:w1.cell? ⟨q,1,none⟩=some (.slice A1 n1 C1):=by
     rw [(HP.upd).cell (p:=⟨q,1,none⟩) (by simp;omega) xQ,World.cell?_alloc_past _ _ _ hqB,X5.out.cell (p:=⟨q,1,none⟩) hqr (by simp)];exact c1
    have hst2:w1.frozen? ⟨q,1,none⟩=false:=by
     rw [(HP.upd).frozen (p:=⟨q,1,none⟩) (by simp;omega) xQ,World.frozen?_alloc_past _ _ _ hqB,X5.out.frozen (p:=⟨q,1,none⟩) hqr (by simp)];exact cf 1
    refine hK.out _ _ (λh=>(by cases h)) ?_
    clear hK K;try simp only [Act.put,sA,sZ,sS]
    refine' Bo.mx 14 72 ?_
    refine' Bo.mx 15 73 ?_
    refine Bo.one (i:=16) (o:=⟨none,_,_,_,_,_⟩) rfl (by kernel_rfl) λK hK=>?_
    go_simp
    refine hK.out _ _ (λh=>(by cases h)) ?_
    clear hK K;try simp only [Act.put,sA,sZ,sS]
    refine Bo.done (by kernel_rfl) ?_
    have a1d:=own_base VF.2.2 (Nat.zero_le _)
    have a5e:∀x∈blk (.slice AA l.length CA),x∉D8 (.slice A1 vs1.length C1) vs1:=λx hx hc=>by
     have h1:=BH VF.2.2 x hx;have h2:=HR1.out.rows.lt x hc;have h3:=HAR.out;omega
    have hpush:=lG (HR1.out.rows.upd X5.out (by simp)) a1d a5e (by rw [Ry.out];exact HP);have hHP:=HP.upd;have HPU:=Ap hpush hHP;clear hpush HP hHP a1d a5e hst1 hst2;go_wp2_with fail
    go_roundg (B2 - (k+1))
    case measure=>have:=HK.1;omega
    case rel=>
     obtain ⟨k1,k2,k3,k4⟩:=HK.out;obtain ⟨⟨p1,p2⟩,p3⟩:=HPU.out;rw [Ry.out] at p1 p2;have PO:q∉D8 (.slice A1 vs1.length C1) vs1:=λhc=>HR1.out.E5 (i:=0) (j:=2) rfl rfl (by omega) q (by simp) hc
     have hu1:Bj (D8 (.slice A1 vs1.length C1) vs1) wr w1:=(X5.out.mono (by simp)).trans' (((Bj.refl _ _).alloc _).trans p3) (λx hx=>.inl (by rw [Ry.out];exact BQ.2 (.inl hx)));have hh1:=(HR1.out.head.upd hu1 PO).set 1 (.slice A2 (n1+1) C2);have hus:Bj [q] w1 (w1.setCell ⟨q,1,none⟩ (.slice A2 (n1+1) C2)):=(Bj.refl _ _).setCell (p:=⟨q,1,none⟩) (.inl (by simp)) _
     have hnq:∀x∈D8 (.slice A2 (n1+1) C2) (vs1++[.slice AA l.length CA]),x∉[q]:=by
      intro x hx hc;simp at hc;subst hc;rcases p2 x hx with g | g | g
      ·exact PO (by rw [Ry.out];exact g)
      ·have h1:=BH VF.2.2 x g;have h3:=HAR.out;omega
      ·have:=X5.out.size;omega
     have a2r:=HR1.out.bks (gQ:=.slice A2 (n1+1) C2) (vs':=vs1++[.slice AA l.length CA]) (bk':=bk'++[_]) (w':=w1.setCell ⟨q,1,none⟩ (.slice A2 (n1+1) C2)) ((hu1.mono (by intro x hx;left;simp [hx])).trans (hus.mono (by intro x hx;left;simp at hx;simp [hx])))
      (by simpa using hh1) (p1.upd hus hnq) ?_
     ·refine ⟨k+1,bk'++[_],by omega,by go_num,by simp [k2],?_,Dp.then Zu.out a7y.out a2r ?_ ?_⟩
      ·intro i l' hi;rw [List.getElem?_append] at hi;split at hi
       ·exact k3 i l' hi
       ·have hlt3:=(AZ hi).1;simp at hlt3;have e:i=k:=by omega
        subst e;rw [k2,Nat.sub_self] at hi;simp at hi;subst hi;rw [k4];exact ⟨VF.1,VF.2.1⟩
      ·exact (hu1.mono (λx hx=>.inl (Bz (i:=2) rfl hx))).trans (hus.mono (λx hx=>.inl (Bz (i:=0) (P:=[q]) rfl hx)))
      ·intro x hx;have e:parts q Xq (.slice A2 (n1+1) C2) (vs1++[.slice AA l.length CA]) vp1 va1=(parts q Xq (.slice A1 vs1.length C1) vs1 vp1 va1).set 2 (D8 (.slice A2 (n1+1) C2) (vs1++[.slice AA l.length CA])):=rfl;rw [e] at hx;rcases Ed hx with g | g
       ·exact .inl g
       ·rcases p2 x g with g | g | g
        ·exact .inl (Bz (i:=2) rfl (by rw [Ry.out];exact g))
        ·exact .inr (Bh HAR.out (BH VF.2.2 x g))
        ·exact .inr (Bh X5.out.size g)
     ·intro x hx;rcases p2 x hx with g | g | g
      ·exact .inl (by rw [Ry.out];exact g)
      ·exact .inr (Bh HAR.out (BH VF.2.2 x g))
      ·exact .inr (Bh X5.out.size g)
   ·have hkB:k=B2:=by omega
    have HK:=Aq hkl hks hkB;have D9:=AX (⟨vb1,vp1,va1,vs1,Xq,H1,hu1,hF1⟩:Dp w wr q cb (parts q Fc vb vs vp (.slice Aa S.al.length Ca)).flatten bk' { S with cs:=cs',wk:=S.wk+cs'.length });clear H1 hu1 hF1 hkl hks hk hkB hd1 hf1 hd0;go_wp2_with fail
    go_end0
    have e:Ph S={ S with cs:=cs',wk:=S.wk+cs'.length }:=by unfold Ph;rw [kP.out]
    rw [e];refine ⟨rfl,Dp.is D9.out ?_⟩
    obtain ⟨h1,h2,h3⟩:=HK.out;refine ⟨by rw [D6];show bk'.length=BA cs'.length;rw [HB2.out,h1,h3],λi l m hl' hm=>?_⟩
    have hi:=(AZ hl').1;have hg:=EC cs' i (by rw [HB2.out];omega);have hm':(setB cs')[i]? = some m:=hm;rw [hg] at hm'
    cases hm'
    exact h2 i l hl'
