/- names' anew. Printed by genNmH.py. -/
import Derived.Deep.DrawnRows
import Derived.Test.YtkbaaonchdeneaaGreatPb29
set_option maxHeartbeats 8000000
set_option maxRecDepth 100000
namespace Go.Proofs.YtkbaaonchdeneaaGreat.Nm
open Go.RowKit
attribute [local go_sem ↓] Go.wp_at_zero Go.wp_at_succ
theorem rE {α:Type} {K:Kind α} {w w1:World} {v u:Value} {vs:List Value} {ll:List (List α)} {l:List α} (h:Fj K w v vs ll) (hrow:K.row w 0 u l) (hap:∀k∈blk u,k∉Ey v vs) {o:Obj} {A:Option Addr} {C:Nat}
 (HP:DY (w.alloc o) w1 0 K.sT 1 v vs.length vs 1 [u] A C) :
 Fj K w1 (.slice A (vs.length+1) C) (vs++[u]) (ll++[l])∧∀k∈Ey (.slice A (vs.length+1) C) (vs++[u]),k∈Ey v vs∨k∈blk u∨w.heap.size≤k:=by
 have hu:Bf (blk v) w w1:=((Bf.refl _ _).alloc _).trans HP.upd
 have hget:∀(i:Nat) (t:Value),(vs++[u])[i]? = some t→vs[i]? = some t∨(i=vs.length∧t=u):=by
  intro i t hv;rw [List.getElem?_append] at hv;split at hv
  ·exact .inl hv
  ·rename_i hge
   have hl:=(AV hv).1;simp at hl;have e:i=vs.length:=by omega
   subst e;simp at hv;exact .inr ⟨rfl,hv.symm⟩
 have hnew:∀k,k∈blk (.slice A (vs.length+1) C)→k∈blk v∨w.heap.size<k:=by
  intro k hk;rcases HP.at with hb | hb
  ·rw [hb] at hk;exact .inl hk
  ·rw [hb] at hk;simp at hk;right;omega
 have hlt:=h.lt;have hlu:=BK hrow;have FM:∀k∈blk u,k∉blk v:=fun k hk hc=>hap k hk (CB.2 (.inl hc))
 refine ⟨⟨by simpa using HP.own,by simp [h.len],?_,?_,?_⟩,?_⟩
 ·intro i t l' hv hl;rcases hget i t hv with hv' | ⟨rfl,rfl⟩
  ·have hi:=Zm hv';rw [List.getElem?_append_left (by rw [←h.len];exact hi)] at hl;exact Bg (h.rows i t l' hv' hl) hu fun k hk=>h.away i t k hv' hk
  ·rw [h.len,List.getElem?_append_right (Nat.le_refl _),Nat.sub_self] at hl;simp at hl;subst hl;exact Bg hrow hu FM
 ·intro i t k hv hk hc;rcases hget i t hv with hv2 | ⟨e1,e2⟩
  ·rcases hnew k hc with h1 | h1
   ·exact h.away i t k hv2 hk h1
   ·have:=hlt k (CB.2 (.inr ⟨i,t,hv2,hk⟩));omega
  ·rw [e2] at hk;rcases hnew k hc with h1 | h1
   ·exact FM k hk h1
   ·have:=hlu k hk;omega
 ·intro i j t s k hv ht hk hk';rcases hget i t hv with hv2 | ⟨e1,e2⟩
  ·rcases hget j s ht with ht2 | ⟨e3,e4⟩
   ·exact h.apart i j t s k hv2 ht2 hk hk'
   ·rw [e4] at hk';exact (hap k hk' (CB.2 (.inr ⟨i,t,hv2,hk⟩))).elim
  ·rcases hget j s ht with ht2 | ⟨e3,e4⟩
   ·rw [e2] at hk;exact (hap k hk (CB.2 (.inr ⟨j,s,ht2,hk'⟩))).elim
   ·rw [e1,e3]
 ·intro k hk;rw [CB] at hk;rcases hk with hk | ⟨i,t,hv,hk⟩
  ·rcases hnew k hk with h1 | h1
   ·exact .inl (CB.2 (.inl h1))
   ·right;right;omega
  ·rcases hget i t hv with hv | ⟨rfl,rfl⟩
   ·exact .inl (CB.2 (.inr ⟨i,t,hv,hk⟩))
   ·exact .inr (.inl hk)
theorem TM (al:List Bool) (b:List (Nat×Nat)):(CZ al b).length≤b.length:=List.length_filter_le _ _
theorem rF (al:List Bool) (b:List (Nat×Nat)) (k:Nat) (hk:k<b.length):CZ al (b.take (k+1))=if al.getD b[k].2 false then CZ al (b.take k)++[b[k]] else CZ al (b.take k):=by
 unfold CZ;rw [AZ hk,List.filter_append];split
 ·rename_i h;simp only [List.filter_cons,h,if_true,List.filter_nil]
 ·rename_i h;simp only [List.filter_cons,h,Bool.false_eq_true,if_false,List.filter_nil,List.append_nil]
theorem Xy:(Tryz.prog.info? 187).map (fun i=>(i.zero,i.size,i.bytes))=some (some (.slice none 0 0),1,24):=by kernel_rfl
def TN (S:NS):NS:={ S with cs:=CZ S.al S.cs,wk:=S.wk+(CZ S.al S.cs).length }
theorem nI {w w2:World} {q cb:Nat} {vb vp va:Value} {vs:List Value} {bk:List (List (Nat×Nat))} {Fc:List Nat} {S:NS} (H:EN w q cb vb vp va vs bk Fc S) (hu:Bf [] w w2) :
 Calls Tryz.prog 198 #[.pointer (some ⟨cb,0,none⟩)] w2 fun e w'=>e=.returned (.int .i64 (BA S.cs.length:Nat))∧w2=w':=by
 have:=Rq.ZH cb Fc (setB S.cs) S.cs.length S.wk w2 (H.TI.upd hu (by simp));rwa [Es] at this
theorem nJ {w w2:World} {q cb:Nat} {vb vp va:Value} {vs:List Value} {bk:List (List (Nat×Nat))} {Fc:List Nat} {S:NS} (H:EN w q cb vb vp va vs bk Fc S) (hu:Bf [] w w2) (i:Nat) (hi:i<BA S.cs.length) (hl:S.cs.length<1000000) :
 Calls Tryz.prog 199 #[.pointer (some ⟨cb,0,none⟩),.int .i64 i] w2 fun e w'=>∃A C,e=.returned (.slice A (Bo S.cs i).length C)∧Rq.KI.row w' w2.heap.size (.slice A (Bo S.cs i).length C) (Bo S.cs i)∧Bf [] w2 w':=by
 have hb:(Bo S.cs i).length<1000000:=by
  rw [Ew];split
  ·rename_i hb
   have:=Nat.ge_two_pow_of_testBit hb;omega
  ·omega
 exact Rq.Sj cb Fc i _ (setB S.cs) S.cs.length S.wk w2 (H.TI.upd hu (by simp)) (FI S.cs i hi) hb
theorem a7j {w:World} {q cb:Nat} {vb vp va:Value} {vs:List Value} {bk:List (List (Nat×Nat))} {Fc:List Nat} {S:NS} (H:EN w q cb vb vp va vs bk Fc S) (hn:∀y∈S.cs,y.2<S.al.length) (hl:S.cs.length<90000) (hw:S.wk<549755813888) :
 Calls Tryz.prog 131 #[.pointer (some ⟨q,0,none⟩)] w fun e w'=>e=.returned (.tuple #[])∧EK w w' (.pointer (some ⟨q,0,none⟩)) (parts q Fc vb vs vp va).flatten (TN S):=by
 obtain ⟨i1,hi1,hy0,hy1,hy2⟩:=info_parts Rq.D9;obtain ⟨i0,hi0,hz0,hz1,hz2⟩:=info_parts Xy;obtain ⟨hc0,_,_,hc3,_⟩:=H.cell;obtain ⟨Aa,Ca,hav⟩:∃A C,va=.slice A S.al.length C:=Bv H.GK;subst hav;have Vt:q<w.heap.size:=H.head.lt;have hbt:=CQ S.cs.length 20 (by omega);obtain ⟨B,hB⟩:=AO (BA S.cs.length);rw [hB] at hbt;have HB:=AQ hB;have HH:=AQ H;have HN:=AQ hn;clear hB H hn;go_enter Tryz.func131,Tryz.ntmps131
 go_wp2_with fail
 refine (nI HH.out (Bf.refl _ _)).mono ?_
 rintro e w' ⟨rfl,rfl⟩;rw [HB.out];go_upto_block 0 with fail
 go_cut [2] (fun s2 wc=>∃A C,s2=.slice A (CZ S.al S.cs).length C∧Rq.KI.row wc w.heap.size (.slice A (CZ S.al S.cs).length C) (CZ S.al S.cs)∧Bf [] w wc)
 case first=>
  go_wp2_with fail
  go_loopg [2,3] B (fun m o i wr=>m≤B∧i=.int .i64 ((m:Int) - 1)∧∃A C,o=.slice A (CZ S.al (S.cs.take (S.cs.length / 2 ^ m*2 ^ m))).length C∧Rq.KI.row wr w.heap.size (.slice A (CZ S.al (S.cs.take (S.cs.length / 2 ^ m*2 ^ m))).length C) (CZ S.al (S.cs.take (S.cs.length / 2 ^ m*2 ^ m)))∧Bf [] w wr)
  case atStart=>
   have h2:S.cs.length / 2 ^ B*2 ^ B=0:=by rw [←HB.out,Nat.div_eq_of_lt (D7 S.cs.length),Nat.zero_mul]
   refine ⟨Nat.le_refl _,rfl,none,0,by rw [h2];rfl,?_,Bf.refl _ _⟩
   rw [h2,List.take_zero];exact World.ownsRow_nil _ _ _ _
  case round=>
   obtain ⟨hm,rfl,A,C,rfl,hrow,hu⟩:=hrel;obtain ⟨T,hT⟩:=AO (CZ S.al (S.cs.take (S.cs.length / 2 ^ gk*2 ^ gk)))
   have hTl:T.length≤S.cs.length:=by
    rw [←hT];exact Bd (TM _ _) (by rw [Ba];omega)
   rw [hT] at hrow ⊢;have HR:=AQ hrow;have HU:=AQ hu;have HT:=AQ hT;clear hT hrow hu;by_cases h0:gk=0
   ·subst h0;go_wp2_with fail
    go_meet
    case rel=>
     have hTT:T=CZ S.al S.cs:=by rw [←HT.out];simp
     subst hTT;exact ⟨A,C,rfl,HR.out,HU.out⟩
   ·obtain ⟨m,rfl⟩:∃m,gk=m+1:=⟨gk - 1,by omega⟩;have e8:(((m+1:Nat):Int) - 1)=(m:Int):=by omega
    rw [e8];clear e8;have hc2':=(HU.out.cell (p:=⟨q,0,none⟩) Vt (by simp)).trans hc0;go_wp2_with fail
    refine (nJ HH.out HU.out m (by rw [HB.out];omega) (by omega)).mono ?_
    rintro e w2 ⟨A2,C2,rfl,hr2,hu2⟩;obtain ⟨G,hG⟩:=AO (Bo S.cs m)
    have hGl:G.length≤S.cs.length:=by
     rw [←hG,Ew];split
     ·rename_i hb
      exact Nat.ge_two_pow_of_testBit hb
     ·omega
    have hGn:∀y∈G,y.2<S.al.length:=fun y hy=>HN.out y (Gh (by rw [hG];exact hy))
    rw [hG] at hr2 ⊢;obtain ⟨ng,jH⟩:=AO G.length;rw [jH] at hr2 hGl ⊢;have HG:=AQ hG;have ni:=AQ jH;have HGN:=AQ hGn;have hrl:=BK HR.out
    have hdis:∀x∈blk (.slice A T.length C),x∉blk (.slice A2 ng C2):=fun x hx hc=>by
     have h1:=hrl x hx;have h2:=BD hr2 x hc;omega
    have hblt:=BK hr2;have a4u:=AQ hblt;have O4:=AQ hdis;have HR2:=AQ (Rq.Ints.BX hr2);have HRT:=AQ (Bg HR.out hu2 (by simp));have Fq:=AQ (HU.out.trans hu2);clear hG jH hGn hr2 hu2 hc2' hrl hdis hblt;go_wp2_with fail
    go_loopg [2,24] ng (fun g o i wx=>∃k A3 C3,g+k=ng∧i=.int .i64 (k:Int)∧o=.slice A3 (T++CZ S.al (G.take k)).length C3∧Rq.KI.row wx w.heap.size (.slice A3 (T++CZ S.al (G.take k)).length C3) (T++CZ S.al (G.take k))∧Rq.Ints wx (.slice A2 ng C2) G∧(∀x∈blk (.slice A3 (T++CZ S.al (G.take k)).length C3),x∉blk (.slice A2 ng C2))∧Bf [] w wx∧w2.heap.size≤wx.heap.size)
    case atStart=>
     have e:T++CZ S.al (G.take 0)=T:=by simp [CZ]
     refine ⟨0,A,C,rfl,rfl,by rw [e],?_,HR2.out,?_,Fq.out,Nat.le_refl _⟩
     ·rw [e];exact HRT.out
     ·rw [e];exact O4.out
    case round=>
     obtain ⟨k,A3,C3,hk,rfl,rfl,hr3,wW,jI,hu3,hsz3⟩:=hrel;have hkm:k≤ng:=by omega
     obtain ⟨L,hL⟩:=AO (T++CZ S.al (G.take k))
     have hLl:L.length≤S.cs.length+k:=by
      rw [←hL,AY];have:=TM S.al (G.take k);rw [Ba] at this;omega
     rw [hL] at hr3 jI ⊢;have HI3:=AQ wW;have HD3:=AQ jI;have wK:=AQ hsz3;have HK:=AQ hk;have HL:=AQ hL;have HR3:=AQ hr3;have Gj:=AQ hu3;clear hk hL hr3 hu3 wW jI hsz3;by_cases hlt:k<ng
     ·obtain ⟨bb,oo,hA,hy0',hy1'⟩:=HI3.out.cell (k:=k) (by rw [ni.out];exact hlt);subst hA;have hkG:k<G.length:=by rw [ni.out];exact hlt
      have hst:=rF S.al G k hkG;obtain ⟨y,hy⟩:=AO (G[k]);have hyn:=HGN.out G[k] (List.getElem_mem _);rw [hy] at hy0' hy1' hyn hst;obtain ⟨y1,y2⟩:=y;dsimp only at hy0' hy1' hyn hst;obtain ⟨qa,hAa,Sm,_,jF⟩:=Oy HH.out.GK hyn (u:=.bool (S.al[y2])) (by simp [hyn]);subst hAa;have hcond:S.al.getD y2 false=S.al[y2]:=by simp [List.getD,hyn]
      obtain ⟨c,hc⟩:=AO (S.al[y2]);rw [hc] at Sm hcond;rw [hcond] at hst;have qX:=Gj.out;have Xu:=(qX.cell (p:=⟨q,3,none⟩) Vt (by simp)).trans hc3;have Vy:=(qX.cell (p:=⟨qa,y2,none⟩) jF (by simp)).trans Sm;have hhx:q<wr.heap.size:=Bc Vt qX.size;have JJ:qa<wr.heap.size:=Bc jF qX.size;have HST:=AQ hst;have lS:=AQ qX;clear hy hcond hc hst qX hc3 Sm;have b0:(0:Int)≤(k:Int):=AU _;have b1:(k:Int)<(ng:Int):=by omega
      have b2:(0:Int)≤(y2:Int):=AU _;have b3:(y2:Int)<(S.al.length:Int):=by omega
      go_upto_region 7 with fail
      obtain ⟨p,hp⟩:=AO wr.heap.size;have FM:Bf [] wr (wr.alloc (.cells #[.int .u32 (y1:Int),.int .i64 (y2:Int)] 172)):=(Bf.refl _ _).alloc _;have hp0:(wr.alloc (.cells #[.int .u32 (y1:Int),.int .i64 (y2:Int)] 172)).cell? ⟨wr.heap.size,0,none⟩=some (.int .u32 (y1:Int)):=by rw [World.cell?_alloc_at _ _ _ _ rfl];rfl
      have hp1:(wr.alloc (.cells #[.int .u32 (y1:Int),.int .i64 (y2:Int)] 172)).cell? ⟨wr.heap.size,1,none⟩=some (.int .i64 (y2:Int)):=by rw [World.cell?_alloc_at _ _ _ _ rfl];rfl
      generalize (wr.alloc (.cells #[.int .u32 (y1:Int),.int .i64 (y2:Int)] 172))=w4 at *;have nC:=(FM.cell (p:=⟨q,3,none⟩) hhx (by simp)).trans Xu;have a4v:=(FM.cell (p:=⟨qa,y2,none⟩) JJ (by simp)).trans Vy;rw [hp] at hp0 hp1 ⊢;have Gl:=AQ (Gj.out.trans FM);have HR4:=AQ (Bg HR3.out FM (by simp));have HWS:=AQ ((Gj.out.trans FM).size);have HI4:=AQ (HI3.out.Bh FM);have aW:=AQ (Bd wK.out FM.size);clear hp FM Xu Vy
      cases c
      ·go_quiet (fail)
       go_wp2_with fail
       go_roundg (ng - (k+1))
       case measure=>have:=HK.out;omega
       case rel=>
        have h9:=HST.out;rw [if_neg (by simp)] at h9;refine ⟨k+1,A3,C3,Ac HK,by go_num,by rw [h9,HL.out],?_,HI4.out,?_,Gl.out.drewN _,aW.out⟩
        ·rw [h9,HL.out];exact HR4.out
        ·rw [h9,HL.out];exact HD3.out
      ·go_quiet (fail)
       go_wp2_with (at_builtin;refine BL _ rfl _ _ 187 rfl w.heap.size 172 i1 (.agg #[.int .u32 0,.int .i64 0]) 2 16 Tryz.underlying187 hi1 hy0 hy1 hy2 rfl (by decide) _ _ _ rfl ((Bg (HR4.out) ((Bf.refl [] w4).drewN nq) (by simp)).alloc _) _ 1 [.int .u32 (y1:Int),.int .i64 (y2:Int)] rfl (BM (w4.drewN nq) #[.int .u32 (y1:Int),.int .i64 (y2:Int)] 172 2 1 rfl (by decide)) (by simp [Value.oneCell']) (by unfold maxLen;omega) (by omega) (by have:=HWS.out;simp;omega) ?_)
       intro A9 C9 w9 Yp;have U0:Bf (blk (.slice A3 L.length C3)) w4 w9:=((Bf.refl _ _).drewN nq).trans' (((Bf.refl _ _).alloc _).trans Yp.upd) (fun x hx=>.inl hx);have VP:Bf [] w w9:=Gl.out.trans' U0 (fun x hx=>.inr (BD HR4.out x hx));have wX:Rq.Ints w9 (.slice (some ⟨bb,oo,none⟩) ng C2) G:=HI4.out.upd U0 (fun _ x hx _ hc=>HD3.out x hc hx)
       have wY:∀x∈blk (.slice A9 (L.length+1) C9),x∉blk (.slice (some ⟨bb,oo,none⟩) ng C2):=by
        intro x hx hc;rcases Yp.at with h' | h'
        ·rw [h'] at hx;exact HD3.out x hx hc
        ·rw [h'] at hx;simp at hx;have h1:=a4u.out x hc;have h2:=aW.out;omega
       have HI9:=AQ wX;have HD9:=AQ wY;have HS9:=AQ (Bd aW.out U0.size)
       have PU:Rq.KI.row w9 w.heap.size (.slice A9 (L.length+1) C9) (L++[(y1,y2)]):=by
        unfold Kind.row;rw [Kind.Ci,AY];exact Yp.own
       have ZL:=AQ VP;have HR9:=AQ PU;clear VP PU Yp U0 wX wY;go_wp2_with fail
       go_roundg (ng - (k+1))
       case measure=>have:=HK.out;omega
       case rel=>
        have h9:=HST.out;rw [if_pos (by simp)] at h9;refine ⟨k+1,A9,C9,Ac HK,by go_num,by rw [h9,←List.append_assoc,HL.out,AY];rfl,?_,HI9.out,?_,ZL.out,HS9.out⟩
        ·rw [h9,←List.append_assoc,HL.out,AY];exact HR9.out
        ·rw [h9,←List.append_assoc,HL.out,AY];exact HD9.out
     ·have hkn:k=ng:=by omega
      have hout:T++CZ S.al G=CZ S.al (S.cs.take (S.cs.length / 2 ^ m*2 ^ m)):=by
       rw [←HT.out,←UC S.cs m,HG.out];unfold CZ;rw [List.filter_append]
      have Vs:L=CZ S.al (S.cs.take (S.cs.length / 2 ^ m*2 ^ m)):=by
       rw [←hout,←HL.out,hkn,←ni.out,List.take_length]
      have Xb:=AQ Vs;clear hout Vs;go_wp2_with fail
      go_roundg m
      case measure=>omega
      case rel=>exact ⟨by omega,rfl,A3,C3,by rw [Xb.out],by rw [←Xb.out];exact HR3.out,Gj.out⟩
 case rest=>
  obtain ⟨A,C,rfl,hrow,hu⟩:=hcut;obtain ⟨wc1,hwc⟩:∃W:World,W=wc:=⟨_,rfl⟩;subst hwc;obtain ⟨cs',hcs⟩:=AO (CZ S.al S.cs);have hcl:cs'.length≤S.cs.length:=by rw [←hcs];exact TM _ _
  rw [hcs] at hrow ⊢;have H1:=HH.out.Bh hu;have xK:=HH.out.lt
  have hF:∀x∈Fc,x∉blk (.slice A cs'.length C):=fun x hx hc=>by
   have h1:=BD hrow x hc;have h2:=xK Fc (by simp [parts]) x hx;omega
  have b1m:=AQ (Rq.a4m cb Fc (.slice A cs'.length C) cs' _ _ _ wc1 H1.TI (CW hrow) (fun _ x hx hc=>hF x hc hx) (by omega) (by omega));have hd0:=(hu.cell (p:=⟨q,0,none⟩) Vt (by simp)).trans hc0;have FY:=AQ hu;have Yo:=AQ H1;have qM:=AQ hcs;clear hc0 hc3 hF xK H1 hrow hu hcs;go_wp2_with fail
  (with_reducible refine b1m.out.mono ?_);rintro e w2 ⟨rfl,Fc2,g1,g2,g3⟩;have hq1:q∉Fc:=fun hc=>Yo.out.Gu (i:=0) (j:=1) rfl rfl (by omega) q (by simp) hc
  have a1e:q<wc1.heap.size:=Yo.out.head.lt;have H2:=Yo.out.carry (cs:=cs') g1 g2 g3;have dU:q<w2.heap.size:=H2.head.lt;have hh2:=H2.head.set 1 (.slice none 0 0);have a7k:Ic (w2.setCell ⟨q,1,none⟩ (.slice none 0 0)) q #[.pointer (some ⟨cb,0,none⟩),.slice none 0 0,vp,.slice Aa S.al.length Ca,.int .i64 (S.n:Int)] 175:=by simpa using hh2
  have rG:Bf [q] w2 (w2.setCell ⟨q,1,none⟩ (.slice none 0 0)):=(Bf.refl _ _).setCell (p:=⟨q,1,none⟩) (.inl (by simp)) _;have H3:=H2.bks (mX:=.slice none 0 0) (vs':=[]) (bk':=[]) (rG.mono (by intro x hx;simp at hx;left;simp [hx])) a7k Fj.nil (by simp [Ey,blk])
  have hst3:DT w (w2.setCell ⟨q,1,none⟩ (.slice none 0 0)) q cb (parts q Fc vb vs vp (.slice Aa S.al.length Ca)).flatten [] { S with cs:=cs',wk:=S.wk+cs'.length }:=by
   refine ⟨_,_,_,_,_,H3,?_,?_⟩
   ·refine (FY.out.mono (by simp)).trans ((g2.mono (fun x hx=>.inl (Bq (i:=1) rfl hx))).trans (rG.mono (fun x hx=>.inl (Bq (i:=0) (P:=[q]) rfl hx))))
   ·intro x hx;simp [parts,Ey,blk] at hx;rcases hx with rfl | hx | hx | hx
    ·exact .inl (Bq (i:=0) (P:=[x]) rfl (by simp))
    ·rcases g3 x hx with g | g
     ·exact .inl (Bq (i:=1) rfl g)
     ·exact .inr (Bd FY.out.size g)
    ·exact .inl (Bq (i:=3) rfl (by simpa [blk] using hx))
    ·exact .inl (Bq (i:=4) rfl (by simpa [blk] using hx))
  have a7l:=AQ hst3;have hd1:=H2.head.cell 1;have hf1:=H2.head.frozen 1;have hd0:(w2.setCell ⟨q,1,none⟩ (.slice none 0 0)).cell? ⟨q,0,none⟩=some (.pointer (some ⟨cb,0,none⟩)):=H3.head.cell 0;have SG:=AQ H3;obtain ⟨B2,hB2⟩:=AO (BA cs'.length);have b2n:B2≤20:=by rw [←hB2];exact CQ cs'.length 20 (by omega)
  have HB2:=AQ hB2;clear hst3 g1 g2 g3 H2 H3 hh2 a7k rG hB2;go_upto_region 12 with fail
  generalize (w2.setCell ⟨q,1,none⟩ (.slice none 0 0))=w3 at a7l SG hd0 ⊢;go_wp2_with fail
  refine (nI SG.out (Bf.refl _ _)).mono ?_
  rintro e w' ⟨rfl,rfl⟩;rw [HB2.out];go_wp2_with fail
  go_loopg [55] B2 (fun m i wr=>∃(k:Nat) (bk':List (List (Nat×Nat))),m+k=B2∧i=.int .i64 (k:Int)∧bk'.length=k∧(∀(i:Nat) (l:List (Nat×Nat)),bk'[i]? = some l→l.Perm (Bo cs' i)∧l.Pairwise fun a b=>a.1≤b.1)∧DT w wr q cb (parts q Fc vb vs vp (.slice Aa S.al.length Ca)).flatten bk' { S with cs:=cs',wk:=S.wk+cs'.length })
  case atStart=>exact ⟨0,[],by omega,rfl,rfl,by simp,a7l.out⟩
  case round=>
   obtain ⟨k,bk',hk,rfl,hkl,hks,vb1,vp1,va1,vs1,ZK,H1,hu1,hF1⟩:=hrel;have b0:(0:Int)≤(k:Int):=AU _;by_cases hlt:k<B2
   ·have hlt2:(k:Int)<(B2:Int):=by omega
    obtain ⟨c0,c1,-,-,-,cf⟩:=H1.cell;obtain ⟨A1,C1,b1n⟩:=Bv H1.rows.list;subst b1n;have hqr:q<wr.heap.size:=H1.head.lt;have hqv:q∉blk (.slice A1 vs1.length C1):=fun hc=>H1.Gu (i:=0) (j:=2) rfl rfl (by omega) q (by simp) (CB.2 (.inl hc))
    obtain ⟨n1,hn1⟩:=AO vs1.length;have a6E:n1≤20:=by rw [←hn1,H1.rows.len,hkl];omega
    obtain ⟨l,hl'⟩:=AO (Bo cs' k)
    have hll:l.length<90000:=by
     rw [←hl',Ew];split
     ·rename_i hb
      have:=Nat.ge_two_pow_of_testBit hb;omega
     ·omega
    have hbk:∀w2,Bf [] wr w2→Calls Tryz.prog 199 #[.pointer (some ⟨cb,0,none⟩),.int .i64 (k:Int)] w2 fun e w'=>∃A C,e=.returned (.slice A l.length C)∧Rq.KI.row w' w2.heap.size (.slice A l.length C) l∧Bf [] w2 w':=by
     intro w2 hu2;have:=nJ H1 hu2 k (by show k<BA cs'.length;rw [HB2.out];exact hlt) (by show cs'.length<_;omega);have e:Bo ({ S with cs:=cs',wk:=S.wk+cs'.length }:NS).cs k=l:=hl';rwa [e] at this
    have uT:=AQ hbk;have HR1:=AQ H1;have b1p:=AQ hu1;have iw:=AQ hF1;have HK:=Ap hk hkl hks hl';have VO:=AQ hn1;obtain ⟨vb1,hvb⟩:∃v,Value.slice A1 vs1.length C1=v:=⟨_,rfl⟩;have HVB:=AQ hvb;rw [hn1] at c1 hqv;clear H1 hu1 hF1 hk hkl hks hl' hbk hvb hd1 hf1 hd0;go_upto_region 15 with fail
    refine Bj.start [13,14,15,16] (fun w'=>Bf [] wr w') (by kernel_rfl) ?_ fun hS=>?_
    ·exact (Bf.refl _ _).drew
    refine' Bj.mw 0 (oi:=⟨some 58,_,_,_,_,_⟩) ?_
    simp only [Act.put,sA,sZ,sS];refine' Bj.mw 1 (oi:=⟨some 59,_,_,_,_,_⟩) ?_
    simp only [Act.put,sA,sZ,sS];refine' Bj.mw 2 (oi:=⟨some 60,_,_,_,_,_⟩) ?_
    simp only [Act.put,sA,sZ,sS];refine' Bj.mw 3 (oi:=⟨some 61,_,_,_,_,_⟩) ?_
    simp only [Act.put,sA,sZ,sS];refine' Bj.tk 3 (i:=4) (oi:=⟨some 62,_,_,_,_,_⟩) rfl (by rfl) ?a7m ?_
    case a7m=>intro w hSw;have e9:=(hSw.cell (p:=⟨q,1,none⟩) hqr (by simp)).trans c1;go_simp<;>with_reducible rfl
    simp only [Act.put,sA,sZ,sS];refine' Bj.mw 5 (oi:=⟨some 63,_,_,_,_,_⟩) ?_
    simp only [Act.put,sA,sZ,sS];refine' Bj.mw 6 (oi:=⟨some 64,_,_,_,_,_⟩) ?_
    simp only [Act.put,sA,sZ,sS];refine' Bj.mw 7 (oi:=⟨some 65,_,_,_,_,_⟩) ?_
    simp only [Act.put,sA,sZ,sS];refine' Bj.tk 3 (i:=8) (oi:=⟨some 66,_,_,_,_,_⟩) rfl (by rfl) ?a7n ?_
    case a7n=>intro w hSw;have e9:=(hSw.cell (p:=⟨q,0,none⟩) hqr (by simp)).trans c0;go_simp<;>with_reducible rfl
    simp only [Act.put,sA,sZ,sS];refine' Bj.mw 9 (oi:=⟨some 67,_,_,_,_,_⟩) ?_
    simp only [Act.put,sA,sZ,sS];refine Bj.one (i:=10) (o:=⟨some 68,_,_,_,_,_⟩) rfl (by kernel_rfl) fun K hK=>?_
    go_simp
    go_at_call 199
    (with_reducible refine (uT.out _ hS).mono ?_);rintro e wA ⟨AA,CA,rfl,rA,uA⟩;have HA:=Ai rA uA;have HAR:=AQ (hS.size);clear rA uA;refine hK.out _ _ (fun _ h=>?_) ?_
    ·exact h.trans HA.2
    clear hK K;try simp only [Act.put,sA,sZ,sS]
    refine Bj.one (i:=11) (o:=⟨some 69,_,_,_,_,_⟩) rfl (by kernel_rfl) fun K hK=>?_
    go_simp
    go_at_call 127
    (with_reducible refine (nH _ _ _ _ HA.out.1 (by omega)).mono ?_);rintro e wB ⟨rfl,uB,lB,pB,sB,rB⟩;have aX:=AQ ((hS.trans HA.2).trans' uB (fun y hy=>.inr (Bd HAR.out (BD HA.1 y hy))));have YN:=Aj pB sB rB;clear uB pB sB rB;refine hK.out _ _ (fun _ h=>?_) ?_
    ·exact aX.out
    clear hK K;try simp only [Act.put,sA,sZ,sS]
    refine Bj.one (i:=12) (o:=⟨some 70,_,_,_,_,_⟩) rfl (by kernel_rfl) fun K hK=>?_
    go_simp
    refine hK.out _ _ (fun _ h=>?_) ?_
    ·exact h.alloc _
    clear hK K;try simp only [Act.put,sA,sZ,sS]
    refine Bj.one (i:=13) (o:=⟨some 71,_,_,_,_,_⟩) rfl (by kernel_rfl) fun K hK=>?_
    rw [if_pos (by simp [Region.wanted])];refine WB _ _ _ 173 (by rfl) 0 187 i0 (.slice none 0 0) 1 24 Tryz.underlying173 hi0 hz0 hz1 hz2 rfl (by decide) (.slice A1 n1 C1) n1 vs1 (by rfl) ((Bg (by have:=HR1.out.rows.list;rwa [VO.out] at this) aX.out (by simp)).alloc _) _ 1 [.slice AA l.length CA] (by rfl) (BM wB #[.slice AA l.length CA] 187 1 1 rfl (by decide)) (by simp [Value.oneCell']) (by unfold maxLen;omega) (by omega) (Nat.zero_le _) ?_
    intro A2 C2 w1 HP;have hqB:q<wB.heap.size:=Bc hqr aX.out.size
    have hst1:w1.cell? ⟨q,1,none⟩=some (.slice A1 n1 C1):=by
     rw [(HP.upd).cell (p:=⟨q,1,none⟩) (by simp;omega) hqv,World.cell?_alloc_past _ _ _ hqB,aX.out.cell (p:=⟨q,1,none⟩) hqr (by simp)];exact c1
    have hst2:w1.frozen? ⟨q,1,none⟩=false:=by
     rw [(HP.upd).frozen (p:=⟨q,1,none⟩) (by simp;omega) hqv,World.frozen?_alloc_past _ _ _ hqB,aX.out.frozen (p:=⟨q,1,none⟩) hqr (by simp)];exact cf 1
    refine hK.out _ _ (fun h=>(by cases h)) ?_
    clear hK K;try simp only [Act.put,sA,sZ,sS]
    refine' Bj.mw 14 (oi:=⟨some 72,_,_,_,_,_⟩) ?_
    simp only [Act.put,sA,sZ,sS];refine' Bj.mw 15 (oi:=⟨some 73,_,_,_,_,_⟩) ?_
    simp only [Act.put,sA,sZ,sS];refine Bj.one (i:=16) (o:=⟨none,_,_,_,_,_⟩) rfl (by kernel_rfl) fun K hK=>?_
    go_simp
    refine hK.out _ _ (fun h=>(by cases h)) ?_
    clear hK K;try simp only [Act.put,sA,sZ,sS]
    refine Bj.done (by kernel_rfl) ?_
    have a2c:=own_base YN.2.2 (Nat.zero_le _)
    have a7o:∀x∈blk (.slice AA l.length CA),x∉Ey (.slice A1 vs1.length C1) vs1:=fun x hx hc=>by
     have h1:=BD YN.2.2 x hx;have h2:=HR1.out.rows.lt x hc;have h3:=HAR.out;omega
    have hpush:=rE (HR1.out.rows.upd aX.out (by simp)) a2c a7o (by rw [VO.out];exact HP);have hHP:=HP.upd;have HPU:=Ai hpush hHP;clear hpush HP hHP a2c a7o hst1 hst2;go_wp2_with fail
    go_roundg (B2 - (k+1))
    case measure=>have:=HK.1;omega
    case rel=>
     obtain ⟨k1,k2,k3,k4⟩:=HK.out;obtain ⟨⟨p1,p2⟩,p3⟩:=HPU.out;rw [VO.out] at p1 p2;have RZ:q∉Ey (.slice A1 vs1.length C1) vs1:=fun hc=>HR1.out.Gu (i:=0) (j:=2) rfl rfl (by omega) q (by simp) hc
     have hu1:Bf (Ey (.slice A1 vs1.length C1) vs1) wr w1:=(aX.out.mono (by simp)).trans' (((Bf.refl _ _).alloc _).trans p3) (fun x hx=>.inl (by rw [VO.out];exact CB.2 (.inl hx)));have hh1:=(HR1.out.head.upd hu1 RZ).set 1 (.slice A2 (n1+1) C2);have hus:Bf [q] w1 (w1.setCell ⟨q,1,none⟩ (.slice A2 (n1+1) C2)):=(Bf.refl _ _).setCell (p:=⟨q,1,none⟩) (.inl (by simp)) _
     have hnq:∀x∈Ey (.slice A2 (n1+1) C2) (vs1++[.slice AA l.length CA]),x∉[q]:=by
      intro x hx hc;simp at hc;subst hc;rcases p2 x hx with g | g | g
      ·exact RZ (by rw [VO.out];exact g)
      ·have h1:=BD YN.2.2 x g;have h3:=HAR.out;omega
      ·have:=aX.out.size;omega
     have a4D:=HR1.out.bks (mX:=.slice A2 (n1+1) C2) (vs':=vs1++[.slice AA l.length CA]) (bk':=bk'++[_]) (w':=w1.setCell ⟨q,1,none⟩ (.slice A2 (n1+1) C2)) ((hu1.mono (by intro x hx;left;simp [hx])).trans (hus.mono (by intro x hx;left;simp at hx;simp [hx])))
      (by simpa using hh1) (p1.upd hus hnq) ?_
     ·refine ⟨k+1,bk'++[_],by omega,by go_num,by simp [k2],?_,DT.then iw.out b1p.out a4D ?_ ?_⟩
      ·intro i l' hi;rw [List.getElem?_append] at hi;split at hi
       ·exact k3 i l' hi
       ·have hlt3:=(AV hi).1;simp at hlt3;have e:i=k:=by omega
        subst e;rw [k2,Nat.sub_self] at hi;simp at hi;subst hi;rw [k4];exact ⟨YN.1,YN.2.1⟩
      ·exact (hu1.mono (fun x hx=>.inl (Bq (i:=2) rfl hx))).trans (hus.mono (fun x hx=>.inl (Bq (i:=0) (P:=[q]) rfl hx)))
      ·intro x hx;have e:parts q ZK (.slice A2 (n1+1) C2) (vs1++[.slice AA l.length CA]) vp1 va1=(parts q ZK (.slice A1 vs1.length C1) vs1 vp1 va1).set 2 (Ey (.slice A2 (n1+1) C2) (vs1++[.slice AA l.length CA])):=rfl;rw [e] at hx;rcases EJ hx with g | g
       ·exact .inl g
       ·rcases p2 x g with g | g | g
        ·exact .inl (Bq (i:=2) rfl (by rw [VO.out];exact g))
        ·exact .inr (Bd HAR.out (BD YN.2.2 x g))
        ·exact .inr (Bd aX.out.size g)
     ·intro x hx;rcases p2 x hx with g | g | g
      ·exact .inl (by rw [VO.out];exact g)
      ·exact .inr (Bd HAR.out (BD YN.2.2 x g))
      ·exact .inr (Bd aX.out.size g)
   ·have hkB:k=B2:=by omega
    have HK:=Aj hkl hks hkB;have HS1:=AQ (⟨vb1,vp1,va1,vs1,ZK,H1,hu1,hF1⟩:DT w wr q cb (parts q Fc vb vs vp (.slice Aa S.al.length Ca)).flatten bk' { S with cs:=cs',wk:=S.wk+cs'.length });clear H1 hu1 hF1 hkl hks hk hkB hd1 hf1 hd0;go_wp2_with fail
    go_end0
    have e:TN S={ S with cs:=cs',wk:=S.wk+cs'.length }:=by unfold TN;rw [qM.out]
    rw [e];refine ⟨rfl,DT.is HS1.out ?_⟩
    obtain ⟨h1,h2,h3⟩:=HK.out;refine ⟨by rw [Es];show bk'.length=BA cs'.length;rw [HB2.out,h1,h3],fun i l m hl' hm=>?_⟩
    have hi:=(AV hl').1;have hg:=FI cs' i (by rw [HB2.out];omega);have hm':(setB cs')[i]? = some m:=hm;rw [hg] at hm'
    cases hm'
    exact h2 i l hl'
