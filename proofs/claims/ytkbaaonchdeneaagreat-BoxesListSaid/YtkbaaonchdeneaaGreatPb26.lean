/- Half: none, Len, Stored, Work, cells. Printed by mkhg.py. Half.anew. Printed by mkhg.py. Half: -/
import Derived.Test.YtkbaaonchdeneaaGreatPb25
set_option maxHeartbeats 1000000
set_option maxRecDepth 100000
namespace Go.Proofs.YtkbaaonchdeneaaGreat.EI
open Go.RowKit
theorem YZ (hv:Value) (F:List Nat) (S:HS Bx) (w:World) (H:Cc w hv F S) :
 Calls Tryz.prog 112 #[hv] w fun e w'=>e=.returned (.bool false)∧w=w':=by
 obtain ⟨h,cb,mb,tv,av,Ee,ps,Fc,Fs,rfl,H,rfl⟩:=H;obtain ⟨_,_,hc2,_⟩:=H.cell;clear H;go_enter Tryz.func112,Tryz.ntmps112
 go_wp2
 go_ret
 exact ⟨rfl,rfl⟩
theorem b0X (hv:Value) (F:List Nat) (S:HS Bx) (w:World) (H:Cc w hv F S) :
 Calls Tryz.prog 60 #[hv] w fun e w'=>e=.returned (.int .i64 S.mp.length)∧w=w':=by
 have HH:=AQ H;obtain ⟨h,cb,mb,tv,av,Ee,ps,Fc,Fs,rfl,H,rfl⟩:=H;obtain ⟨_,_,_,_,_,_,hc6,_⟩:=H.cell;have hml:=fun ty=>H.PO.len ty
 clear H;go_enter Tryz.func60,Tryz.ntmps60
 go_wp2_with fail
 refine (YZ _ _ _ _ HH.out).mono ?_
 rintro e w' ⟨rfl,rfl⟩;go_wp2_with fail
 go_ret
 exact ⟨rfl,rfl⟩
theorem Oz (al:List Bool) (b:List (Bx×Nat)):(CZ al b).length≤b.length:=List.length_filter_le _ _
theorem wU (al:List Bool) (b:List (Bx×Nat)) (k:Nat) (hk:k<b.length):CZ al (b.take (k+1))=if al.getD b[k].2 false then CZ al (b.take k)++[b[k]] else CZ al (b.take k):=by
 rw [AZ hk,LZ];unfold CZ;rw [List.filter_cons,List.filter_nil];split
 ·rfl
 ·rw [List.append_nil]
theorem ZM (w wr:World) (h cb mb:Nat) (tv av Ee:Value) (ps:List TV) (Fc:List Nat) (Fs:List (List Nat)) (S:HS Bx) (H:BU w h cb mb tv av Ee ps Fc Fs S) (hu:Bf [] w wr) (i:Nat) (hi:i<BA S.cs.length) (hl:S.cs.length<1000000) :
 Calls Tryz.prog 116 #[.pointer (some ⟨cb,0,none⟩),.int .i64 i] wr fun e w'=>∃A C,e=.returned (.slice A (Bo S.cs i).length C)∧UW.KI.row w' wr.heap.size (.slice A (Bo S.cs i).length C) (Bo S.cs i)∧Bf [] wr w':=
 UW.Sj cb Fc i _ _ _ _ wr (H.TI.upd hu (by simp)) (FI _ _ hi) (by
  rw [Ew];split
  ·rename_i hb
   have:=Nat.ge_two_pow_of_testBit hb;omega
  ·omega)
theorem ZN (w wr:World) (h cb mb:Nat) (tv av Ee:Value) (ps:List TV) (Fc:List Nat) (Fs:List (List Nat)) (S:HS Bx) (H:BU w h cb mb tv av Ee ps Fc Fs S) (hu:Bf [] w wr) :
 Calls Tryz.prog 115 #[.pointer (some ⟨cb,0,none⟩)] wr fun e w'=>e=.returned (.int .i64 (BA S.cs.length))∧wr=w':=by
 have:=UW.ZH cb Fc _ _ _ wr (H.TI.upd hu (by simp));rw [Es] at this;exact this
theorem wV (hv:Value) (F:List Nat) (S:HS Bx) (w:World) (H:Cc w hv F S) (hn:∀y∈S.cs,y.2<S.al.length) (hl:S.cs.length<100000) :
 Calls Tryz.prog 202 #[hv] w fun e w'=>∃A C,e=.returned (.slice A (CZ S.al S.cs).length C)∧UW.KI.row w' w.heap.size (.slice A (CZ S.al S.cs).length C) (CZ S.al S.cs)∧Bf [] w w':=by
 obtain ⟨h,cb,mb,tv,av,Ee,ps,Fc,Fs,rfl,H,rfl⟩:=H;obtain ⟨i1,hi1,hy0,hy1,hy2⟩:=info_parts UW.D9;obtain ⟨_,_,hc2,_,hc4,_⟩:=H.cell;obtain ⟨Aa,Ca,hav⟩:∃A C,av=.slice A S.al.length C:=Bv H.GK;subst hav;have Vt:h<w.heap.size:=lt_of_block H.head;have hbt:=CQ S.cs.length 20 (by omega);obtain ⟨B,hB⟩:=AO (BA S.cs.length);rw [hB] at hbt;have HB:=AQ hB;have HH:=AQ H;have HN:=AQ hn;clear hB H hn;go_enter Tryz.func202,Tryz.ntmps202
 go_wp2_with fail
 refine (ZN w w h cb mb _ _ _ _ _ _ S HH.out (Bf.refl _ _)).mono ?_
 rintro e w' ⟨rfl,rfl⟩;rw [HB.out];go_wp2_with fail
 go_loopg [3,4] B (fun m o i wr=>m≤B∧i=.int .i64 ((m:Int) - 1)∧∃A C,o=.slice A (CZ S.al (S.cs.take (S.cs.length / 2 ^ m*2 ^ m))).length C∧UW.KI.row wr w.heap.size (.slice A (CZ S.al (S.cs.take (S.cs.length / 2 ^ m*2 ^ m))).length C) (CZ S.al (S.cs.take (S.cs.length / 2 ^ m*2 ^ m)))∧Bf [] w wr)
 case atStart=>
  have h2:S.cs.length / 2 ^ B*2 ^ B=0:=by rw [←HB.out,Nat.div_eq_of_lt (D7 S.cs.length),Nat.zero_mul]
  refine ⟨Nat.le_refl _,rfl,none,0,by rw [h2];rfl,?_,Bf.refl _ _⟩
  rw [h2,List.take_zero];exact World.ownsRow_nil _ _ _ _
 case round=>
  obtain ⟨hm,rfl,A,C,rfl,hrow,hu⟩:=hrel;obtain ⟨T,hT⟩:=AO (CZ S.al (S.cs.take (S.cs.length / 2 ^ gk*2 ^ gk)))
  have hTl:T.length≤S.cs.length:=by
   rw [←hT];exact Bd (Oz _ _) (by rw [Ba];omega)
  rw [hT] at hrow ⊢;have HR:=AQ hrow;have HU:=AQ hu;have HT:=AQ hT;clear hT hrow hu;by_cases h0:gk=0
  ·subst h0;go_wp2_with fail
   go_ret
   have hTT:T=CZ S.al S.cs:=by rw [←HT.out];simp
   subst hTT;exact ⟨A,C,rfl,HR.out,HU.out⟩
  ·obtain ⟨m,rfl⟩:∃m,gk=m+1:=⟨gk - 1,by omega⟩;have e8:(((m+1:Nat):Int) - 1)=(m:Int):=by omega
   rw [e8];clear e8;have hc2':=(HU.out.cell (p:=⟨h,2,none⟩) Vt (by simp)).trans hc2;go_wp2_with fail
   refine (ZM w wr h cb mb _ _ _ _ _ _ S HH.out HU.out m (by rw [HB.out];omega) (by omega)).mono ?_
   rintro e w2 ⟨A2,C2,rfl,hr2,hu2⟩;obtain ⟨G,hG⟩:=AO (Bo S.cs m)
   have hGl:G.length≤S.cs.length:=by
    rw [←hG,Ew];split
    ·rename_i hb
     exact Nat.ge_two_pow_of_testBit hb
    ·omega
   have hGn:∀y∈G,y.2<S.al.length:=fun y hy=>HN.out y (Gh (by rw [hG];exact hy))
   rw [hG] at hr2 ⊢;obtain ⟨ng,jH⟩:=AO G.length;rw [jH] at hr2 hGl ⊢;have HG:=AQ hG;have ni:=AQ jH;have HGN:=AQ hGn;have hrl:=BK HR.out
   have hdis:∀x∈blk (.slice A T.length C),x∉blk (.slice A2 ng C2):=fun x hx hc=>by
    have h1:=hrl x hx;have h2:=BD hr2 x hc;omega
   have hblt:=BK hr2;have a4u:=AQ hblt;have O4:=AQ hdis;have HR2:=AQ (UW.Ints.BX hr2);have HRT:=AQ (Bg HR.out hu2 (by simp));have Fq:=AQ (HU.out.trans hu2);clear hG jH hGn hr2 hu2 hc2' hrl hdis hblt;go_wp2_with fail
   go_loopg [3,24] ng (fun q o i wx=>∃k A3 C3,q+k=ng∧i=.int .i64 (k:Int)∧o=.slice A3 (T++CZ S.al (G.take k)).length C3∧UW.KI.row wx w.heap.size (.slice A3 (T++CZ S.al (G.take k)).length C3) (T++CZ S.al (G.take k))∧UW.Ints wx (.slice A2 ng C2) G∧(∀x∈blk (.slice A3 (T++CZ S.al (G.take k)).length C3),x∉blk (.slice A2 ng C2))∧Bf [] w wx∧w2.heap.size≤wx.heap.size)
   case atStart=>
    have e:T++CZ S.al (G.take 0)=T:=by simp [CZ]
    refine ⟨0,A,C,rfl,rfl,by rw [e],?_,HR2.out,?_,Fq.out,Nat.le_refl _⟩
    ·rw [e];exact HRT.out
    ·rw [e];exact O4.out
   case round=>
    obtain ⟨k,A3,C3,hk,rfl,rfl,hr3,wW,jI,hu3,hsz3⟩:=hrel;have hkm:k≤ng:=by omega
    obtain ⟨L,hL⟩:=AO (T++CZ S.al (G.take k))
    have hLl:L.length≤S.cs.length+k:=by
     rw [←hL,AY];have:=Oz S.al (G.take k);rw [Ba] at this;omega
    rw [hL] at hr3 jI ⊢;have HI3:=AQ wW;have HD3:=AQ jI;have wK:=AQ hsz3;have HK:=AQ hk;have HL:=AQ hL;have HR3:=AQ hr3;have Gj:=AQ hu3;clear hk hL hr3 hu3 wW jI hsz3;by_cases hlt:k<ng
    ·obtain ⟨bb,oo,hA,hy0',hy1',qR,qU,qV,qW⟩:=HI3.out.cell (k:=k) (by rw [ni.out];exact hlt);subst hA;have hkG:k<G.length:=by rw [ni.out];exact hlt
     have hst:=wU S.al G k hkG;obtain ⟨y,hy⟩:=AO (G[k]);have hyn:=HGN.out G[k] (List.getElem_mem _);rw [hy] at hy0' hy1' qR qU qV qW hyn hst;obtain ⟨y1,y2⟩:=y;dsimp only at hy0' hy1' qR qU qV qW hyn hst;obtain ⟨qa,hAa,Sm,_,_,jF⟩:=Oy HH.out.GK hyn (u:=.bool (S.al[y2])) (by simp [hyn]);subst hAa;have hcond:S.al.getD y2 false=S.al[y2]:=by simp [List.getD,hyn]
     obtain ⟨c,hc⟩:=AO (S.al[y2]);rw [hc] at Sm hcond;rw [hcond] at hst;have qX:=Gj.out;have Xu:=(qX.cell (p:=⟨h,4,none⟩) Vt (by simp)).trans hc4;have Vy:=(qX.cell (p:=⟨qa,y2,none⟩) jF (by simp)).trans Sm;have hhx:h<wr.heap.size:=Bc Vt qX.size;have JJ:qa<wr.heap.size:=Bc jF qX.size;have HST:=AQ hst;have lS:=AQ qX;clear hy hcond hc hst qX hc4 Sm;have b0:(0:Int)≤(k:Int):=AU _;have b1:(k:Int)<(ng:Int):=by omega
     have b2:(0:Int)≤(y2:Int):=AU _;have b3:(y2:Int)<(S.al.length:Int):=by omega
     go_upto_region 8 with fail
     obtain ⟨p,hp⟩:=AO wr.heap.size;have FM:Bf [] wr (wr.alloc (.cells #[.int .i64 y1.x1,.int .i64 y1.x2,.int .i64 y1.y1,.int .i64 y1.y2,.int .u32 (y1.id:Int),.int .i64 (y2:Int)] 160)):=(Bf.refl _ _).alloc _;have hp0:(wr.alloc (.cells #[.int .i64 y1.x1,.int .i64 y1.x2,.int .i64 y1.y1,.int .i64 y1.y2,.int .u32 (y1.id:Int),.int .i64 (y2:Int)] 160)).cell? ⟨wr.heap.size,0,none⟩=some (.int .i64 y1.x1):=by rw [World.cell?_alloc_at _ _ _ _ rfl];rfl
     have hp1:(wr.alloc (.cells #[.int .i64 y1.x1,.int .i64 y1.x2,.int .i64 y1.y1,.int .i64 y1.y2,.int .u32 (y1.id:Int),.int .i64 (y2:Int)] 160)).cell? ⟨wr.heap.size,1,none⟩=some (.int .i64 y1.x2):=by rw [World.cell?_alloc_at _ _ _ _ rfl];rfl
     have hp2:(wr.alloc (.cells #[.int .i64 y1.x1,.int .i64 y1.x2,.int .i64 y1.y1,.int .i64 y1.y2,.int .u32 (y1.id:Int),.int .i64 (y2:Int)] 160)).cell? ⟨wr.heap.size,2,none⟩=some (.int .i64 y1.y1):=by rw [World.cell?_alloc_at _ _ _ _ rfl];rfl
     have hp3:(wr.alloc (.cells #[.int .i64 y1.x1,.int .i64 y1.x2,.int .i64 y1.y1,.int .i64 y1.y2,.int .u32 (y1.id:Int),.int .i64 (y2:Int)] 160)).cell? ⟨wr.heap.size,3,none⟩=some (.int .i64 y1.y2):=by rw [World.cell?_alloc_at _ _ _ _ rfl];rfl
     have YA:(wr.alloc (.cells #[.int .i64 y1.x1,.int .i64 y1.x2,.int .i64 y1.y1,.int .i64 y1.y2,.int .u32 (y1.id:Int),.int .i64 (y2:Int)] 160)).cell? ⟨wr.heap.size,4,none⟩=some (.int .u32 (y1.id:Int)):=by rw [World.cell?_alloc_at _ _ _ _ rfl];rfl
     have iC:(wr.alloc (.cells #[.int .i64 y1.x1,.int .i64 y1.x2,.int .i64 y1.y1,.int .i64 y1.y2,.int .u32 (y1.id:Int),.int .i64 (y2:Int)] 160)).cell? ⟨wr.heap.size,5,none⟩=some (.int .i64 (y2:Int)):=by rw [World.cell?_alloc_at _ _ _ _ rfl];rfl
     generalize (wr.alloc (.cells #[.int .i64 y1.x1,.int .i64 y1.x2,.int .i64 y1.y1,.int .i64 y1.y2,.int .u32 (y1.id:Int),.int .i64 (y2:Int)] 160))=w4 at *;have nC:=(FM.cell (p:=⟨h,4,none⟩) hhx (by simp)).trans Xu;have a4v:=(FM.cell (p:=⟨qa,y2,none⟩) JJ (by simp)).trans Vy;rw [hp] at hp0 hp1 hp2 hp3 YA iC ⊢;have Gl:=AQ (Gj.out.trans FM);have HR4:=AQ (Bg HR3.out FM (by simp));have HWS:=AQ ((Gj.out.trans FM).size);have HI4:=AQ (HI3.out.Bh FM);have aW:=AQ (Bd wK.out FM.size);clear hp FM Xu Vy
     cases c
     ·go_quiet (fail)
      go_wp2_with fail
      go_roundg (ng - (k+1))
      case measure=>have:=HK.out;omega
      case rel=>
       have h9:=HST.out;rw [if_neg (by simp)] at h9;refine ⟨k+1,A3,C3,Ac HK,by go_num,by rw [h9,HL.out],?_,HI4.out,?_,Gl.out.drewN _,aW.out⟩
       ·rw [h9,HL.out];exact HR4.out
       ·rw [h9,HL.out];exact HD3.out
     ·go_quiet (fail)
      go_wp2_with (at_builtin;refine BL _ rfl _ _ 178 rfl w.heap.size 160 i1 (.agg #[.int .i64 0,.int .i64 0,.int .i64 0,.int .i64 0,.int .u32 0,.int .i64 0]) 6 48 Tryz.underlying178 hi1 hy0 hy1 hy2 rfl (by decide) _ _ _ rfl ((Bg (HR4.out) ((Bf.refl [] w4).drewN nq) (by simp)).alloc _) _ 1 [.int .i64 y1.x1,.int .i64 y1.x2,.int .i64 y1.y1,.int .i64 y1.y2,.int .u32 (y1.id:Int),.int .i64 (y2:Int)] rfl (BM (w4.drewN nq) #[.int .i64 y1.x1,.int .i64 y1.x2,.int .i64 y1.y1,.int .i64 y1.y2,.int .u32 (y1.id:Int),.int .i64 (y2:Int)] 160 6 1 rfl (by decide)) (by simp [Value.oneCell']) (by unfold maxLen;omega) (by omega) (by have:=HWS.out;simp;omega) ?_)
      intro A9 C9 w9 Yp;have U0:Bf (blk (.slice A3 L.length C3)) w4 w9:=((Bf.refl _ _).drewN nq).trans' (((Bf.refl _ _).alloc _).trans Yp.upd) (fun x hx=>.inl hx);have VP:Bf [] w w9:=Gl.out.trans' U0 (fun x hx=>.inr (BD HR4.out x hx));have wX:UW.Ints w9 (.slice (some ⟨bb,oo,none⟩) ng C2) G:=HI4.out.upd U0 (fun _ x hx _ hc=>HD3.out x hc hx)
      have wY:∀x∈blk (.slice A9 (L.length+1) C9),x∉blk (.slice (some ⟨bb,oo,none⟩) ng C2):=by
       intro x hx hc;rcases Yp.at with h' | h'
       ·rw [h'] at hx;exact HD3.out x hx hc
       ·rw [h'] at hx;simp at hx;have h1:=a4u.out x hc;have h2:=aW.out;omega
      have HI9:=AQ wX;have HD9:=AQ wY;have HS9:=AQ (Bd aW.out U0.size)
      have PU:UW.KI.row w9 w.heap.size (.slice A9 (L.length+1) C9) (L++[(y1,y2)]):=by
       unfold Kind.row;rw [Kind.Ci,AY];exact Yp.own
      have ZL:=AQ VP;have HR9:=AQ PU;clear VP PU Yp U0 wX wY;go_wp2_with fail
      go_roundg (ng - (k+1))
      case measure=>have:=HK.out;omega
      case rel=>
       have h9:=HST.out;rw [if_pos (by simp)] at h9;refine ⟨k+1,A9,C9,Ac HK,by go_num,by rw [h9,←List.append_assoc,HL.out,AY];rfl,?_,HI9.out,?_,ZL.out,HS9.out⟩
       ·rw [h9,←List.append_assoc,HL.out,AY];exact HR9.out
       ·rw [h9,←List.append_assoc,HL.out,AY];exact HD9.out
    ·have hst:T++CZ S.al (G.take k)=CZ S.al (S.cs.take (S.cs.length / 2 ^ m*2 ^ m)):=by
      rw [List.take_of_length_le (by rw [ni.out];omega),←HT.out,←HG.out,←LZ,UC]
     have HST:=AQ hst;clear hst;go_wp2_with fail
     go_roundg m
     case measure=>omega
     case rel=>
      rw [←HST.out,HL.out];exact ⟨by omega,by go_num,A3,C3,rfl,HR3.out,Gj.out⟩
end Go.Proofs.YtkbaaonchdeneaaGreat.EI
namespace Go.Proofs.YtkbaaonchdeneaaGreat.EI
open Go.RowKit
theorem BU.a1b {w:World} {h cb mb:Nat} {tv av Ee:Value} {ps:List TV} {Fc:List Nat} {Fs:List (List Nat)} {S:HS Bx} (H:BU w h cb mb tv av Ee ps Fc Fs S) :
 BU (w.setCell ⟨h,3,none⟩ (.slice none 0 0)) h cb mb (.slice none 0 0) av Ee [] Fc [] { S with tr:=[] }∧Bf [h] w (w.setCell ⟨h,3,none⟩ (.slice none 0 0)):=by
 have hu:Bf [h] w (w.setCell ⟨h,3,none⟩ (.slice none 0 0)):=(Bf.refl _ _).setCell (p:=⟨h,3,none⟩) (.inl (by simp)) _;refine ⟨H.trees (hu.mono (by simp)) ?_ (World.ownsRow_nil _ _ _ _) (by simp [blk]) rfl rfl (by simp) (by simp) ?_ (by simp),hu⟩
 ·have:=heap_setCell_same w h 3 _ _ (.slice none 0 0) H.head;simpa using this
 ·have h0:(parts h Fc tv av Ee mb Fs).Pairwise Dh:=H.apart;exact h0.sublist (by simp [parts])
theorem a6V (hv:Value) (F:List Nat) (S:HS Bx) (w:World) (H:Cc w hv F S) (I:Gx S) (hl:S.cs.length<100000) (hw:S.wk<1099511627776) (hgood:Good (live S.al S.cs)) (hl1:(live S.al S.cs).length≤1000) :
 Calls Tryz.prog 132 #[hv] w fun e w'=>e=.returned (.int .i64 (CZ S.al S.cs).length)∧CJ w w' hv F (Pn S):=by
 have HO:=AQ H;obtain ⟨h,cb,mb,tv,av,Ee,ps,Fc,Fs,rfl,H,hF⟩:=H;obtain ⟨_,_,hc2,_⟩:=H.cell;have Vt:h<w.heap.size:=lt_of_block H.head;have HH:=AQ H;have HI:=AQ I;have HF:=AQ hF;have hhF:h∉Fc:=fun hc=>HH.out.Gu (i:=0) (j:=1) rfl rfl (by omega) h (by simp) hc
 have hd2:w.drew.cell? ⟨h,2,none⟩=some (.pointer (some ⟨cb,0,none⟩)):=hc2;have HGD:=Ai hgood hl1;clear H I hF hgood hl1;go_enter Tryz.func132,Tryz.ntmps132
 go_upto_region 1 with fail
 go_region_held3 (fun w'=>w'.cell? ⟨h,2,none⟩=some (.pointer (some ⟨cb,0,none⟩)))
  (first
   |go_keep
   |(exact hd2)
   |(exact (hu1.cell (p:=⟨h,2,none⟩) Vt (by simp)).trans hc2)
   |(obtain ⟨mY,g1,g2,g3⟩:=hst;exact (g2.cell (p:=⟨h,2,none⟩) (Bc Vt hu1.size) hhF).trans ((hu1.cell (p:=⟨h,2,none⟩) Vt (by simp)).trans hc2)))
  (first
   |(go_at_call 202;refine (wV _ _ S _ (HO.out.upd ((Bf.refl [] w).drew) (by simp)) HI.out.lt hl).mono ?_;rintro e w1 ⟨A1,C1,rfl,hr1,hu1⟩)
   |(go_at_call 201;refine (UW.a4m cb Fc _ (CZ S.al S.cs) _ _ _ _ (HH.out.TI.upd ((Bf.refl [] w).drew.trans hu1) (by simp)) (UW.Ints.BX hr1) (fun _ x hx hc=>by have h1:=BD hr1 x hx;have h2:=HH.out.TI.lt x hc;simp at h1;omega) (by have:=Oz S.al S.cs;omega) hw).mono ?_;rintro e w2 ⟨rfl,hst⟩))
 obtain ⟨mY,g1,g2,g3⟩:=hst;have OA:Bf [] w w1:=(Bf.refl [] w).drew.trans hu1;have h1:=(HH.out.upd OA (by intro P hP x hx;simp)).carry g1 g2 g3;obtain ⟨h2,hu2⟩:=h1.a1b;obtain ⟨_,_,_,hc3,_,_,_,hfr⟩:=h1.cell;have hf3:=hfr 3;have hF:F=(parts h Fc tv av Ee mb Fs).flatten:=HF.out
 have hstep:CJ w (w2.setCell ⟨h,3,none⟩ (.slice none 0 0)) (.pointer (some ⟨h,0,none⟩)) F (DI S):=by
  refine ⟨_,⟨h,cb,mb,_,_,_,_,_,_,rfl,h2,rfl⟩,?_,fun x hx=>?_⟩
  ·have b0Y:h∈F:=by rw [hF];exact Bq (i:=0) (P:=[h]) rfl (by simp)
   refine ((OA.mono (G:=F) (by simp)).trans' g2 fun x hx=>.inl ?_).trans' hu2 fun x hx=>.inl ?_
   ·rw [hF];exact Bq (i:=1) rfl hx
   ·simp at hx;rw [hx];exact b0Y
  ·obtain ⟨P,hP,Y0⟩:=List.mem_flatten.1 hx;simp only [parts,List.mem_cons] at hP;rw [hF];rcases hP with rfl | rfl | rfl | rfl | rfl | rfl | hP
   ·exact .inl (Bq (i:=0) (P:=[h]) rfl Y0)
   ·rcases g3 x Y0 with g | g
    ·exact .inl (Bq (i:=1) rfl g)
    ·exact .inr (Bd OA.size g)
   ·simp [blk] at Y0
   ·exact .inl (Bq (i:=3) rfl Y0)
   ·exact .inl (Bq (i:=4) rfl Y0)
   ·exact .inl (Bq (i:=5) (P:=[mb]) rfl Y0)
   ·simp at hP
 have HST:=AQ hstep;have H2:=AQ h2;clear h1 h2 hu2 hfr g1 g2 g3 hstep hr1 hu1 OA hF;have hlv:=Oz S.al S.cs;have hbt:=CQ (CZ S.al S.cs).length 20 (by omega);go_wp2_with fail
 refine (ZN _ _ h cb mb _ _ _ _ _ _ (DI S) H2.out (Bf.refl _ _)).mono ?_
 rintro e w' ⟨rfl,rfl⟩;have hcs0:(DI S).cs=CZ S.al S.cs:=rfl;have b0Z:(DI S).al=S.al:=rfl;rw [hcs0];have hB:BA (CZ S.al S.cs).length=BA (DI S).cs.length:=rfl;obtain ⟨B,hBB⟩:=AO (BA (CZ S.al S.cs).length);rw [hBB] at hbt hB ⊢;have JG:=AQ hBB;have HB:=AQ hB;have hcore:=HI.out.a1R;have HC:=AQ hcore;clear hcs0 b0Z hB hBB hcore hc3 hf3 hc2 hd2;go_wp2_with fail
 go_loopg [21] B (fun m i wr=>∃k,m+k=B∧i=.int .i64 (k:Int)∧CJ w wr (.pointer (some ⟨h,0,none⟩)) F (Du (DI S) k))
 case atStart=>exact ⟨0,rfl,rfl,HST.out⟩
 case round=>
  obtain ⟨k,hk,rfl,F1,⟨h1,cb1,dQ,tv1,av1,lv1,ps1,ZK,qO,he,H1,a6W⟩,hu1,hF1⟩:=hrel
  cases he
  have hkB:k≤B:=by omega
  obtain ⟨k1,k2,k3,k4,k5⟩:=GV (DI S) k;obtain ⟨_,_,htl⟩:=SX HC.out rfl k (by rw [←HB.out];exact hkB);obtain ⟨_,_,hc2,_⟩:=H1.cell;have b2h:(Du (DI S) k).cs.length≤S.cs.length:=by rw [k1];exact Oz _ _
  have HK:=AQ hk;have Yo:=AQ H1;have a1c:=AQ a6W;have FY:=AQ hu1;have iw:=AQ hF1;have K1:=AQ k1;have K2:=AQ k2;have K5:=AQ k5;clear hk H1 a6W hu1 hF1 k1 k2 k3 k4 k5;by_cases hlt:k<B
  ·go_wp2_with fail
   refine (ZM _ _ h cb1 dQ _ _ _ _ _ _ _ Yo.out (Bf.refl _ _) k (by rw [K1.out,←HB.out];exact hlt) (by omega)).mono ?_
   rintro e w3 ⟨A3,C3,rfl,hr3,hu3⟩;have hst:=Po (DI S) k;unfold Pm at hst
   have hgd:Good (live (Du (DI S) k).al (Bo (Du (DI S) k).cs k))∧(live (Du (DI S) k).al (Bo (Du (DI S) k).cs k)).length≤1000:=by
    have hsub:(live (Du (DI S) k).al (Bo (Du (DI S) k).cs k)).Sublist (live S.al S.cs):=by
     rw [K1.out,K2.out];unfold live;refine List.Sublist.map _ ?_
     have h1:(Bo (CZ S.al S.cs) k).Sublist (CZ S.al S.cs):=by
      unfold Bo;split
      ·exact (List.take_sublist _ _).trans (List.drop_sublist _ _)
      ·exact List.nil_sublist _
     exact List.filter_sublist.trans h1
    exact ⟨HGD.1.sub hsub,Bd hsub.length_le HGD.2⟩
   have hbm:∀y∈Bo (Du (DI S) k).cs k,y.2<(Du (DI S) k).al.length:=fun y hy=>by
    rw [K2.out];exact HC.out.lt y (by rw [←K1.out];exact Gh hy)
   have hbl:(Bo (Du (DI S) k).cs k).length≤(Du (DI S) k).cs.length:=by
    rw [Ew];split
    ·rename_i hb
     exact Nat.ge_two_pow_of_testBit hb
    ·omega
   obtain ⟨G,hG⟩:=AO (Bo (Du (DI S) k).cs k);rw [hG] at hr3 hst hbm hbl hgd ⊢;have HGK:=AQ hgd;clear hgd;obtain ⟨ng,jH⟩:=AO G.length;rw [jH] at hr3 hbl ⊢;have ni:=AQ jH;have a6X:=AQ hst;have HBM:=AQ hbm;have hH3:CJ w w3 (.pointer (some ⟨h,0,none⟩)) F (Du (DI S) k):=(CJ.quiet ⟨F1,⟨h,cb1,dQ,tv1,av1,lv1,ps1,ZK,qO,rfl,Yo.out,a1c.out⟩,FY.out,iw.out⟩ hu3);have hI3:Cc w3 (.pointer (some ⟨h,0,none⟩)) F1 (Du (DI S) k):=Cc.upd ⟨h,cb1,dQ,tv1,av1,lv1,ps1,ZK,qO,rfl,Yo.out,a1c.out⟩ hu3 (by simp)
   have hdis:∀x∈blk (.slice A3 ng C3),x∉F1:=fun x hx hc=>by
    have g1:=BD hr3 x hx;have g2:=Cc.lt (w:=wr) (hv:=.pointer (some ⟨h,0,none⟩)) ⟨h,cb1,dQ,tv1,av1,lv1,ps1,ZK,qO,rfl,Yo.out,a1c.out⟩ x hc;omega
   have SG:=AQ hH3;have HI3:=AQ hI3;have HR3:=AQ hr3;have HD:=AQ hdis;have Gj:=AQ (FY.out.trans' hu3 (by simp));have mZ:=AQ hu3.size;clear jH hst hbm hH3 hI3 hr3 hdis hu3 hG hc2;by_cases hpos:0<ng
   ·go_wp2_with fail
    refine (a1X _ F1 _ k (.slice A3 ng C3) G w3 HI3.out (by have:=UW.Ints.BX HR3.out;exact this) (fun _ x hx=>HD.out x hx) (by omega) (by omega) HBM.out (by rw [K5.out,K2.out];exact HC.out.lvl) (by rw [ni.out];omega) HGK.1 HGK.2).mono ?_
    rintro e w4 ⟨rfl,Sr⟩
    have h4:CJ w w4 (.pointer (some ⟨h,0,none⟩)) F (Du (DI S) (k+1)):=by
     have e:(if G.isEmpty then Du (DI S) k else JC (Du (DI S) k) k G)=JC (Du (DI S) k) k G:=by
      rw [if_neg];intro hc;have:G = []:=by simpa using hc
      have:=ni.out;simp_all
     rw [a6X.out,e];exact CJ.next Gj.out (fun x hx=>(iw.out x hx)) Sr
    have HH4:=AQ h4;clear h4 Sr;go_wp2_with fail
    go_roundg (B - (k+1))
    case measure=>have:=HK.out;omega
    case rel=>exact ⟨k+1,Ac HK,by go_num,HH4.out⟩
   ·go_wp2_with fail
    go_roundg (B - (k+1))
    case measure=>have:=HK.out;omega
    case rel=>
     refine ⟨k+1,Ac HK,by go_num,?_⟩
     have:G = []:=List.eq_nil_of_length_eq_zero (by rw [ni.out];omega);rw [a6X.out,this];exact SG.out
  ·have a6Y:k=B:=by omega
   have HKB:=AQ a6Y;clear a6Y;go_wp2_with fail
   go_ret
   refine ⟨rfl,F1,⟨h,cb1,dQ,tv1,av1,lv1,ps1,ZK,qO,rfl,?_,a1c.out⟩,FY.out,iw.out⟩
   have:=Yo.out;unfold Pn;rw [JG.out,←HKB.out];exact this
end Go.Proofs.YtkbaaonchdeneaaGreat.EI
namespace Go.Proofs.YtkbaaonchdeneaaGreat.EI
open Go.RowKit
def O5 (cs:List (Bx×Nat)) (m:Nat):List Nat:=((List.range' m (BA cs.length - m)).reverse).filter fun i=>!(Bo cs i).isEmpty
def Xv (cs:List (Bx×Nat)):List Nat:=O5 cs 0
theorem Xw (cs:List (Bx×Nat)):O5 cs (BA cs.length) = []:=by simp [O5]
theorem U1 (cs:List (Bx×Nat)) (m:Nat) (h:m<BA cs.length):O5 cs m=if (Bo cs m).isEmpty then O5 cs (m+1) else O5 cs (m+1)++[m]:=by
 unfold O5;rw [show BA cs.length - m=(BA cs.length - (m+1))+1 by omega,List.range'_succ,List.reverse_cons,List.filter_append];by_cases he:(Bo cs m).isEmpty=true
 ·rw [if_pos he];simp [he]
 ·rw [if_neg he];simp [he]
theorem dS (cs:List (Bx×Nat)) (m:Nat):(O5 cs m).length≤BA cs.length:=by
 unfold O5;refine Bd (List.length_filter_le _ _) ?_
 simp
theorem a4w (hv:Value) (F:List Nat) (S:HS Bx) (w:World) (H:Cc w hv F S) (I:FK S) (hl:S.cs.length<100000) :
 Calls Tryz.prog 62 #[hv] w fun e w'=>∃A C ts,e=.returned (.slice A (Xv S.cs).length C)∧ts.length=(Xv S.cs).length∧KT.row w' w.heap.size (.slice A (Xv S.cs).length C) ts∧Bf [] w w'∧
  ∀(j i:Nat),(Xv S.cs)[j]? = some i→∃p N G,ts[j]? = some p∧MS w' p (N,live S.al (Bo S.cs i)) G∧N≤(Bo S.cs i).length∧∀x∈G,x∈F:=by
 obtain ⟨i0,hi0,hz0,hz1,hz2⟩:=info_parts YV;have HO:=AQ H;obtain ⟨h,cb,mb,tv,av,Ee,ps,Fc,Fs,rfl,H,hF⟩:=H;obtain ⟨_,_,hc2,hc3,_⟩:=H.cell;obtain ⟨At,Ct,qQ⟩:∃A C,tv=.slice A ps.length C:=Bv H.LV;subst qQ;have Vt:h<w.heap.size:=lt_of_block H.head;have hbt:=CQ S.cs.length 20 (by omega);have hpl:ps.length≤20:=by rw [H.OX];exact I.trl
 obtain ⟨B,hB⟩:=AO (BA S.cs.length);obtain ⟨np,hnp⟩:=AO ps.length;rw [hB] at hbt;rw [hnp] at hc3 hpl;have HB:=AQ hB;have HNP:=AQ hnp;have HH:=AQ H;have HI:=AQ I;have HF:=AQ hF
 have wS:∀i,i<B→Bo S.cs i≠[]→i<np∧∃p N G,ps[i]? = some p∧MS w p (N,live S.al (Bo S.cs i)) G∧N≤(Bo S.cs i).length∧∀x∈G,x∈F:=by
  intro i hi hne;obtain ⟨N,hN,ht⟩:=I.trees i (by rw [hB];exact hi) hne;obtain ⟨p,G,h1,h2,h3⟩:=H.yes i _ ht;refine ⟨by rw [←hnp];exact (AV h1).1,p,N,G,h1,h3,hN,fun x hx=>?_⟩
  rw [hF];exact Bq (i:=i+6) (by simpa [parts] using h2) hx
 have b1a:=AQ wS;clear hB H I hF wS hnp;go_enter Tryz.func62,Tryz.ntmps62
 go_wp2_with fail
 refine (YZ _ _ _ _ HO.out).mono ?_
 rintro e w' ⟨rfl,rfl⟩;go_wp2_with fail
 refine (ZN w w h cb mb _ _ _ _ _ _ S HH.out (Bf.refl _ _)).mono ?_
 rintro e w' ⟨rfl,rfl⟩;rw [HB.out];go_wp2_with fail
 go_loopg [3,4] B (fun m o i wr=>m≤B∧i=.int .i64 ((m:Int) - 1)∧∃A C ts,o=.slice A (O5 S.cs m).length C∧ts.length=(O5 S.cs m).length∧KT.row wr w.heap.size (.slice A (O5 S.cs m).length C) ts∧Bf [] w wr∧
  ∀(j i:Nat),(O5 S.cs m)[j]? = some i→∃p N G,ts[j]? = some p∧MS w p (N,live S.al (Bo S.cs i)) G∧N≤(Bo S.cs i).length∧∀x∈G,x∈F)
 case atStart=>
  have e:=Xw S.cs;rw [HB.out] at e;refine ⟨Nat.le_refl _,rfl,none,0,[],by rw [e];rfl,by rw [e];rfl,by rw [e];exact World.ownsRow_nil _ _ _ _,Bf.refl _ _,?_⟩
  rw [e];simp
 case round=>
  obtain ⟨hm,rfl,A,C,ts,rfl,htl,hrow,hu,hts⟩:=hrel;have hix:=dS S.cs gk;rw [HB.out] at hix;obtain ⟨T,hT⟩:=AO (O5 S.cs gk);rw [hT] at hrow hts hix htl ⊢;obtain ⟨nt,hnt⟩:=AO T.length;rw [hnt] at hrow hix htl ⊢;have hrow':=hrow;unfold Kind.row at hrow';rw [htl] at hrow';have l7:=AQ htl;have HR:=AQ hrow';have HRK:=AQ hrow;have HU:=AQ hu;have HT:=AQ hT;have l9:=AQ hnt;have jc:=AQ hts;clear hT hrow hrow' hu hts hnt htl;by_cases h0:gk=0
  ·subst h0;go_wp2_with fail
   go_ret
   have hTT:T=Xv S.cs:=HT.out.symm;subst hTT;rw [l9.out];refine ⟨A,C,ts,rfl,l7.out,HRK.out,HU.out,fun j i hj=>?_⟩
   obtain ⟨p,N,G,h1,h2,h3⟩:=jc.out j i hj;exact ⟨p,N,G,h1,h2.upd HU.out (by simp),h3⟩
  ·obtain ⟨m,rfl⟩:∃m,gk=m+1:=⟨gk - 1,by omega⟩;have e8:(((m+1:Nat):Int) - 1)=(m:Int):=by omega
   rw [e8];clear e8;have hc2':=(HU.out.cell (p:=⟨h,2,none⟩) Vt (by simp)).trans hc2;go_wp2_with fail
   refine (ZM w wr h cb mb _ _ _ _ _ _ S HH.out HU.out m (by rw [HB.out];omega) (by omega)).mono ?_
   rintro e w2 ⟨A2,C2,rfl,hr2,hu2⟩;have hst:=U1 S.cs m (by rw [HB.out];omega);have hbg:=b1a.out m (by omega);obtain ⟨G,hG⟩:=AO (Bo S.cs m)
   have hGl:G.length≤S.cs.length:=by
    rw [←hG,Ew];split
    ·rename_i hb
     exact Nat.ge_two_pow_of_testBit hb
    ·omega
   rw [hG] at hr2 hst hbg ⊢;obtain ⟨ng,jH⟩:=AO G.length;rw [jH] at hr2 hGl ⊢;have HG:=AQ hG;have ni:=AQ jH;have Fq:=AQ (HU.out.trans hu2);have HR2:=AQ (Bg HR.out hu2 (by simp));have b1b:=AQ (Bg HRK.out hu2 (by simp));have HST:=AQ hst;have HBG:=AQ hbg;clear hG jH hr2 hu2 hc2' hst hbg;by_cases hpos:0<ng
   ·have hne:G≠[]:=fun e=>by have:=ni.out;rw [e] at this;simp at this;omega
    obtain ⟨hmn,⟨p1,p2⟩,N,Gp,hp1,hp2,hp3⟩:=HBG.out hne;obtain ⟨q,hA,hq1,hq2,_,Sl⟩:=V4 HH.out.LV hp1;subst hA;have a6Z:=(Fq.out.cell (p:=⟨h,3,none⟩) Vt (by simp)).trans hc3;have hq1':=(Fq.out.cell (p:=⟨q,m*2,none⟩) Sl (by simp)).trans hq1;have a1a:=(Fq.out.cell (p:=⟨q,m*2+1,none⟩) Sl (by simp)).trans hq2;obtain ⟨tb,vb,hpe⟩:∃tb vb,(p1,p2)=(some tb,some vb):=hp2.some
    cases hpe
    unfold tp at hq1';unfold tq at a1a;simp only [Option.map_some] at hq1' a1a;have b0:(0:Int)≤(m:Int):=AU _;have b1:(m:Int)<(np:Int):=by omega
    have HP1:=AQ hp1;have JG:=AQ hp2;have HP3:=AQ hp3;have HWS:=AQ Fq.out.size;clear hp1 hq1 hq2 hp2 hp3;go_wp2_with (at_builtin;refine BL _ rfl _ _ 108 rfl w.heap.size 102 i0 (.agg #[.pointer none,.map none]) 2 16 Tryz.underlying108 hi0 hz0 hz1 hz2 rfl (by decide) _ _ _ rfl ((HR2.out).alloc _) _ 1 [.pointer (some ⟨tb,0,none⟩),.map (some vb)] rfl (BM w2 #[.pointer (some ⟨tb,0,none⟩),.map (some vb)] 102 2 1 rfl (by decide)) (by simp [Value.oneCell']) (by unfold maxLen;omega) (by omega) (by have:=HWS.out;simp;omega) ?_)
    intro A9 C9 w9 Yp;have aY:Bf [] w w9:=Fq.out.trans' (((Bf.refl _ _).alloc _).trans Yp.upd) (fun x hx=>.inr (BD HR2.out x hx));have hr9:=Yp.own
    have hnew:O5 S.cs m=T++[m]:=by
     rw [HST.out,if_neg (by simpa using hne),HT.out]
    have ZL:=AQ aY;have HR9:=AQ hr9;have Sv:=AQ hnew;clear aY hr9 hnew Yp;go_wp2_with fail
    go_roundg m
    case measure=>omega
    case rel=>
     have hlen:(ts++[(some tb,some vb)]).length=nt+1:=by rw [AY,l7.out];rfl
     refine ⟨by omega,by go_num,A9,C9,ts++[(some tb,some vb)],by rw [Sv.out,AY,l9.out];rfl,by rw [hlen,Sv.out,AY,l9.out];rfl,?_,ZL.out,?_⟩
     ·rw [Sv.out,AY,l9.out];unfold Kind.row;rw [hlen,Kind.Ci];exact HR9.out
     ·intro j i hj;rw [Sv.out] at hj;have htl:ts.length=T.length:=by rw [l7.out,l9.out]
      rcases Nat.lt_or_ge j T.length with g | g
      ·rw [List.getElem?_append_left g] at hj;rw [List.getElem?_append_left (by rw [htl];exact g)];exact jc.out j i hj
      ·rw [List.getElem?_append_right g] at hj;rw [List.getElem?_append_right (by rw [htl];exact g),htl];rcases Nat.eq_zero_or_pos (j - T.length) with g0 | g0
       ·rw [g0] at hj ⊢;simp at hj;subst hj;rw [HG.out];exact ⟨_,N,_,rfl,JG.out,HP3.out⟩
       ·rw [List.getElem?_eq_none (by simp;omega)] at hj;cases hj
   ·have hnew:O5 S.cs m=T:=by
     have:G = []:=List.eq_nil_of_length_eq_zero (by rw [ni.out];omega);rw [HST.out,this,HT.out];simp
    have Sv:=AQ hnew;clear hnew;go_wp2_with fail
    go_roundg m
    case measure=>omega
    case rel=>
     refine ⟨by omega,by go_num,A,C,ts,by rw [Sv.out,l9.out],by rw [Sv.out,l9.out];exact l7.out,?_,Fq.out,?_⟩
     ·rw [Sv.out,l9.out];exact b1b.out
     ·rw [Sv.out];exact jc.out
end Go.Proofs.YtkbaaonchdeneaaGreat.EI
namespace Go.Proofs.YtkbaaonchdeneaaGreat.EI
open Go.RowKit
def uj:HS Bx:={ cs:=[],al:=[],lv:=[],tr:=[],mp:=[],wk:=0 }
theorem wZ:FK uj where
 nums:=by simp [uj]
 lt:=by simp [uj]
 lvl:=rfl
 oC:=by simp [uj,CZ]
 keys:=by simp [uj]
 trees:=by
  intro i hi;have:BA ([]:List (Bx×Nat)).length=0:=by decide
  rw [show uj.cs = [] from rfl,this] at hi;omega
 a0v:=by
  intro i hi;have:BA ([]:List (Bx×Nat)).length=0:=by decide
  rw [show uj.cs = [] from rfl,this] at hi;omega
 trl:=by simp [uj]
theorem qY {w w1:World} {cb:Nat} {Fc:List Nat} (h1:Dz UW.KI w1 cb Fc [] 0 0) (hu:Bf [] w w1) (hF:∀x∈Fc,w.heap.size≤x) :
 ∃F,Cc ((w1.alloc (.map #[] 0)).alloc (.cells #[Ij,Jh,.pointer (some ⟨cb,0,none⟩),.slice none 0 0,.slice none 0 0,.slice none 0 0,.map (some w1.heap.size)] 165)) (.pointer (some ⟨w1.heap.size+1,0,none⟩)) F uj∧
  Bf [] w ((w1.alloc (.map #[] 0)).alloc (.cells #[Ij,Jh,.pointer (some ⟨cb,0,none⟩),.slice none 0 0,.slice none 0 0,.slice none 0 0,.map (some w1.heap.size)] 165))∧∀x∈F,w.heap.size≤x:=by
 have hcl:=h1.lt;have hu2:Bf [] w1 ((w1.alloc (.map #[] 0)).alloc (.cells #[Ij,Jh,.pointer (some ⟨cb,0,none⟩),.slice none 0 0,.slice none 0 0,.slice none 0 0,.map (some w1.heap.size)] 165)):=((Bf.refl _ _).alloc _).alloc _;refine ⟨_,⟨w1.heap.size+1,cb,w1.heap.size,.slice none 0 0,.slice none 0 0,.slice none 0 0,[],Fc,[],rfl,?_,rfl⟩,hu.trans hu2,?_⟩
 ·refine ⟨?_,?_,World.ownsRow_nil _ _ _ _,World.ownsRow_nil _ _ _ _,World.ownsRow_nil _ _ _ _,?_,rfl,rfl,by simp [uj],by simp [uj],?_⟩
  ·have:=heap_alloc_new (w1.alloc (.map #[] 0)) (.cells #[Ij,Jh,.pointer (some ⟨cb,0,none⟩),.slice none 0 0,.slice none 0 0,.slice none 0 0,.map (some w1.heap.size)] 165);simpa using this
  ·have:=h1.upd hu2 (by simp);exact this
  ·exact (MBx.MapAt.made w1).upd ((Bf.refl [] _).alloc _) (by simp)
  ·simp only [parts,blk,List.pairwise_cons,List.mem_cons,List.not_mem_nil,or_false,List.Pairwise.nil,and_true];refine ⟨?_,?_,?_,?_,?_,by simp⟩
   ·rintro P (rfl | rfl | rfl | rfl | rfl) x hx hc
    ·simp at hx;subst hx;have:=hcl _ hc;omega
    ·simp at hc
    ·simp at hc
    ·simp at hc
    ·simp at hx hc;omega
   ·rintro P (rfl | rfl | rfl | rfl) x hx hc
    ·simp at hc
    ·simp at hc
    ·simp at hc
    ·simp at hc;have:=hcl _ hx;omega
   ·intro P _ x hx;simp at hx
   ·intro P _ x hx;simp at hx
   ·intro P _ x hx;simp at hx
 ·intro x hx;have hs:=hu.size;simp [parts,blk] at hx;rcases hx with rfl | hx | rfl
  ·omega
  ·exact hF x hx
  ·omega
theorem newH (w:World) :
 Calls Tryz.prog 55 #[Ij,Jh] w fun e w'=>∃b F,e=.returned (.pointer (some ⟨b,0,none⟩))∧Cc w' (.pointer (some ⟨b,0,none⟩)) F uj∧Bf [] w w'∧∀x∈F,w.heap.size≤x:=by
 unfold Ij Jh;have hmm:=@run_makeMap Tryz.prog;have e1:∀w,(binOp .eql 103 (.func (.func 56) #[] #[]) .nilFunc).run Tryz.prog w=.ok (.bool false) w:=fun w=>rfl
 have e2:∀w,(binOp .eql 104 (.func (.func 57) #[] #[]) .nilFunc).run Tryz.prog w=.ok (.bool false) w:=fun w=>rfl
 go_enter Tryz.func55,Tryz.ntmps55
 go_wp2_with fail
 refine (UW.a4p w).mono ?_
 rintro e w1 ⟨cb,rfl,hc,hb,hu⟩;have hm:=qY hc hu (by simp;exact hb);obtain ⟨F,hF1,hF2,hF3⟩:=hm;have iw:=AQ hF1;have HF2:=AQ hF2;have HF3:=AQ hF3;clear hF1 hF2 hF3 hc hu;go_wp2_with fail
 go_ret
 exact ⟨_,F,rfl,iw.out,HF2.out,HF3.out⟩
end Go.Proofs.YtkbaaonchdeneaaGreat.EI
namespace Go.Proofs.YtkbaaonchdeneaaGreat.EI
open Go.RowKit
theorem allH (hv:Value) (F:List Nat) (S:HS Bx) (w:World) (H:Cc w hv F S) (hn:∀y∈S.cs,y.2<S.al.length) (hl:S.cs.length<100000) :
 Calls Tryz.prog 133 #[hv] w fun e w'=>∃A C,e=.returned (.slice A (live S.al S.cs).length C)∧G5.row w' w.heap.size (.slice A (live S.al S.cs).length C) (live S.al S.cs)∧Bf [] w w':=by
 obtain ⟨i1,hi1,hy0,hy1,hy2⟩:=info_parts QG;have HH:=AQ H;have HN:=AQ hn;clear H hn;go_enter Tryz.func133,Tryz.ntmps133
 go_wp2_with fail
 refine (YZ _ _ _ _ HH.out).mono ?_
 rintro e w' ⟨rfl,rfl⟩;go_wp2_with fail
 refine (wV _ _ _ _ HH.out HN.out hl).mono ?_
 rintro e w1 ⟨A1,C1,rfl,hr1,hu1⟩;have hDl:=Oz S.al S.cs;have hlive:live S.al S.cs=(CZ S.al S.cs).map (·.1):=rfl;obtain ⟨D,hD⟩:=AO (CZ S.al S.cs);rw [hD] at hr1 hDl hlive ⊢;have HLV:=AQ hlive;obtain ⟨n,hn⟩:=AO D.length;rw [hn] at hr1 hDl ⊢;have hn0:n<100000:=by omega
 have HD:=AQ hn;have HR1:=AQ hr1;have FY:=AQ hu1;clear hD hlive hn hr1 hu1 hDl;go_wp2_with fail
 go_loopg [3,11] n (fun q o i wx=>∃k A3 C3,q+k=n∧i=.int .i64 (k:Int)∧o=.slice A3 ((D.take k).map (·.1)).length C3∧G5.row wx w.heap.size (.slice A3 ((D.take k).map (·.1)).length C3) ((D.take k).map (·.1))∧UW.KI.row wx w.heap.size (.slice A1 n C1) D∧Bf [] w wx)
 case atStart=>exact ⟨0,none,0,rfl,rfl,rfl,World.ownsRow_nil _ _ _ _,by have:=HR1.out;unfold Kind.row at this ⊢;exact this,FY.out⟩
 case round=>
  obtain ⟨k,A3,C3,hk,rfl,rfl,hr3,hc3,hu3⟩:=hrel;have hkm:k≤n:=by omega
  obtain ⟨L,hL⟩:=AO ((D.take k).map (·.1));have hLl:L.length=k:=by rw [←hL,List.length_map,Ba,HD.out];omega
  rw [hL] at hr3 ⊢;have hLb:L.length≤100000:=by omega
  have HK:=AQ hk;have HL:=AQ hL;have HLl:=AQ hLl;have HR3:=AQ hr3;have Xp:=AQ hc3;have Gj:=AQ hu3;clear hk hL hLl hr3 hc3 hu3;by_cases hlt:k<n
  ·have hin:UW.Ints wr (.slice A1 n C1) D:=by
    have:=UW.Ints.BX Xp.out;exact this
   obtain ⟨bb,oo,hA,hy0',hy1',qR,qU,qV,qW⟩:=hin.cell (k:=k) (by rw [HD.out];exact hlt);subst hA;have hkD:k<D.length:=by rw [HD.out];exact hlt
   obtain ⟨y,hy⟩:=AO (D[k]);rw [hy] at hy0' hy1' qR qU qV qW;obtain ⟨y1,y2⟩:=y;dsimp only at hy0' hy1' qR qU qV qW
   have hnext:(D.take (k+1)).map (·.1)=L++[y1]:=by
    rw [AZ hkD,hy,List.map_append,HL.out];rfl
   have VZ:=AQ hnext;have b0:(0:Int)≤(k:Int):=AU _;have b1:(k:Int)<(n:Int):=by omega
   clear hy hnext hin;go_upto_region 7 with fail
   obtain ⟨w4,hw4,FM,hqp⟩:=BJ wr #[.int .i64 y1.x1,.int .i64 y1.x2,.int .i64 y1.y1,.int .i64 y1.y2,.int .u32 (y1.id:Int),.int .i64 (y2:Int)] 160;rw [←hw4];obtain ⟨p,hp⟩:=AO wr.heap.size;rw [hp] at hqp ⊢;have hp0:w4.cell? ⟨p,0,none⟩=some (.int .i64 y1.x1):=hqp.cell 0;have hp1:w4.cell? ⟨p,1,none⟩=some (.int .i64 y1.x2):=hqp.cell 1;have hp2:w4.cell? ⟨p,2,none⟩=some (.int .i64 y1.y1):=hqp.cell 2;have hp3:w4.cell? ⟨p,3,none⟩=some (.int .i64 y1.y2):=hqp.cell 3;have YA:w4.cell? ⟨p,4,none⟩=some (.int .u32 (y1.id:Int)):=hqp.cell 4;have Gl:=AQ (Gj.out.trans FM);have HR4:=AQ (Bg HR3.out FM (by simp));have Vz:=AQ (Bg Xp.out FM (by simp));have HWS:=AQ ((Gj.out.trans FM).size);clear hp FM hw4 hqp hy0' hy1' qR qU qV qW;go_wp2_with (at_builtin;refine BL _ rfl _ _ 42 rfl w.heap.size 28 i1 (.agg #[.int .i64 0,.int .i64 0,.int .i64 0,.int .i64 0,.int .u32 0]) 5 40 Tryz.underlying42 hi1 hy0 hy1 hy2 rfl (by decide) _ _ _ rfl ((HR4.out).alloc _) _ 1 (G5.enc y1) rfl (BM w4 #[.int .i64 y1.x1,.int .i64 y1.x2,.int .i64 y1.y1,.int .i64 y1.y2,.int .u32 (y1.id:Int)] 28 5 1 rfl (by decide)) (G5.one y1) (by unfold maxLen;omega) (by omega) (by have:=HWS.out;simp;omega) ?_)
   intro A9 C9 w9 Yp;have U0:Bf (blk (.slice A3 L.length C3)) w4 w9:=((Bf.refl _ _).alloc _).trans Yp.upd;have VP:Bf [] w w9:=Gl.out.trans' U0 (fun x hx=>.inr (BD HR4.out x hx));have hc9:=Bg Vz.out U0 (QH Vz.out HR4.out (by decide))
   have PU:G5.row w9 w.heap.size (.slice A9 (L.length+1) C9) (L++[y1]):=by
    unfold Kind.row;rw [Kind.Ci,AY];exact Yp.own
   have ZL:=AQ VP;have HR9:=AQ PU;have HC9:=AQ hc9;clear VP PU Yp U0 hc9;go_wp2_with fail
   go_roundg (n - (k+1))
   case measure=>have:=HK.out;omega
   case rel=>
    refine ⟨k+1,A9,C9,Ac HK,by go_num,by rw [VZ.out,AY];rfl,?_,HC9.out,ZL.out⟩
    rw [VZ.out,AY];exact HR9.out
  ·have hfull:L=D.map (·.1):=by rw [←HL.out,List.take_of_length_le (by rw [HD.out];omega)]
   have HF:=AQ hfull;clear hfull;go_wp2_with fail
   go_ret
   rw [HLV.out,←HF.out];exact ⟨A3,C3,rfl,HR3.out,Gj.out⟩
