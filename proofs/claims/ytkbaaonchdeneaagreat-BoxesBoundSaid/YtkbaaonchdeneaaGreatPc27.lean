/- Half: none, Len, Stored, Work, cells. Printed by mkhg.py. Half.anew. Printed by mkhg.py. Half: -/
import Derived.Test.YtkbaaonchdeneaaGreatPc26
set_option maxHeartbeats 1000000
set_option maxRecDepth 100000
namespace Go.Proofs.YtkbaaonchdeneaaGreat
namespace Fv
open Go.RowKit
theorem Q7 (hv:Value) (F:List Nat) (S:HS Bx) (w:World) (H:BO w hv F S) :
 Calls Tryz.prog 112 #[hv] w λe w'=>e=.returned (.bool false)/\w=w':=by
 obtain ⟨h,cb,mb,tv,av,DI,ps,Fc,Fs,rfl,H,rfl⟩:=H;obtain ⟨_,_,hc2,_⟩:=H.cell;clear H;go_enter Tryz.func112,Tryz.ntmps112
 go_wp2
 go_ret
 exact ⟨rfl,rfl⟩
theorem a7h (hv:Value) (F:List Nat) (S:HS Bx) (w:World) (H:BO w hv F S) :
 Calls Tryz.prog 60 #[hv] w λe w'=>e=.returned S.mp.length/\w=w':=by
 have HH:=AX H;obtain ⟨h,cb,mb,tv,av,DI,ps,Fc,Fs,rfl,H,rfl⟩:=H;obtain ⟨_,_,_,_,_,_,hc6,_⟩:=H.cell;have hml:=λty=>H.Md.len ty
 clear H;go_enter Tryz.func60,Tryz.ntmps60
 go_wp2_with fail
 refine (Q7 _ _ _ _ HH.out).mono ?_
 rintro e w' ⟨rfl,rfl⟩;go_wp2_with fail
 go_ret
 exact ⟨rfl,rfl⟩
theorem zI (hv:Value) (F:List Nat) (S:HS Bx) (w:World) (H:BO w hv F S) :
 Calls Tryz.prog 69 #[hv] w λe w'=>e=.returned S.cs.length/\w=w':=by
 have HH:=AX H;obtain ⟨h,cb,mb,tv,av,DI,ps,Fc,Fs,rfl,H,rfl⟩:=H;obtain ⟨_,_,hc2,_⟩:=H.cell;have HC:=AX H.Om;clear H;go_enter Tryz.func69,Tryz.ntmps69
 go_wp2_with fail
 refine (Q7 _ _ _ _ HH.out).mono ?_
 rintro e w' ⟨rfl,rfl⟩;go_wp2_with fail
 refine (O7.zo _ _ _ _ _ _ HC.out).mono ?_
 rintro e w' ⟨rfl,rfl⟩;go_wp2_with fail
 go_ret
 exact ⟨rfl,rfl⟩
theorem a4K (hv:Value) (F:List Nat) (S:HS Bx) (w:World) (H:BO w hv F S) :
 Calls Tryz.prog 68 #[hv] w λe w'=>e=.returned S.wk/\w=w':=by
 have HH:=AX H;obtain ⟨h,cb,mb,tv,av,DI,ps,Fc,Fs,rfl,H,rfl⟩:=H;obtain ⟨_,_,hc2,_⟩:=H.cell;have HC:=AX H.Om;clear H;go_enter Tryz.func68,Tryz.ntmps68
 go_wp2_with fail
 refine (Q7 _ _ _ _ HH.out).mono ?_
 rintro e w' ⟨rfl,rfl⟩;go_wp2_with fail
 refine (O7.a4t _ _ _ _ _ _ HC.out).mono ?_
 rintro e w' ⟨rfl,rfl⟩;go_wp2_with fail
 go_ret
 exact ⟨rfl,rfl⟩
theorem Ko (al:List Bool) (b:List (Bx×Nat)):(CW al b).length<=b.length:=List.length_filter_le _ _
theorem rX (al:List Bool) (b:List (Bx×Nat)) (k:Nat) (hk:k<b.length):CW al (b.take (k+1))=if al.getD b[k].2 false then CW al (b.take k)++[b[k]] else CW al (b.take k):=by
 rw [Bd hk,I8];unfold CW;rw [List.filter_cons,List.filter_nil];split
 ·rfl
 ·rw [List.append_nil]
theorem Xr (w wr:World) (h cb mb:Nat) (tv av DI:Value) (ps:List TV) (Fc:List Nat) (Fs:List (List Nat)) (S:HS Bx) (H:BN w h cb mb tv av DI ps Fc Fs S) (hu:Bj [] w wr) (i:Nat) (hi:i<BA S.cs.length) (hl:S.cs.length<1000000) :
 Calls Tryz.prog 116 #[.pointer (some cb),i] wr λe w'=>∃A C,e=.returned (.slice A (Bq S.cs i).length C)/\O7.KI.row w' wr.heap.size (.slice A (Bq S.cs i).length C) (Bq S.cs i)/\Bj [] wr w':=
 O7.Ol cb Fc i _ _ _ _ wr (H.Om.upd hu (by simp)) (EC _ _ hi) (by
  rw [D7];split
  ·rename_i hb
   have:=Nat.ge_two_pow_of_testBit hb;omega
  ·omega)
theorem Xt (w wr:World) (h cb mb:Nat) (tv av DI:Value) (ps:List TV) (Fc:List Nat) (Fs:List (List Nat)) (S:HS Bx) (H:BN w h cb mb tv av DI ps Fc Fs S) (hu:Bj [] w wr) :
 Calls Tryz.prog 115 #[.pointer (some cb)] wr λe w'=>e=.returned (.int .i64 (BA S.cs.length))/\wr=w':=by
 have:=O7.Xn cb Fc _ _ _ wr (H.Om.upd hu (by simp));rw [D6] at this;exact this
theorem rY (hv:Value) (F:List Nat) (S:HS Bx) (w:World) (H:BO w hv F S) (hn:∀y∈S.cs,y.2<S.al.length) (hl:S.cs.length<100000) :
 Calls Tryz.prog 202 #[hv] w λe w'=>∃A C,e=.returned (.slice A (CW S.al S.cs).length C)/\O7.KI.row w' w.heap.size (.slice A (CW S.al S.cs).length C) (CW S.al S.cs)/\Bj [] w w':=by
 obtain ⟨h,cb,mb,tv,av,DI,ps,Fc,Fs,rfl,H,rfl⟩:=H;obtain ⟨i1,hi1,hy0,hy1,hy2⟩:=info_parts O7.DF;obtain ⟨_,_,hc2,_,hc4,_⟩:=H.cell;obtain ⟨Aa,Ca,hav⟩:∃A C,av=.slice A S.al.length C:=BD H.FK;subst hav;have QU:h<w.heap.size:=lt_of_block H.head;have hbt:=BP S.cs.length 20 (by omega);obtain ⟨B,hB⟩:=AU (BA S.cs.length);rw [hB] at hbt;have HB:=AX hB;have HH:=AX H;have HN:=AX hn;clear hB H hn;go_enter Tryz.func202,Tryz.ntmps202
 go_wp2_with fail
 refine (Xt w w h cb mb _ _ _ _ _ _ S HH.out (Bj.refl _ _)).mono ?_
 rintro e w' ⟨rfl,rfl⟩;rw [HB.out];go_wp2_with fail
 go_loopg [3,4] B (λm o i wr=>m<=B/\i=.int .i64 ((m:Int) - 1)/\∃A C,o=.slice A (CW S.al (S.cs.take (S.cs.length / 2 ^ m*2 ^ m))).length C/\O7.KI.row wr w.heap.size (.slice A (CW S.al (S.cs.take (S.cs.length / 2 ^ m*2 ^ m))).length C) (CW S.al (S.cs.take (S.cs.length / 2 ^ m*2 ^ m)))/\Bj [] w wr)
 case atStart=>
  have h2:S.cs.length / 2 ^ B*2 ^ B=0:=by rw [<-HB.out,Nat.div_eq_of_lt (Di S.cs.length),Nat.zero_mul]
  refine ⟨Nat.le_refl _,rfl,none,0,by rw [h2];rfl,?_,Bj.refl _ _⟩
  rw [h2,List.take_zero];exact World.ownsRow_nil _ _ _ _
 case round=>
  obtain ⟨hm,rfl,A,C,rfl,hrow,hu⟩:=hrel;obtain ⟨T,hT⟩:=AU (CW S.al (S.cs.take (S.cs.length / 2 ^ gk*2 ^ gk)))
  have hTl:T.length<=S.cs.length:=by
   rw [<-hT];exact Bh (Ko _ _) (by rw [Bf];omega)
  rw [hT] at hrow |-;have HR:=AX hrow;have HU:=AX hu;have HT:=AX hT;clear hT hrow hu;by_cases h0:gk=0
  ·subst h0;go_wp2_with fail
   go_ret
   have zh:T=CW S.al S.cs:=by rw [<-HT.out];simp
   subst zh;exact ⟨A,C,rfl,HR.out,HU.out⟩
  ·obtain ⟨m,rfl⟩:∃m,gk=m+1:=⟨gk - 1,by omega⟩;have e8:(((m+1:Nat):Int) - 1)=(m:Int):=by omega
   rw [e8];clear e8;have hc2':=(HU.out.cell (p:=⟨h,2,none⟩) QU (by simp)).trans hc2;go_wp2_with fail
   refine (Xr w wr h cb mb _ _ _ _ _ _ S HH.out HU.out m (by rw [HB.out];omega) (by omega)).mono ?_
   rintro e w2 ⟨A2,C2,rfl,hr2,hu2⟩;obtain ⟨G,hG⟩:=AU (Bq S.cs m)
   have hGl:G.length<=S.cs.length:=by
    rw [<-hG,D7];split
    ·rename_i hb
     exact Nat.ge_two_pow_of_testBit hb
    ·omega
   have hGn:∀y∈G,y.2<S.al.length:=λy hy=>HN.out y (EM (by rw [hG];exact hy))
   rw [hG] at hr2 |-;obtain ⟨ng,aW⟩:=AU G.length;rw [aW] at hr2 hGl |-;have HG:=AX hG;have gV:=AX aW;have HGN:=AX hGn;have hrl:=BJ HR.out
   have hdis:∀x∈blk (.slice A T.length C),x∉blk (.slice A2 ng C2):=λx hx hc=>by
    have h1:=hrl x hx;have h2:=BH hr2 x hc;omega
   have hblt:=BJ hr2;have a2k:=AX hblt;have Le:=AX hdis;have HR2:=AX (O7.Ints.BU hr2);have HRT:=AX (Bl HR.out hu2 (by simp));have Ej:=AX (HU.out.trans hu2);clear hG aW hGn hr2 hu2 hc2' hrl hdis hblt;go_wp2_with fail
   go_loopg [3,24] ng (λq o i wx=>∃k A3 C3,q+k=ng/\i=.int .i64 (k:Int)/\o=.slice A3 (T++CW S.al (G.take k)).length C3/\O7.KI.row wx w.heap.size (.slice A3 (T++CW S.al (G.take k)).length C3) (T++CW S.al (G.take k))/\O7.Ints wx (.slice A2 ng C2) G/\(∀x∈blk (.slice A3 (T++CW S.al (G.take k)).length C3),x∉blk (.slice A2 ng C2))/\Bj [] w wx/\w2.heap.size<=wx.heap.size)
   case atStart=>
    have e:T++CW S.al (G.take 0)=T:=by simp [CW]
    refine ⟨0,A,C,rfl,rfl,by rw [e],?_,HR2.out,?_,Ej.out,Nat.le_refl _⟩
    ·rw [e];exact HRT.out
    ·rw [e];exact Le.out
   case round=>
    obtain ⟨k,A3,C3,hk,rfl,rfl,hr3,rZ,aX,hu3,hsz3⟩:=hrel;have hkm:k<=ng:=by omega
    obtain ⟨L,hL⟩:=AU (T++CW S.al (G.take k))
    have hLl:L.length<=S.cs.length+k:=by
     rw [<-hL,Bc];have:=Ko S.al (G.take k);rw [Bf] at this;omega
    rw [hL] at hr3 aX |-;have HI3:=AX rZ;have HD3:=AX aX;have rJ:=AX hsz3;have HK:=AX hk;have HL:=AX hL;have HR3:=AX hr3;have EJ:=AX hu3;clear hk hL hr3 hu3 rZ aX hsz3;by_cases hlt:k<ng
    ·obtain ⟨bb,oo,hA,hy0',hy1',kV,kW,kX,kY⟩:=HI3.out.cell (k:=k) (by rw [gV.out];exact hlt);subst hA;have hkG:k<G.length:=by rw [gV.out];exact hlt
     have hst:=rX S.al G k hkG;obtain ⟨y,hy⟩:=AU (G[k]);have hyn:=HGN.out G[k] (List.getElem_mem _);rw [hy] at hy0' hy1' kV kW kX kY hyn hst;obtain ⟨y1,y2⟩:=y;dsimp only at hy0' hy1' kV kW kX kY hyn hst;obtain ⟨qa,hAa,Oo,_,_,aU⟩:=J9 HH.out.FK hyn (u:=.bool (S.al[y2])) (by simp [hyn]);subst hAa;have hcond:S.al.getD y2 false=S.al[y2]:=by simp [List.getD,hyn]
     obtain ⟨c,hc⟩:=AU (S.al[y2]);rw [hc] at Oo hcond;rw [hcond] at hst;have kZ:=EJ.out;have Ue:=(kZ.cell (p:=⟨h,4,none⟩) QU (by simp)).trans hc4;have Q5:=(kZ.cell (p:=⟨qa,y2,none⟩) aU (by simp)).trans Oo;have hhx:h<wr.heap.size:=Bg QU kZ.size;have JQ:qa<wr.heap.size:=Bg aU kZ.size;have HST:=AX hst;have pG:=AX kZ;clear hy hcond hc hst kZ hc4 Oo;have b0:(0:Int)<=(k:Int):=AY _;have b1:(k:Int)<(ng:Int):=by omega
     have b2:(0:Int)<=(y2:Int):=AY _;have b3:(y2:Int)<(S.al.length:Int):=by omega
     go_upto_region 8 with fail
     obtain ⟨p,hp⟩:=AU wr.heap.size;have FI:Bj [] wr (wr.alloc (.cells #[y1.x1,y1.x2,y1.y1,y1.y2,.int .u32 (y1.id:Int),(y2:Int)] 160)):=(Bj.refl _ _).alloc _;have hp0:(wr.alloc (.cells #[y1.x1,y1.x2,y1.y1,y1.y2,.int .u32 (y1.id:Int),(y2:Int)] 160)).cell? wr.heap.size=some (.int .i64 y1.x1):=by rw [World.cell?_alloc_at _ _ _ _ rfl];rfl
     have hp1:(wr.alloc (.cells #[y1.x1,y1.x2,y1.y1,y1.y2,.int .u32 (y1.id:Int),(y2:Int)] 160)).cell? ⟨wr.heap.size,1,none⟩=some (.int .i64 y1.x2):=by rw [World.cell?_alloc_at _ _ _ _ rfl];rfl
     have hp2:(wr.alloc (.cells #[y1.x1,y1.x2,y1.y1,y1.y2,.int .u32 (y1.id:Int),(y2:Int)] 160)).cell? ⟨wr.heap.size,2,none⟩=some (.int .i64 y1.y1):=by rw [World.cell?_alloc_at _ _ _ _ rfl];rfl
     have hp3:(wr.alloc (.cells #[y1.x1,y1.x2,y1.y1,y1.y2,.int .u32 (y1.id:Int),(y2:Int)] 160)).cell? ⟨wr.heap.size,3,none⟩=some (.int .i64 y1.y2):=by rw [World.cell?_alloc_at _ _ _ _ rfl];rfl
     have QB:(wr.alloc (.cells #[y1.x1,y1.x2,y1.y1,y1.y2,.int .u32 (y1.id:Int),(y2:Int)] 160)).cell? ⟨wr.heap.size,4,none⟩=some (.int .u32 (y1.id:Int)):=by rw [World.cell?_alloc_at _ _ _ _ rfl];rfl
     have Vb:(wr.alloc (.cells #[y1.x1,y1.x2,y1.y1,y1.y2,.int .u32 (y1.id:Int),(y2:Int)] 160)).cell? ⟨wr.heap.size,5,none⟩=some (.int .i64 (y2:Int)):=by rw [World.cell?_alloc_at _ _ _ _ rfl];rfl
     generalize (wr.alloc (.cells #[y1.x1,y1.x2,y1.y1,y1.y2,.int .u32 (y1.id:Int),(y2:Int)] 160))=w4 at *;have gW:=(FI.cell (p:=⟨h,4,none⟩) hhx (by simp)).trans Ue;have a2l:=(FI.cell (p:=⟨qa,y2,none⟩) JQ (by simp)).trans Q5;rw [hp] at hp0 hp1 hp2 hp3 QB Vb |-;have Hr:=AX (EJ.out.trans FI);have HR4:=AX (Bl HR3.out FI (by simp));have zG:=AX ((EJ.out.trans FI).size);have HI4:=AX (HI3.out.BF FI);have X4:=AX (Bh rJ.out FI.size);clear hp FI Ue Q5
     cases c
     ·go_quiet (fail)
      go_wp2_with fail
      go_roundg (ng - (k+1))
      case measure=>have:=HK.out;omega
      case rel=>
       have h9:=HST.out;rw [if_neg (by simp)] at h9;refine ⟨k+1,A3,C3,Ac HK,by go_num,by rw [h9,HL.out],?_,HI4.out,?_,Hr.out.drewN _,X4.out⟩
       ·rw [h9,HL.out];exact HR4.out
       ·rw [h9,HL.out];exact HD3.out
     ·go_quiet (fail)
      go_wp2_with (at_builtin;refine BM _ rfl _ _ 178 rfl w.heap.size 160 i1 (.agg #[.int .i64 0,.int .i64 0,.int .i64 0,.int .i64 0,.int .u32 0,.int .i64 0]) 6 48 Tryz.underlying178 hi1 hy0 hy1 hy2 rfl (by decide) _ _ _ rfl ((Bl (HR4.out) ((Bj.refl [] w4).drewN nq) (by simp)).alloc _) _ 1 [y1.x1,y1.x2,y1.y1,y1.y2,.int .u32 (y1.id:Int),(y2:Int)] rfl (BK (w4.drewN nq) #[y1.x1,y1.x2,y1.y1,y1.y2,.int .u32 (y1.id:Int),(y2:Int)] 160 6 1 rfl (by decide)) (by simp [Value.oneCell']) (by unfold maxLen;omega) (by omega) (by have:=zG.out;simp;omega) ?_)
      intro A9 C9 w9 Va;have Qm:Bj (blk (.slice A3 L.length C3)) w4 w9:=((Bj.refl _ _).drewN nq).trans' (((Bj.refl _ _).alloc _).trans Va.upd) (λx hx=>.inl hx);have RD:Bj [] w w9:=Hr.out.trans' Qm (λx hx=>.inr (BH HR4.out x hx));have su:O7.Ints w9 (.slice (some ⟨bb,oo,none⟩) ng C2) G:=HI4.out.upd Qm (λ_ x hx _ hc=>HD3.out x hc hx)
      have sD:∀x∈blk (.slice A9 (L.length+1) C9),x∉blk (.slice (some ⟨bb,oo,none⟩) ng C2):=by
       intro x hx hc;rcases Va.at with h' | h'
       ·rw [h'] at hx;exact HD3.out x hx hc
       ·rw [h'] at hx;simp at hx;have h1:=a2k.out x hc;have h2:=X4.out;omega
      have HI9:=AX su;have HD9:=AX sD;have HS9:=AX (Bh X4.out Qm.size)
      have Me:O7.KI.row w9 w.heap.size (.slice A9 (L.length+1) C9) (L++[(y1,y2)]):=by
       unfold Kind.row;rw [Kind.BZ,Bc];exact Va.own
      have kU:=AX RD;have zH:=AX Me;clear RD Me Va Qm su sD;go_wp2_with fail
      go_roundg (ng - (k+1))
      case measure=>have:=HK.out;omega
      case rel=>
       have h9:=HST.out;rw [if_pos (by simp)] at h9;refine ⟨k+1,A9,C9,Ac HK,by go_num,by rw [h9,<-List.append_assoc,HL.out,Bc];rfl,?_,HI9.out,?_,kU.out,HS9.out⟩
       ·rw [h9,<-List.append_assoc,HL.out,Bc];exact zH.out
       ·rw [h9,<-List.append_assoc,HL.out,Bc];exact HD9.out
    ·have hst:T++CW S.al (G.take k)=CW S.al (S.cs.take (S.cs.length / 2 ^ m*2 ^ m)):=by
      rw [List.take_of_length_le (by rw [gV.out];omega),<-HT.out,<-HG.out,<-I8,P5]
     have HST:=AX hst;clear hst;go_wp2_with fail
     go_roundg m
     case measure=>omega
     case rel=>
      rw [<-HST.out,HL.out];exact ⟨by omega,by go_num,A3,C3,rfl,HR3.out,EJ.out⟩
end Fv
namespace Fv
open Go.RowKit
theorem BN.zJ {w:World} {h cb mb:Nat} {tv av DI:Value} {ps:List TV} {Fc:List Nat} {Fs:List (List Nat)} {S:HS Bx} (H:BN w h cb mb tv av DI ps Fc Fs S) :
 BN (w.setCell ⟨h,3,none⟩ (.slice none 0 0)) h cb mb (.slice none 0 0) av DI [] Fc [] { S with tr:=[] }/\Bj [h] w (w.setCell ⟨h,3,none⟩ (.slice none 0 0)):=by
 have hu:Bj [h] w (w.setCell ⟨h,3,none⟩ (.slice none 0 0)):=(Bj.refl _ _).setCell (p:=⟨h,3,none⟩) (.inl (by simp)) _;refine ⟨H.trees (hu.mono (by simp)) ?_ (World.ownsRow_nil _ _ _ _) (by simp [blk]) rfl rfl (by simp) (by simp) ?_ (by simp),hu⟩
 ·have:=heap_setCell_same w h 3 _ _ (.slice none 0 0) H.head;simpa using this
 ·have h0:(parts h Fc tv av DI mb Fs).Pairwise CU:=H.apart;exact h0.sublist (by simp [parts])
theorem a4L (hv:Value) (F:List Nat) (S:HS Bx) (w:World) (H:BO w hv F S) (I:Fg S) (hl:S.cs.length<100000) (hw:S.wk<1099511627776) (hgood:Good (live S.al S.cs)) (hl1:(live S.al S.cs).length<=1000) :
 Calls Tryz.prog 132 #[hv] w λe w'=>e=.returned (.int .i64 (CW S.al S.cs).length)/\Cc w w' hv F (Ls S):=by
 have HO:=AX H;obtain ⟨h,cb,mb,tv,av,DI,ps,Fc,Fs,rfl,H,hF⟩:=H;obtain ⟨_,_,hc2,_⟩:=H.cell;have QU:h<w.heap.size:=lt_of_block H.head;have HH:=AX H;have HI:=AX I;have HF:=AX hF;have hhF:h∉Fc:=λhc=>HH.out.E5 (i:=0) (j:=1) rfl rfl (by omega) h (by simp) hc
 have hd2:w.drew.cell? ⟨h,2,none⟩=some (.pointer (some cb)):=hc2;have HGD:=Ap hgood hl1;clear H I hF hgood hl1;go_enter Tryz.func132,Tryz.ntmps132
 go_upto_region 1 with fail
 go_region_held3 (λw'=>w'.cell? ⟨h,2,none⟩=some (.pointer (some cb)))
  (first
   |go_keep
   |(exact hd2)
   |(exact (hu1.cell (p:=⟨h,2,none⟩) QU (by simp)).trans hc2)
   |(obtain ⟨gU,g1,g2,g3⟩:=hst;exact (g2.cell (p:=⟨h,2,none⟩) (Bg QU hu1.size) hhF).trans ((hu1.cell (p:=⟨h,2,none⟩) QU (by simp)).trans hc2)))
  (first
   |(go_at_call 202;refine (rY _ _ S _ (HO.out.upd ((Bj.refl [] w).drew) (by simp)) HI.out.lt hl).mono ?_;rintro e w1 ⟨A1,C1,rfl,hr1,hu1⟩)
   |(go_at_call 201;refine (O7.a2d cb Fc _ (CW S.al S.cs) _ _ _ _ (HH.out.Om.upd ((Bj.refl [] w).drew.trans hu1) (by simp)) (O7.Ints.BU hr1) (λ_ x hx hc=>by have h1:=BH hr1 x hx;have h2:=HH.out.Om.lt x hc;simp at h1;omega) (by have:=Ko S.al S.cs;omega) hw).mono ?_;rintro e w2 ⟨rfl,hst⟩))
 obtain ⟨gU,g1,g2,g3⟩:=hst;have Kq:Bj [] w w1:=(Bj.refl [] w).drew.trans hu1;have h1:=(HH.out.upd Kq (by intro P hP x hx;simp)).carry g1 g2 g3;obtain ⟨h2,hu2⟩:=h1.zJ;obtain ⟨_,_,_,hc3,_,_,_,hfr⟩:=h1.cell;have hf3:=hfr 3;have hF:F=(parts h Fc tv av DI mb Fs).flatten:=HF.out
 have hstep:Cc w (w2.setCell ⟨h,3,none⟩ (.slice none 0 0)) (.pointer (some h)) F (Dl S):=by
  refine ⟨_,⟨h,cb,mb,_,_,_,_,_,_,rfl,h2,rfl⟩,?_,λx hx=>?_⟩
  ·have a7i:h∈F:=by rw [hF];exact Bz (i:=0) (P:=[h]) rfl (by simp)
   refine ((Kq.mono (G:=F) (by simp)).trans' g2 λx hx=>.inl ?_).trans' hu2 λx hx=>.inl ?_
   ·rw [hF];exact Bz (i:=1) rfl hx
   ·simp at hx;rw [hx];exact a7i
  ·obtain ⟨P,hP,VR⟩:=List.mem_flatten.1 hx;simp only [parts,List.mem_cons] at hP;rw [hF];rcases hP with rfl | rfl | rfl | rfl | rfl | rfl | hP
   ·exact .inl (Bz (i:=0) (P:=[h]) rfl VR)
   ·rcases g3 x VR with g | g
    ·exact .inl (Bz (i:=1) rfl g)
    ·exact .inr (Bh Kq.size g)
   ·simp [blk] at VR
   ·exact .inl (Bz (i:=3) rfl VR)
   ·exact .inl (Bz (i:=4) rfl VR)
   ·exact .inl (Bz (i:=5) (P:=[mb]) rfl VR)
   ·simp at hP
 have HST:=AX hstep;have H2:=AX h2;clear h1 h2 hu2 hfr g1 g2 g3 hstep hr1 hu1 Kq hF;have hlv:=Ko S.al S.cs;have hbt:=BP (CW S.al S.cs).length 20 (by omega);go_wp2_with fail
 refine (Xt _ _ h cb mb _ _ _ _ _ _ (Dl S) H2.out (Bj.refl _ _)).mono ?_
 rintro e w' ⟨rfl,rfl⟩;have hcs0:(Dl S).cs=CW S.al S.cs:=rfl;have a7j:(Dl S).al=S.al:=rfl;rw [hcs0];have hB:BA (CW S.al S.cs).length=BA (Dl S).cs.length:=rfl;obtain ⟨B,hBB⟩:=AU (BA (CW S.al S.cs).length);rw [hBB] at hbt hB |-;have Jj:=AX hBB;have HB:=AX hB;have hcore:=HI.out.a0P;have HC:=AX hcore;clear hcs0 a7j hB hBB hcore hc3 hf3 hc2 hd2;go_wp2_with fail
 go_loopg [21] B (λm i wr=>∃k,m+k=B/\i=.int .i64 (k:Int)/\Cc w wr (.pointer (some h)) F (CZ (Dl S) k))
 case atStart=>exact ⟨0,rfl,rfl,HST.out⟩
 case round=>
  obtain ⟨k,hk,rfl,F1,⟨h1,cb1,YF,tv1,zC,zD,ps1,Xq,kR,he,H1,a4M⟩,hu1,hF1⟩:=hrel
  cases he
  have hkB:k<=B:=by omega
  obtain ⟨k1,k2,k3,k4,k5⟩:=FC (Dl S) k;obtain ⟨_,_,htl⟩:=OL HC.out rfl k (by rw [<-HB.out];exact hkB);obtain ⟨_,_,hc2,_⟩:=H1.cell;have a8E:(CZ (Dl S) k).cs.length<=S.cs.length:=by rw [k1];exact Ko _ _
  have HK:=AX hk;have U9:=AX H1;have zK:=AX a4M;have DJ:=AX hu1;have Zu:=AX hF1;have K1:=AX k1;have K2:=AX k2;have K5:=AX k5;clear hk H1 a4M hu1 hF1 k1 k2 k3 k4 k5;by_cases hlt:k<B
  ·go_wp2_with fail
   refine (Xr _ _ h cb1 YF _ _ _ _ _ _ _ U9.out (Bj.refl _ _) k (by rw [K1.out,<-HB.out];exact hlt) (by omega)).mono ?_
   rintro e w3 ⟨A3,C3,rfl,hr3,hu3⟩;have hst:=Lu (Dl S) k;unfold Lr at hst
   have hgd:Good (live (CZ (Dl S) k).al (Bq (CZ (Dl S) k).cs k))/\(live (CZ (Dl S) k).al (Bq (CZ (Dl S) k).cs k)).length<=1000:=by
    have hsub:(live (CZ (Dl S) k).al (Bq (CZ (Dl S) k).cs k)).Sublist (live S.al S.cs):=by
     rw [K1.out,K2.out];unfold live;refine List.Sublist.map _ ?_
     have h1:(Bq (CW S.al S.cs) k).Sublist (CW S.al S.cs):=by
      unfold Bq;split
      ·exact (List.take_sublist _ _).trans (List.drop_sublist _ _)
      ·exact List.nil_sublist _
     exact List.filter_sublist.trans h1
    exact ⟨HGD.1.sub hsub,Bh hsub.length_le HGD.2⟩
   have hbm:∀y∈Bq (CZ (Dl S) k).cs k,y.2<(CZ (Dl S) k).al.length:=λy hy=>by
    rw [K2.out];exact HC.out.lt y (by rw [<-K1.out];exact EM hy)
   have hbl:(Bq (CZ (Dl S) k).cs k).length<=(CZ (Dl S) k).cs.length:=by
    rw [D7];split
    ·rename_i hb
     exact Nat.ge_two_pow_of_testBit hb
    ·omega
   obtain ⟨G,hG⟩:=AU (Bq (CZ (Dl S) k).cs k);rw [hG] at hr3 hst hbm hbl hgd |-;have HGK:=AX hgd;clear hgd;obtain ⟨ng,aW⟩:=AU G.length;rw [aW] at hr3 hbl |-;have gV:=AX aW;have a4N:=AX hst;have HBM:=AX hbm;have hH3:Cc w w3 (.pointer (some h)) F (CZ (Dl S) k):=(Cc.quiet ⟨F1,⟨h,cb1,YF,tv1,zC,zD,ps1,Xq,kR,rfl,U9.out,zK.out⟩,DJ.out,Zu.out⟩ hu3);have pR:BO w3 (.pointer (some h)) F1 (CZ (Dl S) k):=BO.upd ⟨h,cb1,YF,tv1,zC,zD,ps1,Xq,kR,rfl,U9.out,zK.out⟩ hu3 (by simp)
   have hdis:∀x∈blk (.slice A3 ng C3),x∉F1:=λx hx hc=>by
    have g1:=BH hr3 x hx;have g2:=BO.lt (w:=wr) (hv:=.pointer (some h)) ⟨h,cb1,YF,tv1,zC,zD,ps1,Xq,kR,rfl,U9.out,zK.out⟩ x hc;omega
   have OB:=AX hH3;have HI3:=AX pR;have HR3:=AX hr3;have HD:=AX hdis;have EJ:=AX (DJ.out.trans' hu3 (by simp));have eY:=AX hu3.size;clear aW hst hbm hH3 pR hr3 hdis hu3 hG hc2;by_cases hpos:0<ng
   ·go_wp2_with fail
    refine (a0Y _ F1 _ k (.slice A3 ng C3) G w3 HI3.out (by have:=O7.Ints.BU HR3.out;exact this) (λ_ x hx=>HD.out x hx) (by omega) (by omega) HBM.out (by rw [K5.out,K2.out];exact HC.out.lvl) (by rw [gV.out];omega) HGK.1 HGK.2).mono ?_
    rintro e w4 ⟨rfl,Oq⟩
    have h4:Cc w w4 (.pointer (some h)) F (CZ (Dl S) (k+1)):=by
     have e:(if G.isEmpty then CZ (Dl S) k else Hf (CZ (Dl S) k) k G)=Hf (CZ (Dl S) k) k G:=by
      rw [if_neg];intro hc;have:G = []:=by simpa using hc
      have:=gV.out;simp_all
     rw [a4N.out,e];exact Cc.next EJ.out (λx hx=>(Zu.out x hx)) Oq
    have HH4:=AX h4;clear h4 Oq;go_wp2_with fail
    go_roundg (B - (k+1))
    case measure=>have:=HK.out;omega
    case rel=>exact ⟨k+1,Ac HK,by go_num,HH4.out⟩
   ·go_wp2_with fail
    go_roundg (B - (k+1))
    case measure=>have:=HK.out;omega
    case rel=>
     refine ⟨k+1,Ac HK,by go_num,?_⟩
     have:G = []:=List.eq_nil_of_length_eq_zero (by rw [gV.out];omega);rw [a4N.out,this];exact OB.out
  ·have a4O:k=B:=by omega
   have HKB:=AX a4O;clear a4O;go_wp2_with fail
   go_ret
   refine ⟨rfl,F1,⟨h,cb1,YF,tv1,zC,zD,ps1,Xq,kR,rfl,?_,zK.out⟩,DJ.out,Zu.out⟩
   have:=U9.out;unfold Ls;rw [Jj.out,<-HKB.out];exact this
end Fv
namespace Fv
open Go.RowKit
def Lh (cs:List (Bx×Nat)) (m:Nat):List Nat:=((List.range' m (BA cs.length - m)).reverse).filter λi=>!(Bq cs i).isEmpty
def Uf (cs:List (Bx×Nat)):List Nat:=Lh cs 0
theorem Ug (cs:List (Bx×Nat)):Lh cs (BA cs.length) = []:=by simp [Lh]
theorem Qn (cs:List (Bx×Nat)) (m:Nat) (h:m<BA cs.length):Lh cs m=if (Bq cs m).isEmpty then Lh cs (m+1) else Lh cs (m+1)++[m]:=by
 unfold Lh;rw [show BA cs.length - m=(BA cs.length - (m+1))+1 by omega,List.range'_succ,List.reverse_cons,List.filter_append];by_cases he:(Bq cs m).isEmpty=true
 ·rw [if_pos he];simp [he]
 ·rw [if_neg he];simp [he]
theorem YG (cs:List (Bx×Nat)) (m:Nat):(Lh cs m).length<=BA cs.length:=by
 unfold Lh;refine Bh (List.length_filter_le _ _) ?_
 simp
theorem a2m (hv:Value) (F:List Nat) (S:HS Bx) (w:World) (H:BO w hv F S) (I:ET S) (hl:S.cs.length<100000) :
 Calls Tryz.prog 62 #[hv] w λe w'=>∃A C ts,e=.returned (.slice A (Uf S.cs).length C)/\ts.length=(Uf S.cs).length/\KT.row w' w.heap.size (.slice A (Uf S.cs).length C) ts/\Bj [] w w'/\
  ∀(j i:Nat),(Uf S.cs)[j]? = some i->∃p N G,ts[j]? = some p/\Jo w' p (N,live S.al (Bq S.cs i)) G/\N<=(Bq S.cs i).length/\∀x∈G,x∈F:=by
 obtain ⟨i0,hi0,hz0,hz1,hz2⟩:=info_parts VP;have HO:=AX H;obtain ⟨h,cb,mb,tv,av,DI,ps,Fc,Fs,rfl,H,hF⟩:=H;obtain ⟨_,_,hc2,hc3,_⟩:=H.cell;obtain ⟨At,Ct,kS⟩:∃A C,tv=.slice A ps.length C:=BD H.IV;subst kS;have QU:h<w.heap.size:=lt_of_block H.head;have hbt:=BP S.cs.length 20 (by omega);have hpl:ps.length<=20:=by rw [H.Lc];exact I.trl
 obtain ⟨B,hB⟩:=AU (BA S.cs.length);obtain ⟨np,hnp⟩:=AU ps.length;rw [hB] at hbt;rw [hnp] at hc3 hpl;have HB:=AX hB;have HNP:=AX hnp;have HH:=AX H;have HI:=AX I;have HF:=AX hF
 have rW:∀i,i<B->Bq S.cs i≠[]->i<np/\∃p N G,ps[i]? = some p/\Jo w p (N,live S.al (Bq S.cs i)) G/\N<=(Bq S.cs i).length/\∀x∈G,x∈F:=by
  intro i hi hne;obtain ⟨N,hN,ht⟩:=I.trees i (by rw [hB];exact hi) hne;obtain ⟨p,G,h1,h2,h3⟩:=H.yes i _ ht;refine ⟨by rw [<-hnp];exact (AZ h1).1,p,N,G,h1,h3,hN,λx hx=>?_⟩
  rw [hF];exact Bz (i:=i+6) (by simpa [parts] using h2) hx
 have a7k:=AX rW;clear hB H I hF rW hnp;go_enter Tryz.func62,Tryz.ntmps62
 go_wp2_with fail
 refine (Q7 _ _ _ _ HO.out).mono ?_
 rintro e w' ⟨rfl,rfl⟩;go_wp2_with fail
 refine (Xt w w h cb mb _ _ _ _ _ _ S HH.out (Bj.refl _ _)).mono ?_
 rintro e w' ⟨rfl,rfl⟩;rw [HB.out];go_wp2_with fail
 go_loopg [3,4] B (λm o i wr=>m<=B/\i=.int .i64 ((m:Int) - 1)/\∃A C ts,o=.slice A (Lh S.cs m).length C/\ts.length=(Lh S.cs m).length/\KT.row wr w.heap.size (.slice A (Lh S.cs m).length C) ts/\Bj [] w wr/\
  ∀(j i:Nat),(Lh S.cs m)[j]? = some i->∃p N G,ts[j]? = some p/\Jo w p (N,live S.al (Bq S.cs i)) G/\N<=(Bq S.cs i).length/\∀x∈G,x∈F)
 case atStart=>
  have e:=Ug S.cs;rw [HB.out] at e;refine ⟨Nat.le_refl _,rfl,none,0,[],by rw [e];rfl,by rw [e];rfl,by rw [e];exact World.ownsRow_nil _ _ _ _,Bj.refl _ _,?_⟩
  rw [e];simp
 case round=>
  obtain ⟨hm,rfl,A,C,ts,rfl,htl,hrow,hu,hts⟩:=hrel;have hix:=YG S.cs gk;rw [HB.out] at hix;obtain ⟨T,hT⟩:=AU (Lh S.cs gk);rw [hT] at hrow hts hix htl |-;obtain ⟨nt,hnt⟩:=AU T.length;rw [hnt] at hrow hix htl |-;have hrow':=hrow;unfold Kind.row at hrow';rw [htl] at hrow';have fK:=AX htl;have HR:=AX hrow';have pW:=AX hrow;have HU:=AX hu;have HT:=AX hT;have fM:=AX hnt;have Z4:=AX hts;clear hT hrow hrow' hu hts hnt htl;by_cases h0:gk=0
  ·subst h0;go_wp2_with fail
   go_ret
   have zh:T=Uf S.cs:=HT.out.symm;subst zh;rw [fM.out];refine ⟨A,C,ts,rfl,fK.out,pW.out,HU.out,λj i hj=>?_⟩
   obtain ⟨p,N,G,h1,h2,h3⟩:=Z4.out j i hj;exact ⟨p,N,G,h1,h2.upd HU.out (by simp),h3⟩
  ·obtain ⟨m,rfl⟩:∃m,gk=m+1:=⟨gk - 1,by omega⟩;have e8:(((m+1:Nat):Int) - 1)=(m:Int):=by omega
   rw [e8];clear e8;have hc2':=(HU.out.cell (p:=⟨h,2,none⟩) QU (by simp)).trans hc2;go_wp2_with fail
   refine (Xr w wr h cb mb _ _ _ _ _ _ S HH.out HU.out m (by rw [HB.out];omega) (by omega)).mono ?_
   rintro e w2 ⟨A2,C2,rfl,hr2,hu2⟩;have hst:=Qn S.cs m (by rw [HB.out];omega);have hbg:=a7k.out m (by omega);obtain ⟨G,hG⟩:=AU (Bq S.cs m)
   have hGl:G.length<=S.cs.length:=by
    rw [<-hG,D7];split
    ·rename_i hb
     exact Nat.ge_two_pow_of_testBit hb
    ·omega
   rw [hG] at hr2 hst hbg |-;obtain ⟨ng,aW⟩:=AU G.length;rw [aW] at hr2 hGl |-;have HG:=AX hG;have gV:=AX aW;have Ej:=AX (HU.out.trans hu2);have HR2:=AX (Bl HR.out hu2 (by simp));have a7l:=AX (Bl pW.out hu2 (by simp));have HST:=AX hst;have HBG:=AX hbg;clear hG aW hr2 hu2 hc2' hst hbg;by_cases hpos:0<ng
   ·have hne:G≠[]:=λe=>by have:=gV.out;rw [e] at this;simp at this;omega
    obtain ⟨hmn,⟨p1,p2⟩,N,Gp,hp1,hp2,hp3⟩:=HBG.out hne;obtain ⟨q,hA,hq1,hq2,_,OA⟩:=RU HH.out.IV hp1;subst hA;have a4P:=(Ej.out.cell (p:=⟨h,3,none⟩) QU (by simp)).trans hc3;have hq1':=(Ej.out.cell (p:=⟨q,m*2,none⟩) OA (by simp)).trans hq1;have zF:=(Ej.out.cell (p:=⟨q,m*2+1,none⟩) OA (by simp)).trans hq2;obtain ⟨tb,vb,hpe⟩:∃tb vb,(p1,p2)=(some tb,some vb):=hp2.some
    cases hpe
    unfold tp at hq1';unfold tq at zF;simp only [Option.map_some] at hq1' zF;have b0:(0:Int)<=(m:Int):=AY _;have b1:(m:Int)<(np:Int):=by omega
    have HP1:=AX hp1;have Jj:=AX hp2;have HP3:=AX hp3;have zG:=AX Ej.out.size;clear hp1 hq1 hq2 hp2 hp3;go_wp2_with (at_builtin;refine BM _ rfl _ _ 108 rfl w.heap.size 102 i0 (.agg #[.pointer none,.map none]) 2 16 Tryz.underlying108 hi0 hz0 hz1 hz2 rfl (by decide) _ _ _ rfl ((HR2.out).alloc _) _ 1 [.pointer (some tb),.map (some vb)] rfl (BK w2 #[.pointer (some tb),.map (some vb)] 102 2 1 rfl (by decide)) (by simp [Value.oneCell']) (by unfold maxLen;omega) (by omega) (by have:=zG.out;simp;omega) ?_)
    intro A9 C9 w9 Va;have X6:Bj [] w w9:=Ej.out.trans' (((Bj.refl _ _).alloc _).trans Va.upd) (λx hx=>.inr (BH HR2.out x hx));have hr9:=Va.own
    have hnew:Lh S.cs m=T++[m]:=by
     rw [HST.out,if_neg (by simpa using hne),HT.out]
    have kU:=AX X6;have zH:=AX hr9;have Ot:=AX hnew;clear X6 hr9 hnew Va;go_wp2_with fail
    go_roundg m
    case measure=>omega
    case rel=>
     have hlen:(ts++[(some tb,some vb)]).length=nt+1:=by rw [Bc,fK.out];rfl
     refine ⟨by omega,by go_num,A9,C9,ts++[(some tb,some vb)],by rw [Ot.out,Bc,fM.out];rfl,by rw [hlen,Ot.out,Bc,fM.out];rfl,?_,kU.out,?_⟩
     ·rw [Ot.out,Bc,fM.out];unfold Kind.row;rw [hlen,Kind.BZ];exact zH.out
     ·intro j i hj;rw [Ot.out] at hj;have htl:ts.length=T.length:=by rw [fK.out,fM.out]
      rcases Nat.lt_or_ge j T.length with g | g
      ·rw [List.getElem?_append_left g] at hj;rw [List.getElem?_append_left (by rw [htl];exact g)];exact Z4.out j i hj
      ·rw [List.getElem?_append_right g] at hj;rw [List.getElem?_append_right (by rw [htl];exact g),htl];rcases Nat.eq_zero_or_pos (j - T.length) with g0 | g0
       ·rw [g0] at hj |-;simp at hj;subst hj;rw [HG.out];exact ⟨_,N,_,rfl,Jj.out,HP3.out⟩
       ·rw [List.getElem?_eq_none (by simp;omega)] at hj;cases hj
   ·have hnew:Lh S.cs m=T:=by
     have:G = []:=List.eq_nil_of_length_eq_zero (by rw [gV.out];omega);rw [HST.out,this,HT.out];simp
    have Ot:=AX hnew;clear hnew;go_wp2_with fail
    go_roundg m
    case measure=>omega
    case rel=>
     refine ⟨by omega,by go_num,A,C,ts,by rw [Ot.out,fM.out],by rw [Ot.out,fM.out];exact fK.out,?_,Ej.out,?_⟩
     ·rw [Ot.out,fM.out];exact a7l.out
     ·rw [Ot.out];exact Z4.out
end Fv
namespace Fv
open Go.RowKit
def ou:HS Bx:={ cs:=[],al:=[],lv:=[],tr:=[],mp:=[],wk:=0 }
theorem a4Q:ET ou where
 nums:=by simp [ou]
 lt:=by simp [ou]
 lvl:=rfl
 jf:=by simp [ou,CW]
 keys:=by simp [ou]
 trees:=by
  intro i hi;have:BA ([]:List (Bx×Nat)).length=0:=by decide
  rw [show ou.cs = [] from rfl,this] at hi;omega
 xY:=by
  intro i hi;have:BA ([]:List (Bx×Nat)).length=0:=by decide
  rw [show ou.cs = [] from rfl,this] at hi;omega
 trl:=by simp [ou]
theorem lq {w w1:World} {cb:Nat} {Fc:List Nat} (h1:Dc O7.KI w1 cb Fc [] 0 0) (hu:Bj [] w w1) (hF:∀x∈Fc,w.heap.size<=x) :
 ∃F,BO ((w1.alloc (.map #[] 0)).alloc (.cells #[F7,GX,.pointer (some cb),.slice none 0 0,.slice none 0 0,.slice none 0 0,.map (some w1.heap.size)] 165)) (.pointer (some ⟨w1.heap.size+1,0,none⟩)) F ou/\
  Bj [] w ((w1.alloc (.map #[] 0)).alloc (.cells #[F7,GX,.pointer (some cb),.slice none 0 0,.slice none 0 0,.slice none 0 0,.map (some w1.heap.size)] 165))/\∀x∈F,w.heap.size<=x:=by
 have hcl:=h1.lt;have hu2:Bj [] w1 ((w1.alloc (.map #[] 0)).alloc (.cells #[F7,GX,.pointer (some cb),.slice none 0 0,.slice none 0 0,.slice none 0 0,.map (some w1.heap.size)] 165)):=((Bj.refl _ _).alloc _).alloc _;refine ⟨_,⟨w1.heap.size+1,cb,w1.heap.size,.slice none 0 0,.slice none 0 0,.slice none 0 0,[],Fc,[],rfl,?_,rfl⟩,hu.trans hu2,?_⟩
 ·refine ⟨?_,?_,World.ownsRow_nil _ _ _ _,World.ownsRow_nil _ _ _ _,World.ownsRow_nil _ _ _ _,?_,rfl,rfl,by simp [ou],by simp [ou],?_⟩
  ·have:=heap_alloc_new (w1.alloc (.map #[] 0)) (.cells #[F7,GX,.pointer (some cb),.slice none 0 0,.slice none 0 0,.slice none 0 0,.map (some w1.heap.size)] 165);simpa using this
  ·have:=h1.upd hu2 (by simp);exact this
  ·exact (MBx.MapAt.made w1).upd ((Bj.refl [] _).alloc _) (by simp)
  ·simp only [parts,blk,List.pairwise_cons,List.mem_cons,List.not_mem_nil,or_false,List.Pairwise.nil,and_true];refine ⟨?_,?_,?_,?_,?_,by simp⟩
   ·rintro P (rfl | rfl | rfl | rfl | rfl) x hx hc
    ·simp at hx;subst hx;have:=hcl _ hc;omega
    ·simp at hc
    ·simp at hc
    ·simp at hc
    ·simp at hx hc;omega
   ·rintro P (rfl | rfl | rfl | rfl) x hx hc
    ·simp at hc
    ·simp at hc
    ·simp at hc
    ·simp at hc;have:=hcl _ hx;omega
   ·intro P _ x hx;simp at hx
   ·intro P _ x hx;simp at hx
   ·intro P _ x hx;simp at hx
 ·intro x hx;have hs:=hu.size;simp [parts,blk] at hx;rcases hx with rfl | hx | rfl
  ·omega
  ·exact hF x hx
  ·omega
theorem newH (w:World) :
 Calls Tryz.prog 55 #[F7,GX] w λe w'=>∃b F,e=.returned (.pointer (some b))/\BO w' (.pointer (some b)) F ou/\Bj [] w w'/\∀x∈F,w.heap.size<=x:=by
 unfold F7 GX;have hmm:=@run_makeMap Tryz.prog;have e1:∀w,(binOp .eql 103 (.func (.func 56) #[] #[]) .nilFunc).run Tryz.prog w=.ok (.bool false) w:=λw=>rfl
 have e2:∀w,(binOp .eql 104 (.func (.func 57) #[] #[]) .nilFunc).run Tryz.prog w=.ok (.bool false) w:=λw=>rfl
 go_enter Tryz.func55,Tryz.ntmps55
 go_wp2_with fail
 refine (O7.a2g w).mono ?_
 rintro e w1 ⟨cb,rfl,hc,hb,hu⟩;have hm:=lq hc hu (by simp;exact hb);obtain ⟨F,hF1,hF2,hF3⟩:=hm;have Zu:=AX hF1;have HF2:=AX hF2;have HF3:=AX hF3;clear hF1 hF2 hF3 hc hu;go_wp2_with fail
 go_ret
 exact ⟨_,F,rfl,Zu.out,HF2.out,HF3.out⟩
end Fv
namespace Fv
open Go.RowKit
theorem allH (hv:Value) (F:List Nat) (S:HS Bx) (w:World) (H:BO w hv F S) (hn:∀y∈S.cs,y.2<S.al.length) (hl:S.cs.length<100000) :
 Calls Tryz.prog 133 #[hv] w λe w'=>∃A C,e=.returned (.slice A (live S.al S.cs).length C)/\LP.row w' w.heap.size (.slice A (live S.al S.cs).length C) (live S.al S.cs)/\Bj [] w w':=by
 obtain ⟨i1,hi1,hy0,hy1,hy2⟩:=info_parts Qj;have HH:=AX H;have HN:=AX hn;clear H hn;go_enter Tryz.func133,Tryz.ntmps133
 go_wp2_with fail
 refine (Q7 _ _ _ _ HH.out).mono ?_
 rintro e w' ⟨rfl,rfl⟩;go_wp2_with fail
 refine (rY _ _ _ _ HH.out HN.out hl).mono ?_
 rintro e w1 ⟨A1,C1,rfl,hr1,hu1⟩;have hDl:=Ko S.al S.cs;have hlive:live S.al S.cs=(CW S.al S.cs).map (·.1):=rfl;obtain ⟨D,hD⟩:=AU (CW S.al S.cs);rw [hD] at hr1 hDl hlive |-;have HLV:=AX hlive;obtain ⟨n,hn⟩:=AU D.length;rw [hn] at hr1 hDl |-;have hn0:n<100000:=by omega
 have HD:=AX hn;have HR1:=AX hr1;have DJ:=AX hu1;clear hD hlive hn hr1 hu1 hDl;go_wp2_with fail
 go_loopg [3,11] n (λq o i wx=>∃k A3 C3,q+k=n/\i=.int .i64 (k:Int)/\o=.slice A3 ((D.take k).map (·.1)).length C3/\LP.row wx w.heap.size (.slice A3 ((D.take k).map (·.1)).length C3) ((D.take k).map (·.1))/\O7.KI.row wx w.heap.size (.slice A1 n C1) D/\Bj [] w wx)
 case atStart=>exact ⟨0,none,0,rfl,rfl,rfl,World.ownsRow_nil _ _ _ _,by have:=HR1.out;unfold Kind.row at this |-;exact this,DJ.out⟩
 case round=>
  obtain ⟨k,A3,C3,hk,rfl,rfl,hr3,hc3,hu3⟩:=hrel;have hkm:k<=n:=by omega
  obtain ⟨L,hL⟩:=AU ((D.take k).map (·.1));have hLl:L.length=k:=by rw [<-hL,List.length_map,Bf,HD.out];omega
  rw [hL] at hr3 |-;have hLb:L.length<=100000:=by omega
  have HK:=AX hk;have HL:=AX hL;have HLl:=AX hLl;have HR3:=AX hr3;have YD:=AX hc3;have EJ:=AX hu3;clear hk hL hLl hr3 hc3 hu3;by_cases hlt:k<n
  ·have hin:O7.Ints wr (.slice A1 n C1) D:=by
    have:=O7.Ints.BU YD.out;exact this
   obtain ⟨bb,oo,hA,hy0',hy1',kV,kW,kX,kY⟩:=hin.cell (k:=k) (by rw [HD.out];exact hlt);subst hA;have hkD:k<D.length:=by rw [HD.out];exact hlt
   obtain ⟨y,hy⟩:=AU (D[k]);rw [hy] at hy0' hy1' kV kW kX kY;obtain ⟨y1,y2⟩:=y;dsimp only at hy0' hy1' kV kW kX kY
   have hnext:(D.take (k+1)).map (·.1)=L++[y1]:=by
    rw [Bd hkD,hy,List.map_append,HL.out];rfl
   have QJ:=AX hnext;have b0:(0:Int)<=(k:Int):=AY _;have b1:(k:Int)<(n:Int):=by omega
   clear hy hnext hin;go_upto_region 7 with fail
   obtain ⟨w4,hw4,FI,xR⟩:=CQ wr #[y1.x1,y1.x2,y1.y1,y1.y2,.int .u32 (y1.id:Int),(y2:Int)] 160;rw [<-hw4];obtain ⟨p,hp⟩:=AU wr.heap.size;rw [hp] at xR |-;have hp0:w4.cell? p=some (.int .i64 y1.x1):=xR.cell 0;have hp1:w4.cell? ⟨p,1,none⟩=some (.int .i64 y1.x2):=xR.cell 1;have hp2:w4.cell? ⟨p,2,none⟩=some (.int .i64 y1.y1):=xR.cell 2;have hp3:w4.cell? ⟨p,3,none⟩=some (.int .i64 y1.y2):=xR.cell 3;have QB:w4.cell? ⟨p,4,none⟩=some (.int .u32 (y1.id:Int)):=xR.cell 4;have Hr:=AX (EJ.out.trans FI);have HR4:=AX (Bl HR3.out FI (by simp));have RY:=AX (Bl YD.out FI (by simp));have zG:=AX ((EJ.out.trans FI).size);clear hp FI hw4 xR hy0' hy1' kV kW kX kY;go_wp2_with (at_builtin;refine BM _ rfl _ _ 42 rfl w.heap.size 28 i1 (.agg #[.int .i64 0,.int .i64 0,.int .i64 0,.int .i64 0,.int .u32 0]) 5 40 Tryz.underlying42 hi1 hy0 hy1 hy2 rfl (by decide) _ _ _ rfl ((HR4.out).alloc _) _ 1 (LP.enc y1) rfl (BK w4 #[y1.x1,y1.x2,y1.y1,y1.y2,.int .u32 (y1.id:Int)] 28 5 1 rfl (by decide)) (LP.one y1) (by unfold maxLen;omega) (by omega) (by have:=zG.out;simp;omega) ?_)
   intro A9 C9 w9 Va;have Qm:Bj (blk (.slice A3 L.length C3)) w4 w9:=((Bj.refl _ _).alloc _).trans Va.upd;have RD:Bj [] w w9:=Hr.out.trans' Qm (λx hx=>.inr (BH HR4.out x hx));have hc9:=Bl RY.out Qm (Nj RY.out HR4.out (by decide))
   have Me:LP.row w9 w.heap.size (.slice A9 (L.length+1) C9) (L++[y1]):=by
    unfold Kind.row;rw [Kind.BZ,Bc];exact Va.own
   have kU:=AX RD;have zH:=AX Me;have HC9:=AX hc9;clear RD Me Va Qm hc9;go_wp2_with fail
   go_roundg (n - (k+1))
   case measure=>have:=HK.out;omega
   case rel=>
    refine ⟨k+1,A9,C9,Ac HK,by go_num,by rw [QJ.out,Bc];rfl,?_,HC9.out,kU.out⟩
    rw [QJ.out,Bc];exact zH.out
  ·have hfull:L=D.map (·.1):=by rw [<-HL.out,List.take_of_length_le (by rw [HD.out];omega)]
   have HF:=AX hfull;clear hfull;go_wp2_with fail
   go_ret
   rw [HLV.out,<-HF.out];exact ⟨A3,C3,rfl,HR3.out,EJ.out⟩
