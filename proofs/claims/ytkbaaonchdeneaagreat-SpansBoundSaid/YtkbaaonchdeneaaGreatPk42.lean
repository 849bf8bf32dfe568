/- Half: none, Len, Stored, Work, cells. Printed by mkhg.py. Half.anew. Printed by mkhg.py. Half: Trees. Printed by mkhg.py. -/
import Derived.Test.YtkbaaonchdeneaaGreatPk41
set_option maxHeartbeats 1000000
set_option maxRecDepth 100000
namespace Go.Proofs.YtkbaaonchdeneaaGreat.HSp
open Go.RowKit
theorem noneH (hv:Value) (F:List Nat) (S:HS Sp) (w:World) (H:IsHalf w hv F S) :
 Calls Tryz.prog 140 #[hv] w fun e w'=>e=.returned (.bool false)∧w=w':=by
 obtain ⟨h,cb,mb,tv,av,lvv,ps,Fc,Fs,rfl,H,rfl⟩:=H
 obtain ⟨_,_,hc2,_⟩:=H.cell
 clear H
 go_enter Tryz.func140,Tryz.ntmps140
 go_wp2
 go_ret
 exact ⟨rfl,rfl⟩
theorem lenH (hv:Value) (F:List Nat) (S:HS Sp) (w:World) (H:IsHalf w hv F S) :
 Calls Tryz.prog 88 #[hv] w fun e w'=>e=.returned (.int .i64 S.mp.length)∧w=w':=by
 have HH:=Lib.hid H
 obtain ⟨h,cb,mb,tv,av,lvv,ps,Fc,Fs,rfl,H,rfl⟩:=H
 obtain ⟨_,_,_,_,_,_,hc6,_⟩:=H.cell
 have hml:=fun ty=>H.mapp.len ty
 clear H
 go_enter Tryz.func88,Tryz.ntmps88
 go_wp2_with fail
 refine (noneH _ _ _ _ HH.out).mono ?_
 rintro e w' ⟨rfl,rfl⟩
 go_wp2_with fail
 go_ret
 exact ⟨rfl,rfl⟩
theorem storedH (hv:Value) (F:List Nat) (S:HS Sp) (w:World) (H:IsHalf w hv F S) :
 Calls Tryz.prog 91 #[hv] w fun e w'=>e=.returned (.int .i64 S.cs.length)∧w=w':=by
 have HH:=Lib.hid H
 obtain ⟨h,cb,mb,tv,av,lvv,ps,Fc,Fs,rfl,H,rfl⟩:=H
 obtain ⟨_,_,hc2,_⟩:=H.cell
 have HC:=Lib.hid H.car
 clear H
 go_enter Tryz.func91,Tryz.ntmps91
 go_wp2_with fail
 refine (noneH _ _ _ _ HH.out).mono ?_
 rintro e w' ⟨rfl,rfl⟩
 go_wp2_with fail
 refine (CSp.lenI _ _ _ _ _ _ HC.out).mono ?_
 rintro e w' ⟨rfl,rfl⟩
 go_wp2_with fail
 go_ret
 exact ⟨rfl,rfl⟩
theorem workH (hv:Value) (F:List Nat) (S:HS Sp) (w:World) (H:IsHalf w hv F S) :
 Calls Tryz.prog 90 #[hv] w fun e w'=>e=.returned (.int .i64 S.wk)∧w=w':=by
 have HH:=Lib.hid H
 obtain ⟨h,cb,mb,tv,av,lvv,ps,Fc,Fs,rfl,H,rfl⟩:=H
 obtain ⟨_,_,hc2,_⟩:=H.cell
 have HC:=Lib.hid H.car
 clear H
 go_enter Tryz.func90,Tryz.ntmps90
 go_wp2_with fail
 refine (noneH _ _ _ _ HH.out).mono ?_
 rintro e w' ⟨rfl,rfl⟩
 go_wp2_with fail
 refine (CSp.workI _ _ _ _ _ _ HC.out).mono ?_
 rintro e w' ⟨rfl,rfl⟩
 go_wp2_with fail
 go_ret
 exact ⟨rfl,rfl⟩
theorem liv_len (al:List Bool) (b:List (Sp×Nat)):(liv al b).length≤b.length:=List.length_filter_le _ _
theorem liv_step (al:List Bool) (b:List (Sp×Nat)) (k:Nat) (hk:k<b.length):liv al (b.take (k+1))=if al.getD b[k].2 false then liv al (b.take k)++[b[k]] else liv al (b.take k):=by
 rw [List.take_succ_eq_append_getElem hk,liv_app]
 unfold liv
 rw [List.filter_cons,List.filter_nil]
 split
 ·rfl
 ·rw [List.append_nil]
theorem bucketH (w wr:World) (h cb mb:Nat) (tv av lvv:Value) (ps:List TV) (Fc:List Nat) (Fs:List (List Nat)) (S:HS Sp) (H:HalfAt w h cb mb tv av lvv ps Fc Fs S) (hu:Upd [] w wr) (i:Nat) (hi:i<bitsN S.cs.length) (hl:S.cs.length<1000000) :
 Calls Tryz.prog 213 #[.pointer (some ⟨cb,0,none⟩),.int .i64 i] wr fun e w'=>∃A C,e=.returned (.slice A (bucketOf S.cs i).length C)∧CSp.KI.row w' wr.heap.size (.slice A (bucketOf S.cs i).length C) (bucketOf S.cs i)∧Upd [] wr w':=
 CSp.bucketI_in cb Fc i _ _ _ _ wr (H.car.upd hu (by simp)) (setB_get _ _ hi) (by
  rw [bucketOf_len]
  split
  ·rename_i hb
   have:=Nat.ge_two_pow_of_testBit hb
   omega
  ·omega)
theorem levelsH (w wr:World) (h cb mb:Nat) (tv av lvv:Value) (ps:List TV) (Fc:List Nat) (Fs:List (List Nat)) (S:HS Sp) (H:HalfAt w h cb mb tv av lvv ps Fc Fs S) (hu:Upd [] w wr) :
 Calls Tryz.prog 212 #[.pointer (some ⟨cb,0,none⟩)] wr fun e w'=>e=.returned (.int .i64 (bitsN S.cs.length))∧wr=w':=by
 have:=CSp.levelsI cb Fc _ _ _ wr (H.car.upd hu (by simp))
 rw [setB_len] at this
 exact this
theorem cellsH (hv:Value) (F:List Nat) (S:HS Sp) (w:World) (H:IsHalf w hv F S) (hn:∀y∈S.cs,y.2<S.al.length) (hl:S.cs.length<100000) :
 Calls Tryz.prog 211 #[hv] w fun e w'=>∃A C,e=.returned (.slice A (liv S.al S.cs).length C)∧CSp.KI.row w' w.heap.size (.slice A (liv S.al S.cs).length C) (liv S.al S.cs)∧Upd [] w w':=by
 obtain ⟨h,cb,mb,tv,av,lvv,ps,Fc,Fs,rfl,H,rfl⟩:=H
 obtain ⟨i1,hi1,hy0,hy1,hy2⟩:=info_parts CSp.info_int64
 obtain ⟨_,_,hc2,_,hc4,_⟩:=H.cell
 obtain ⟨Aa,Ca,hav⟩:∃A C,av=.slice A S.al.length C:=own_form H.arow
 subst hav
 have hhw:h<w.heap.size:=lt_of_block H.head
 have hbt:=bitsN_le S.cs.length 20 (by omega)
 obtain ⟨B,hB⟩:∃B,bitsN S.cs.length=B:=⟨_,rfl⟩
 rw [hB] at hbt
 have HB:=Lib.hid hB
 have HH:=Lib.hid H
 have HN:=Lib.hid hn
 clear hB H hn
 go_enter Tryz.func211,Tryz.ntmps211
 go_wp2_with fail
 refine (levelsH w w h cb mb _ _ _ _ _ _ S HH.out (Upd.refl _ _)).mono ?_
 rintro e w' ⟨rfl,rfl⟩
 rw [HB.out]
 go_wp2_with fail
 go_loopg [3,4] B (fun m o i wr=>m≤B∧i=.int .i64 ((m:Int) - 1)∧∃A C,o=.slice A (liv S.al (S.cs.take (S.cs.length / 2 ^ m*2 ^ m))).length C∧CSp.KI.row wr w.heap.size (.slice A (liv S.al (S.cs.take (S.cs.length / 2 ^ m*2 ^ m))).length C) (liv S.al (S.cs.take (S.cs.length / 2 ^ m*2 ^ m)))∧Upd [] w wr)
 case atStart=>
  have h2:S.cs.length / 2 ^ B*2 ^ B=0:=by rw [←HB.out,Nat.div_eq_of_lt (bitsN_lt S.cs.length),Nat.zero_mul]
  refine ⟨Nat.le_refl _,rfl,none,0,by rw [h2];rfl,?_,Upd.refl _ _⟩
  rw [h2,List.take_zero]
  exact World.ownsRow_nil _ _ _ _
 case round=>
  obtain ⟨hm,rfl,A,C,rfl,hrow,hu⟩:=hrel
  obtain ⟨T,hT⟩:∃T,liv S.al (S.cs.take (S.cs.length / 2 ^ gk*2 ^ gk))=T:=⟨_,rfl⟩
  have hTl:T.length≤S.cs.length:=by
   rw [←hT]
   exact Nat.le_trans (liv_len _ _) (by rw [List.length_take];omega)
  rw [hT] at hrow ⊢
  have HR:=Lib.hid hrow
  have HU:=Lib.hid hu
  have HT:=Lib.hid hT
  clear hT hrow hu
  by_cases h0:gk=0
  ·subst h0
   go_wp2_with fail
   go_ret
   have hTT:T=liv S.al S.cs:=by rw [←HT.out];simp
   subst hTT
   exact ⟨A,C,rfl,HR.out,HU.out⟩
  ·obtain ⟨m,rfl⟩:∃m,gk=m+1:=⟨gk - 1,by omega⟩
   have e8:(((m+1:Nat):Int) - 1)=(m:Int):=by omega
   rw [e8]
   clear e8
   have hc2':=(HU.out.cell (p:=⟨h,2,none⟩) hhw (by simp)).trans hc2
   go_wp2_with fail
   refine (bucketH w wr h cb mb _ _ _ _ _ _ S HH.out HU.out m (by rw [HB.out];omega) (by omega)).mono ?_
   rintro e w2 ⟨A2,C2,rfl,hr2,hu2⟩
   obtain ⟨G,hG⟩:∃G,bucketOf S.cs m=G:=⟨_,rfl⟩
   have hGl:G.length≤S.cs.length:=by
    rw [←hG,bucketOf_len]
    split
    ·rename_i hb
     exact Nat.ge_two_pow_of_testBit hb
    ·omega
   have hGn:∀y∈G,y.2<S.al.length:=fun y hy=>HN.out y (bucket_mem (by rw [hG];exact hy))
   rw [hG] at hr2 ⊢
   obtain ⟨ng,hng⟩:∃ng,G.length=ng:=⟨_,rfl⟩
   rw [hng] at hr2 hGl ⊢
   have HG:=Lib.hid hG
   have HNG:=Lib.hid hng
   have HGN:=Lib.hid hGn
   have hrl:=own_lt HR.out
   have hdis:∀x∈blk (.slice A T.length C),x∉blk (.slice A2 ng C2):=fun x hx hc=>by
    have h1:=hrl x hx
    have h2:=own_ge hr2 x hc
    omega
   have hblt:=own_lt hr2
   have HBLT:=Lib.hid hblt
   have HDIS:=Lib.hid hdis
   have HR2:=Lib.hid (CSp.Ints.of_row hr2)
   have HRT:=Lib.hid (own_upd HR.out hu2 (by simp))
   have HU2:=Lib.hid (HU.out.trans hu2)
   clear hG hng hGn hr2 hu2 hc2' hrl hdis hblt
   go_wp2_with fail
   go_loopg [3,24] ng (fun q o i wx=>∃k A3 C3,q+k=ng∧i=.int .i64 (k:Int)∧o=.slice A3 (T++liv S.al (G.take k)).length C3∧CSp.KI.row wx w.heap.size (.slice A3 (T++liv S.al (G.take k)).length C3) (T++liv S.al (G.take k))∧CSp.Ints wx (.slice A2 ng C2) G∧(∀x∈blk (.slice A3 (T++liv S.al (G.take k)).length C3),x∉blk (.slice A2 ng C2))∧Upd [] w wx∧w2.heap.size≤wx.heap.size)
   case atStart=>
    have e:T++liv S.al (G.take 0)=T:=by simp [liv]
    refine ⟨0,A,C,rfl,rfl,by rw [e],?_,HR2.out,?_,HU2.out,Nat.le_refl _⟩
    ·rw [e]
     exact HRT.out
    ·rw [e]
     exact HDIS.out
   case round=>
    obtain ⟨k,A3,C3,hk,rfl,rfl,hr3,hin3,hds3,hu3,hsz3⟩:=hrel
    have hkm:k≤ng:=by omega
    obtain ⟨L,hL⟩:∃L,T++liv S.al (G.take k)=L:=⟨_,rfl⟩
    have hLl:L.length≤S.cs.length+k:=by
     rw [←hL,List.length_append]
     have:=liv_len S.al (G.take k)
     rw [List.length_take] at this
     omega
    rw [hL] at hr3 hds3 ⊢
    have HI3:=Lib.hid hin3
    have HD3:=Lib.hid hds3
    have HS3:=Lib.hid hsz3
    have HK:=Lib.hid hk
    have HL:=Lib.hid hL
    have HR3:=Lib.hid hr3
    have HU3:=Lib.hid hu3
    clear hk hL hr3 hu3 hin3 hds3 hsz3
    by_cases hlt:k<ng
    ·obtain ⟨bb,oo,hA,hy0',hy1',hy2',hy3'⟩:=HI3.out.cell (k:=k) (by rw [HNG.out];exact hlt)
     subst hA
     have hkG:k<G.length:=by rw [HNG.out];exact hlt
     have hst:=liv_step S.al G k hkG
     obtain ⟨y,hy⟩:∃y,G[k]=y:=⟨_,rfl⟩
     have hyn:=HGN.out G[k] (List.getElem_mem _)
     rw [hy] at hy0' hy1' hy2' hy3' hyn hst
     obtain ⟨y1,y2⟩:=y
     dsimp only at hy0' hy1' hy2' hy3' hyn hst
     obtain ⟨qa,hAa,hqa1,_,_,hqas⟩:=own_at HH.out.arow hyn (u:=.bool (S.al[y2])) (by simp [hyn])
     subst hAa
     have hcond:S.al.getD y2 false=S.al[y2]:=by simp [List.getD,hyn]
     obtain ⟨c,hc⟩:∃c,S.al[y2]=c:=⟨_,rfl⟩
     rw [hc] at hqa1 hcond
     rw [hcond] at hst
     have huw:=HU3.out
     have hc4':=(huw.cell (p:=⟨h,4,none⟩) hhw (by simp)).trans hc4
     have hqa1':=(huw.cell (p:=⟨qa,y2,none⟩) hqas (by simp)).trans hqa1
     have hhx:h<wr.heap.size:=Nat.lt_of_lt_of_le hhw huw.size
     have hqx:qa<wr.heap.size:=Nat.lt_of_lt_of_le hqas huw.size
     have HST:=Lib.hid hst
     have HUW:=Lib.hid huw
     clear hy hcond hc hst huw hc4 hqa1
     have b0:(0:Int)≤(k:Int):=Int.natCast_nonneg _
     have b1:(k:Int)<(ng:Int):=by omega
     have b2:(0:Int)≤(y2:Int):=Int.natCast_nonneg _
     have b3:(y2:Int)<(S.al.length:Int):=by omega
     go_upto_region 8 with fail
     obtain ⟨p,hp⟩:∃p,wr.heap.size=p:=⟨_,rfl⟩
     have hua:Upd [] wr (wr.alloc (.cells #[.int .i64 y1.lo,.int .i64 y1.hi,.int .u32 (y1.id:Int),.int .i64 (y2:Int)] 200)):=(Upd.refl _ _).alloc _
     have hp0:(wr.alloc (.cells #[.int .i64 y1.lo,.int .i64 y1.hi,.int .u32 (y1.id:Int),.int .i64 (y2:Int)] 200)).cell? ⟨wr.heap.size,0,none⟩=some (.int .i64 y1.lo):=by rw [World.cell?_alloc_at _ _ _ _ rfl];rfl
     have hp1:(wr.alloc (.cells #[.int .i64 y1.lo,.int .i64 y1.hi,.int .u32 (y1.id:Int),.int .i64 (y2:Int)] 200)).cell? ⟨wr.heap.size,1,none⟩=some (.int .i64 y1.hi):=by rw [World.cell?_alloc_at _ _ _ _ rfl];rfl
     have hp2:(wr.alloc (.cells #[.int .i64 y1.lo,.int .i64 y1.hi,.int .u32 (y1.id:Int),.int .i64 (y2:Int)] 200)).cell? ⟨wr.heap.size,2,none⟩=some (.int .u32 (y1.id:Int)):=by rw [World.cell?_alloc_at _ _ _ _ rfl];rfl
     have hp3:(wr.alloc (.cells #[.int .i64 y1.lo,.int .i64 y1.hi,.int .u32 (y1.id:Int),.int .i64 (y2:Int)] 200)).cell? ⟨wr.heap.size,3,none⟩=some (.int .i64 (y2:Int)):=by rw [World.cell?_alloc_at _ _ _ _ rfl];rfl
     generalize (wr.alloc (.cells #[.int .i64 y1.lo,.int .i64 y1.hi,.int .u32 (y1.id:Int),.int .i64 (y2:Int)] 200))=w4 at *
     have hc4'':=(hua.cell (p:=⟨h,4,none⟩) hhx (by simp)).trans hc4'
     have hqa1'':=(hua.cell (p:=⟨qa,y2,none⟩) hqx (by simp)).trans hqa1'
     rw [hp] at hp0 hp1 hp2 hp3 ⊢
     have HUA:=Lib.hid (HU3.out.trans hua)
     have HR4:=Lib.hid (own_upd HR3.out hua (by simp))
     have HWS:=Lib.hid ((HU3.out.trans hua).size)
     have HI4:=Lib.hid (HI3.out.upd0 hua)
     have HS4:=Lib.hid (Nat.le_trans HS3.out hua.size)
     clear hp hua hc4' hqa1'
     cases c
     ·go_quiet (fail)
      go_wp2_with fail
      go_roundg (ng - (k+1))
      case measure=>have:=HK.out;omega
      case rel=>
       have h9:=HST.out
       rw [if_neg (by simp)] at h9
       refine ⟨k+1,A3,C3,by have:=HK.out;omega,by go_num,by rw [h9,HL.out],?_,HI4.out,?_,HUA.out.drewN _,HS4.out⟩
       ·rw [h9,HL.out]
        exact HR4.out
       ·rw [h9,HL.out]
        exact HD3.out
     ·go_quiet (fail)
      go_wp2_with (at_builtin;refine wpList_app _ rfl _ _ 206 rfl w.heap.size 200 i1 (.agg #[.int .i64 0,.int .i64 0,.int .u32 0,.int .i64 0]) 4 32 Tryz.underlying206 hi1 hy0 hy1 hy2 rfl (by decide) _ _ _ rfl ((own_upd (HR4.out) ((Upd.refl [] w4).drewN nq) (by simp)).alloc _) _ 1 [.int .i64 y1.lo,.int .i64 y1.hi,.int .u32 (y1.id:Int),.int .i64 (y2:Int)] rfl (sees_lit (w4.drewN nq) #[.int .i64 y1.lo,.int .i64 y1.hi,.int .u32 (y1.id:Int),.int .i64 (y2:Int)] 200 4 1 rfl (by decide)) (by simp [Value.oneCell']) (by unfold maxLen;omega) (by omega) (by have:=HWS.out;simp;omega) ?_)
      intro A9 C9 w9 HP9
      have hu49:Upd (blk (.slice A3 L.length C3)) w4 w9:=((Upd.refl _ _).drewN nq).trans' (((Upd.refl _ _).alloc _).trans HP9.upd) (fun x hx=>.inl hx)
      have hup9:Upd [] w w9:=HUA.out.trans' hu49 (fun x hx=>.inr (own_ge HR4.out x hx))
      have hin9:CSp.Ints w9 (.slice (some ⟨bb,oo,none⟩) ng C2) G:=HI4.out.upd hu49 (fun _ x hx _ hc=>HD3.out x hc hx)
      have hds9:∀x∈blk (.slice A9 (L.length+1) C9),x∉blk (.slice (some ⟨bb,oo,none⟩) ng C2):=by
       intro x hx hc
       rcases HP9.at with h' | h'
       ·rw [h'] at hx;exact HD3.out x hx hc
       ·rw [h'] at hx
        simp at hx
        have h1:=HBLT.out x hc
        have h2:=HS4.out
        omega
      have HI9:=Lib.hid hin9
      have HD9:=Lib.hid hds9
      have HS9:=Lib.hid (Nat.le_trans HS4.out hu49.size)
      have hrow9:CSp.KI.row w9 w.heap.size (.slice A9 (L.length+1) C9) (L++[(y1,y2)]):=by
       unfold Kind.row
       rw [Kind.all_app,List.length_append]
       exact HP9.own
      have HU9:=Lib.hid hup9
      have HR9:=Lib.hid hrow9
      clear hup9 hrow9 HP9 hu49 hin9 hds9
      go_wp2_with fail
      go_roundg (ng - (k+1))
      case measure=>have:=HK.out;omega
      case rel=>
       have h9:=HST.out
       rw [if_pos (by simp)] at h9
       refine ⟨k+1,A9,C9,by have:=HK.out;omega,by go_num,by rw [h9,←List.append_assoc,HL.out,List.length_append];rfl,?_,HI9.out,?_,HU9.out,HS9.out⟩
       ·rw [h9,←List.append_assoc,HL.out,List.length_append]
        exact HR9.out
       ·rw [h9,←List.append_assoc,HL.out,List.length_append]
        exact HD9.out
    ·have hst:T++liv S.al (G.take k)=liv S.al (S.cs.take (S.cs.length / 2 ^ m*2 ^ m)):=by
      rw [List.take_of_length_le (by rw [HNG.out];omega),←HT.out,←HG.out,←liv_app,take_step]
     have HST:=Lib.hid hst
     clear hst
     go_wp2_with fail
     go_roundg m
     case measure=>omega
     case rel=>
      rw [←HST.out,HL.out]
      exact ⟨by omega,by go_num,A3,C3,rfl,HR3.out,HU3.out⟩
end Go.Proofs.YtkbaaonchdeneaaGreat.HSp
namespace Go.Proofs.YtkbaaonchdeneaaGreat.HSp
open Go.RowKit
theorem HalfAt.noTrees {w:World} {h cb mb:Nat} {tv av lvv:Value} {ps:List TV} {Fc:List Nat} {Fs:List (List Nat)} {S:HS Sp} (H:HalfAt w h cb mb tv av lvv ps Fc Fs S) :
 HalfAt (w.setCell ⟨h,3,none⟩ (.slice none 0 0)) h cb mb (.slice none 0 0) av lvv [] Fc [] { S with tr:=[] }∧Upd [h] w (w.setCell ⟨h,3,none⟩ (.slice none 0 0)):=by
 have hu:Upd [h] w (w.setCell ⟨h,3,none⟩ (.slice none 0 0)):=(Upd.refl _ _).setCell (p:=⟨h,3,none⟩) (.inl (by simp)) _
 refine ⟨H.trees (hu.mono (by simp)) ?_ (World.ownsRow_nil _ _ _ _) (by simp [blk]) rfl rfl (by simp) (by simp) ?_ (by simp),hu⟩
 ·have:=heap_setCell_same w h 3 _ _ (.slice none 0 0) H.head
  simpa using this
 ·have h0:(parts h Fc tv av lvv mb Fs).Pairwise Disj:=H.apart
  exact h0.sublist (by simp [parts])
theorem anewH (hv:Value) (F:List Nat) (S:HS Sp) (w:World) (H:IsHalf w hv F S) (I:HCore S) (hl:S.cs.length<100000) (hw:S.wk<1099511627776) (hgood:Good (live S.al S.cs)) (hl1:(live S.al S.cs).length≤1000) :
 Calls Tryz.prog 144 #[hv] w fun e w'=>e=.returned (.int .i64 (liv S.al S.cs).length)∧HStep w w' hv F (anewS S):=by
 have HO:=Lib.hid H
 obtain ⟨h,cb,mb,tv,av,lvv,ps,Fc,Fs,rfl,H,hF⟩:=H
 obtain ⟨_,_,hc2,_⟩:=H.cell
 have hhw:h<w.heap.size:=lt_of_block H.head
 have HH:=Lib.hid H
 have HI:=Lib.hid I
 have HF:=Lib.hid hF
 have hhF:h∉Fc:=fun hc=>HH.out.dis (i:=0) (j:=1) rfl rfl (by omega) h (by simp) hc
 have hd2:w.drew.cell? ⟨h,2,none⟩=some (.pointer (some ⟨cb,0,none⟩)):=hc2
 have HGD:=Lib.hid (And.intro hgood hl1)
 clear H I hF hgood hl1
 go_enter Tryz.func144,Tryz.ntmps144
 go_upto_region 1 with fail
 go_region_held3 (fun w'=>w'.cell? ⟨h,2,none⟩=some (.pointer (some ⟨cb,0,none⟩)))
  (first
   |go_keep
   |(exact hd2)
   |(exact (hu1.cell (p:=⟨h,2,none⟩) hhw (by simp)).trans hc2)
   |(obtain ⟨Fc',g1,g2,g3⟩:=hst;exact (g2.cell (p:=⟨h,2,none⟩) (Nat.lt_of_lt_of_le hhw hu1.size) hhF).trans ((hu1.cell (p:=⟨h,2,none⟩) hhw (by simp)).trans hc2)))
  (first
   |(go_at_call 211;refine (cellsH _ _ S _ (HO.out.upd ((Upd.refl [] w).drew) (by simp)) HI.out.lt hl).mono ?_;rintro e w1 ⟨A1,C1,rfl,hr1,hu1⟩)
   |(go_at_call 210;refine (CSp.setI cb Fc _ (liv S.al S.cs) _ _ _ _ (HH.out.car.upd ((Upd.refl [] w).drew.trans hu1) (by simp)) (CSp.Ints.of_row hr1) (fun _ x hx hc=>by have h1:=own_ge hr1 x hx;have h2:=HH.out.car.lt x hc;simp at h1;omega) (by have:=liv_len S.al S.cs;omega) hw).mono ?_;rintro e w2 ⟨rfl,hst⟩))
 obtain ⟨Fc',g1,g2,g3⟩:=hst
 have hup1:Upd [] w w1:=(Upd.refl [] w).drew.trans hu1
 have h1:=(HH.out.upd hup1 (by intro P hP x hx;simp)).carry g1 g2 g3
 obtain ⟨h2,hu2⟩:=h1.noTrees
 obtain ⟨_,_,_,hc3,_,_,_,hfr⟩:=h1.cell
 have hf3:=hfr 3
 have hF:F=(parts h Fc tv av lvv mb Fs).flatten:=HF.out
 have hstep:HStep w (w2.setCell ⟨h,3,none⟩ (.slice none 0 0)) (.pointer (some ⟨h,0,none⟩)) F (anewS0 S):=by
  refine ⟨_,⟨h,cb,mb,_,_,_,_,_,_,rfl,h2,rfl⟩,?_,fun x hx=>?_⟩
  ·have hhin:h∈F:=by rw [hF];exact mem_part (i:=0) (P:=[h]) rfl (by simp)
   refine ((hup1.mono (G:=F) (by simp)).trans' g2 fun x hx=>.inl ?_).trans' hu2 fun x hx=>.inl ?_
   ·rw [hF];exact mem_part (i:=1) rfl hx
   ·simp at hx;rw [hx];exact hhin
  ·obtain ⟨P,hP,hxP⟩:=List.mem_flatten.1 hx
   simp only [parts,List.mem_cons] at hP
   rw [hF]
   rcases hP with rfl | rfl | rfl | rfl | rfl | rfl | hP
   ·exact .inl (mem_part (i:=0) (P:=[h]) rfl hxP)
   ·rcases g3 x hxP with g | g
    ·exact .inl (mem_part (i:=1) rfl g)
    ·exact .inr (Nat.le_trans hup1.size g)
   ·simp [blk] at hxP
   ·exact .inl (mem_part (i:=3) rfl hxP)
   ·exact .inl (mem_part (i:=4) rfl hxP)
   ·exact .inl (mem_part (i:=5) (P:=[mb]) rfl hxP)
   ·simp at hP
 have HST:=Lib.hid hstep
 have H2:=Lib.hid h2
 clear h1 h2 hu2 hfr g1 g2 g3 hstep hr1 hu1 hup1 hF
 have hlv:=liv_len S.al S.cs
 have hbt:=bitsN_le (liv S.al S.cs).length 20 (by omega)
 go_wp2_with fail
 refine (levelsH _ _ h cb mb _ _ _ _ _ _ (anewS0 S) H2.out (Upd.refl _ _)).mono ?_
 rintro e w' ⟨rfl,rfl⟩
 have hcs0:(anewS0 S).cs=liv S.al S.cs:=rfl
 have hal0:(anewS0 S).al=S.al:=rfl
 rw [hcs0]
 have hB:bitsN (liv S.al S.cs).length=bitsN (anewS0 S).cs.length:=rfl
 obtain ⟨B,hBB⟩:∃B,bitsN (liv S.al S.cs).length=B:=⟨_,rfl⟩
 rw [hBB] at hbt hB ⊢
 have HBB:=Lib.hid hBB
 have HB:=Lib.hid hB
 have hcore:=HI.out.anew0
 have HC:=Lib.hid hcore
 clear hcs0 hal0 hB hBB hcore hc3 hf3 hc2 hd2
 go_wp2_with fail
 go_loopg [21] B (fun m i wr=>∃k,m+k=B∧i=.int .i64 (k:Int)∧HStep w wr (.pointer (some ⟨h,0,none⟩)) F (anewTo (anewS0 S) k))
 case atStart=>exact ⟨0,rfl,rfl,HST.out⟩
 case round=>
  obtain ⟨k,hk,rfl,F1,⟨h1,cb1,mb1,tv1,av1,lv1,ps1,Fc1,Fs1,he,H1,hF1e⟩,hu1,hF1⟩:=hrel
  cases he
  have hkB:k≤B:=by omega
  obtain ⟨k1,k2,k3,k4,k5⟩:=anewTo_keep (anewS0 S) k
  obtain ⟨_,_,htl⟩:=anewTo_trees HC.out rfl k (by rw [←HB.out];exact hkB)
  obtain ⟨_,_,hc2,_⟩:=H1.cell
  have hcsl:(anewTo (anewS0 S) k).cs.length≤S.cs.length:=by rw [k1];exact liv_len _ _
  have HK:=Lib.hid hk
  have HH1:=Lib.hid H1
  have HF1E:=Lib.hid hF1e
  have HU1:=Lib.hid hu1
  have HF1:=Lib.hid hF1
  have K1:=Lib.hid k1
  have K2:=Lib.hid k2
  have K5:=Lib.hid k5
  clear hk H1 hF1e hu1 hF1 k1 k2 k3 k4 k5
  by_cases hlt:k<B
  ·go_wp2_with fail
   refine (bucketH _ _ h cb1 mb1 _ _ _ _ _ _ _ HH1.out (Upd.refl _ _) k (by rw [K1.out,←HB.out];exact hlt) (by omega)).mono ?_
   rintro e w3 ⟨A3,C3,rfl,hr3,hu3⟩
   have hst:=anewTo_succ (anewS0 S) k
   unfold anewStep at hst
   have hgd:Good (live (anewTo (anewS0 S) k).al (bucketOf (anewTo (anewS0 S) k).cs k))∧(live (anewTo (anewS0 S) k).al (bucketOf (anewTo (anewS0 S) k).cs k)).length≤1000:=by
    have hsub:(live (anewTo (anewS0 S) k).al (bucketOf (anewTo (anewS0 S) k).cs k)).Sublist (live S.al S.cs):=by
     rw [K1.out,K2.out]
     unfold live
     refine List.Sublist.map _ ?_
     have h1:(bucketOf (liv S.al S.cs) k).Sublist (liv S.al S.cs):=by
      unfold bucketOf
      split
      ·exact (List.take_sublist _ _).trans (List.drop_sublist _ _)
      ·exact List.nil_sublist _
     exact List.filter_sublist.trans h1
    exact ⟨HGD.out.1.sub hsub,Nat.le_trans hsub.length_le HGD.out.2⟩
   have hbm:∀y∈bucketOf (anewTo (anewS0 S) k).cs k,y.2<(anewTo (anewS0 S) k).al.length:=fun y hy=>by
    rw [K2.out]
    exact HC.out.lt y (by rw [←K1.out];exact bucket_mem hy)
   have hbl:(bucketOf (anewTo (anewS0 S) k).cs k).length≤(anewTo (anewS0 S) k).cs.length:=by
    rw [bucketOf_len]
    split
    ·rename_i hb
     exact Nat.ge_two_pow_of_testBit hb
    ·omega
   obtain ⟨G,hG⟩:∃G,bucketOf (anewTo (anewS0 S) k).cs k=G:=⟨_,rfl⟩
   rw [hG] at hr3 hst hbm hbl hgd ⊢
   have HGK:=Lib.hid hgd
   clear hgd
   obtain ⟨ng,hng⟩:∃ng,G.length=ng:=⟨_,rfl⟩
   rw [hng] at hr3 hbl ⊢
   have HNG:=Lib.hid hng
   have HSTT:=Lib.hid hst
   have HBM:=Lib.hid hbm
   have hH3:HStep w w3 (.pointer (some ⟨h,0,none⟩)) F (anewTo (anewS0 S) k):=(HStep.quiet ⟨F1,⟨h,cb1,mb1,tv1,av1,lv1,ps1,Fc1,Fs1,rfl,HH1.out,HF1E.out⟩,HU1.out,HF1.out⟩ hu3)
   have hI3:IsHalf w3 (.pointer (some ⟨h,0,none⟩)) F1 (anewTo (anewS0 S) k):=IsHalf.upd ⟨h,cb1,mb1,tv1,av1,lv1,ps1,Fc1,Fs1,rfl,HH1.out,HF1E.out⟩ hu3 (by simp)
   have hdis:∀x∈blk (.slice A3 ng C3),x∉F1:=fun x hx hc=>by
    have g1:=own_ge hr3 x hx
    have g2:=IsHalf.lt (w:=wr) (hv:=.pointer (some ⟨h,0,none⟩)) ⟨h,cb1,mb1,tv1,av1,lv1,ps1,Fc1,Fs1,rfl,HH1.out,HF1E.out⟩ x hc
    omega
   have HH3:=Lib.hid hH3
   have HI3:=Lib.hid hI3
   have HR3:=Lib.hid hr3
   have HD:=Lib.hid hdis
   have HU3:=Lib.hid (HU1.out.trans' hu3 (by simp))
   have HSZ:=Lib.hid hu3.size
   clear hng hst hbm hH3 hI3 hr3 hdis hu3 hG hc2
   by_cases hpos:0<ng
   ·go_wp2_with fail
    refine (fillH _ F1 _ k (.slice A3 ng C3) G w3 HI3.out (by have:=CSp.Ints.of_row HR3.out;exact this) (fun _ x hx=>HD.out x hx) (by omega) (by omega) HBM.out (by rw [K5.out,K2.out];exact HC.out.lvl) (by rw [HNG.out];omega) HGK.out.1 HGK.out.2).mono ?_
    rintro e w4 ⟨rfl,hst4⟩
    have h4:HStep w w4 (.pointer (some ⟨h,0,none⟩)) F (anewTo (anewS0 S) (k+1)):=by
     have e:(if G.isEmpty then anewTo (anewS0 S) k else fillS (anewTo (anewS0 S) k) k G)=fillS (anewTo (anewS0 S) k) k G:=by
      rw [if_neg]
      intro hc
      have:G = []:=by simpa using hc
      have:=HNG.out
      simp_all
     rw [HSTT.out,e]
     exact HStep.next HU3.out (fun x hx=>(HF1.out x hx)) hst4
    have HH4:=Lib.hid h4
    clear h4 hst4
    go_wp2_with fail
    go_roundg (B - (k+1))
    case measure=>have:=HK.out;omega
    case rel=>exact ⟨k+1,by have:=HK.out;omega,by go_num,HH4.out⟩
   ·go_wp2_with fail
    go_roundg (B - (k+1))
    case measure=>have:=HK.out;omega
    case rel=>
     refine ⟨k+1,by have:=HK.out;omega,by go_num,?_⟩
     have:G = []:=List.eq_nil_of_length_eq_zero (by rw [HNG.out];omega)
     rw [HSTT.out,this]
     exact HH3.out
  ·have hkB':k=B:=by omega
   have HKB:=Lib.hid hkB'
   clear hkB'
   go_wp2_with fail
   go_ret
   refine ⟨rfl,F1,⟨h,cb1,mb1,tv1,av1,lv1,ps1,Fc1,Fs1,rfl,?_,HF1E.out⟩,HU1.out,HF1.out⟩
   have:=HH1.out
   unfold anewS
   rw [HBB.out,←HKB.out]
   exact this
end Go.Proofs.YtkbaaonchdeneaaGreat.HSp
namespace Go.Proofs.YtkbaaonchdeneaaGreat.HSp
open Go.RowKit
def idxF (cs:List (Sp×Nat)) (m:Nat):List Nat:=((List.range' m (bitsN cs.length - m)).reverse).filter fun i=>!(bucketOf cs i).isEmpty
def idxA (cs:List (Sp×Nat)):List Nat:=idxF cs 0
theorem idxF_top (cs:List (Sp×Nat)):idxF cs (bitsN cs.length) = []:=by simp [idxF]
theorem idxF_step (cs:List (Sp×Nat)) (m:Nat) (h:m<bitsN cs.length):idxF cs m=if (bucketOf cs m).isEmpty then idxF cs (m+1) else idxF cs (m+1)++[m]:=by
 unfold idxF
 rw [show bitsN cs.length - m=(bitsN cs.length - (m+1))+1 by omega,List.range'_succ,List.reverse_cons,List.filter_append]
 by_cases he:(bucketOf cs m).isEmpty=true
 ·rw [if_pos he];simp [he]
 ·rw [if_neg he];simp [he]
theorem idxF_len (cs:List (Sp×Nat)) (m:Nat):(idxF cs m).length≤bitsN cs.length:=by
 unfold idxF
 refine Nat.le_trans (List.length_filter_le _ _) ?_
 simp
theorem treesH (hv:Value) (F:List Nat) (S:HS Sp) (w:World) (H:IsHalf w hv F S) (I:HInv S) (hl:S.cs.length<100000) :
 Calls Tryz.prog 145 #[hv] w fun e w'=>∃A C ts,e=.returned (.slice A (idxA S.cs).length C)∧ts.length=(idxA S.cs).length∧KT.row w' w.heap.size (.slice A (idxA S.cs).length C) ts∧Upd [] w w'∧
  ∀(j i:Nat),(idxA S.cs)[j]? = some i→∃p N G,ts[j]? = some p∧IsTr w' p (N,live S.al (bucketOf S.cs i)) G∧N≤(bucketOf S.cs i).length∧∀x∈G,x∈F:=by
 obtain ⟨i0,hi0,hz0,hz1,hz2⟩:=info_parts info_tree
 have HO:=Lib.hid H
 obtain ⟨h,cb,mb,tv,av,lvv,ps,Fc,Fs,rfl,H,hF⟩:=H
 obtain ⟨_,_,hc2,hc3,_⟩:=H.cell
 obtain ⟨At,Ct,htv⟩:∃A C,tv=.slice A ps.length C:=own_form H.trow
 subst htv
 have hhw:h<w.heap.size:=lt_of_block H.head
 have hbt:=bitsN_le S.cs.length 20 (by omega)
 have hpl:ps.length≤20:=by rw [H.plen];exact I.trl
 obtain ⟨B,hB⟩:∃B,bitsN S.cs.length=B:=⟨_,rfl⟩
 obtain ⟨np,hnp⟩:∃np,ps.length=np:=⟨_,rfl⟩
 rw [hB] at hbt
 rw [hnp] at hc3 hpl
 have HB:=Lib.hid hB
 have HNP:=Lib.hid hnp
 have HH:=Lib.hid H
 have HI:=Lib.hid I
 have HF:=Lib.hid hF
 have hbag:∀i,i<B→bucketOf S.cs i≠[]→i<np∧∃p N G,ps[i]? = some p∧IsTr w p (N,live S.al (bucketOf S.cs i)) G∧N≤(bucketOf S.cs i).length∧∀x∈G,x∈F:=by
  intro i hi hne
  obtain ⟨N,hN,ht⟩:=I.trees i (by rw [hB];exact hi) hne
  obtain ⟨p,G,h1,h2,h3⟩:=H.yes i _ ht
  refine ⟨by rw [←hnp];exact (List.getElem?_eq_some_iff.1 h1).1,p,N,G,h1,h3,hN,fun x hx=>?_⟩
  rw [hF]
  exact mem_part (i:=i+6) (by simpa [parts] using h2) hx
 have HBAG:=Lib.hid hbag
 clear hB H I hF hbag hnp
 go_enter Tryz.func145,Tryz.ntmps145
 go_wp2_with fail
 refine (noneH _ _ _ _ HO.out).mono ?_
 rintro e w' ⟨rfl,rfl⟩
 go_wp2_with fail
 refine (levelsH w w h cb mb _ _ _ _ _ _ S HH.out (Upd.refl _ _)).mono ?_
 rintro e w' ⟨rfl,rfl⟩
 rw [HB.out]
 go_wp2_with fail
 go_loopg [3,4] B (fun m o i wr=>m≤B∧i=.int .i64 ((m:Int) - 1)∧∃A C ts,o=.slice A (idxF S.cs m).length C∧ts.length=(idxF S.cs m).length∧KT.row wr w.heap.size (.slice A (idxF S.cs m).length C) ts∧Upd [] w wr∧
  ∀(j i:Nat),(idxF S.cs m)[j]? = some i→∃p N G,ts[j]? = some p∧IsTr w p (N,live S.al (bucketOf S.cs i)) G∧N≤(bucketOf S.cs i).length∧∀x∈G,x∈F)
 case atStart=>
  have e:=idxF_top S.cs
  rw [HB.out] at e
  refine ⟨Nat.le_refl _,rfl,none,0,[],by rw [e];rfl,by rw [e];rfl,by rw [e];exact World.ownsRow_nil _ _ _ _,Upd.refl _ _,?_⟩
  rw [e];simp
 case round=>
  obtain ⟨hm,rfl,A,C,ts,rfl,htl,hrow,hu,hts⟩:=hrel
  have hix:=idxF_len S.cs gk
  rw [HB.out] at hix
  obtain ⟨T,hT⟩:∃T,idxF S.cs gk=T:=⟨_,rfl⟩
  rw [hT] at hrow hts hix htl ⊢
  obtain ⟨nt,hnt⟩:∃nt,T.length=nt:=⟨_,rfl⟩
  rw [hnt] at hrow hix htl ⊢
  have hrow':=hrow
  unfold Kind.row at hrow'
  rw [htl] at hrow'
  have HTL:=Lib.hid htl
  have HR:=Lib.hid hrow'
  have HRK:=Lib.hid hrow
  have HU:=Lib.hid hu
  have HT:=Lib.hid hT
  have HNT:=Lib.hid hnt
  have HTS:=Lib.hid hts
  clear hT hrow hrow' hu hts hnt htl
  by_cases h0:gk=0
  ·subst h0
   go_wp2_with fail
   go_ret
   have hTT:T=idxA S.cs:=HT.out.symm
   subst hTT
   rw [HNT.out]
   refine ⟨A,C,ts,rfl,HTL.out,HRK.out,HU.out,fun j i hj=>?_⟩
   obtain ⟨p,N,G,h1,h2,h3⟩:=HTS.out j i hj
   exact ⟨p,N,G,h1,h2.upd HU.out (by simp),h3⟩
  ·obtain ⟨m,rfl⟩:∃m,gk=m+1:=⟨gk - 1,by omega⟩
   have e8:(((m+1:Nat):Int) - 1)=(m:Int):=by omega
   rw [e8]
   clear e8
   have hc2':=(HU.out.cell (p:=⟨h,2,none⟩) hhw (by simp)).trans hc2
   go_wp2_with fail
   refine (bucketH w wr h cb mb _ _ _ _ _ _ S HH.out HU.out m (by rw [HB.out];omega) (by omega)).mono ?_
   rintro e w2 ⟨A2,C2,rfl,hr2,hu2⟩
   have hst:=idxF_step S.cs m (by rw [HB.out];omega)
   have hbg:=HBAG.out m (by omega)
   obtain ⟨G,hG⟩:∃G,bucketOf S.cs m=G:=⟨_,rfl⟩
   have hGl:G.length≤S.cs.length:=by
    rw [←hG,bucketOf_len]
    split
    ·rename_i hb
     exact Nat.ge_two_pow_of_testBit hb
    ·omega
   rw [hG] at hr2 hst hbg ⊢
   obtain ⟨ng,hng⟩:∃ng,G.length=ng:=⟨_,rfl⟩
   rw [hng] at hr2 hGl ⊢
   have HG:=Lib.hid hG
   have HNG:=Lib.hid hng
   have HU2:=Lib.hid (HU.out.trans hu2)
   have HR2:=Lib.hid (own_upd HR.out hu2 (by simp))
   have HRK2:=Lib.hid (own_upd HRK.out hu2 (by simp))
   have HST:=Lib.hid hst
   have HBG:=Lib.hid hbg
   clear hG hng hr2 hu2 hc2' hst hbg
   by_cases hpos:0<ng
   ·have hne:G≠[]:=fun e=>by have:=HNG.out;rw [e] at this;simp at this;omega
    obtain ⟨hmn,⟨p1,p2⟩,N,Gp,hp1,hp2,hp3⟩:=HBG.out hne
    obtain ⟨q,hA,hq1,hq2,_,hqs⟩:=tree_at HH.out.trow hp1
    subst hA
    have hc3':=(HU2.out.cell (p:=⟨h,3,none⟩) hhw (by simp)).trans hc3
    have hq1':=(HU2.out.cell (p:=⟨q,m*2,none⟩) hqs (by simp)).trans hq1
    have hq2':=(HU2.out.cell (p:=⟨q,m*2+1,none⟩) hqs (by simp)).trans hq2
    obtain ⟨tb,vb,hpe⟩:∃tb vb,(p1,p2)=(some tb,some vb):=hp2.some
    cases hpe
    unfold tp at hq1'
    unfold tq at hq2'
    simp only [Option.map_some] at hq1' hq2'
    have b0:(0:Int)≤(m:Int):=Int.natCast_nonneg _
    have b1:(m:Int)<(np:Int):=by omega
    have HP1:=Lib.hid hp1
    have HBB:=Lib.hid hp2
    have HP3:=Lib.hid hp3
    have HWS:=Lib.hid HU2.out.size
    clear hp1 hq1 hq2 hp2 hp3
    go_wp2_with (at_builtin;refine wpList_app _ rfl _ _ 129 rfl w.heap.size 125 i0 (.agg #[.pointer none,.pointer none]) 2 16 Tryz.underlying129 hi0 hz0 hz1 hz2 rfl (by decide) _ _ _ rfl ((HR2.out).alloc _) _ 1 [.pointer (some ⟨tb,0,none⟩),.pointer (some ⟨vb,0,none⟩)] rfl (sees_lit w2 #[.pointer (some ⟨tb,0,none⟩),.pointer (some ⟨vb,0,none⟩)] 125 2 1 rfl (by decide)) (by simp [Value.oneCell']) (by unfold maxLen;omega) (by omega) (by have:=HWS.out;simp;omega) ?_)
    intro A9 C9 w9 HP9
    have hu9:Upd [] w w9:=HU2.out.trans' (((Upd.refl _ _).alloc _).trans HP9.upd) (fun x hx=>.inr (own_ge HR2.out x hx))
    have hr9:=HP9.own
    have hnew:idxF S.cs m=T++[m]:=by
     rw [HST.out,if_neg (by simpa using hne),HT.out]
    have HU9:=Lib.hid hu9
    have HR9:=Lib.hid hr9
    have HNEW:=Lib.hid hnew
    clear hu9 hr9 hnew HP9
    go_wp2_with fail
    go_roundg m
    case measure=>omega
    case rel=>
     have hlen:(ts++[(some tb,some vb)]).length=nt+1:=by rw [List.length_append,HTL.out];rfl
     refine ⟨by omega,by go_num,A9,C9,ts++[(some tb,some vb)],by rw [HNEW.out,List.length_append,HNT.out];rfl,by rw [hlen,HNEW.out,List.length_append,HNT.out];rfl,?_,HU9.out,?_⟩
     ·rw [HNEW.out,List.length_append,HNT.out]
      unfold Kind.row
      rw [hlen,Kind.all_app]
      exact HR9.out
     ·intro j i hj
      rw [HNEW.out] at hj
      have htl:ts.length=T.length:=by rw [HTL.out,HNT.out]
      rcases Nat.lt_or_ge j T.length with g | g
      ·rw [List.getElem?_append_left g] at hj
       rw [List.getElem?_append_left (by rw [htl];exact g)]
       exact HTS.out j i hj
      ·rw [List.getElem?_append_right g] at hj
       rw [List.getElem?_append_right (by rw [htl];exact g),htl]
       rcases Nat.eq_zero_or_pos (j - T.length) with g0 | g0
       ·rw [g0] at hj ⊢
        simp at hj
        subst hj
        rw [HG.out]
        exact ⟨_,N,_,rfl,HBB.out,HP3.out⟩
       ·rw [List.getElem?_eq_none (by simp;omega)] at hj;cases hj
   ·have hnew:idxF S.cs m=T:=by
     have:G = []:=List.eq_nil_of_length_eq_zero (by rw [HNG.out];omega)
     rw [HST.out,this,HT.out];simp
    have HNEW:=Lib.hid hnew
    clear hnew
    go_wp2_with fail
    go_roundg m
    case measure=>omega
    case rel=>
     refine ⟨by omega,by go_num,A,C,ts,by rw [HNEW.out,HNT.out],by rw [HNEW.out,HNT.out];exact HTL.out,?_,HU2.out,?_⟩
     ·rw [HNEW.out,HNT.out];exact HRK2.out
     ·rw [HNEW.out];exact HTS.out
end Go.Proofs.YtkbaaonchdeneaaGreat.HSp
