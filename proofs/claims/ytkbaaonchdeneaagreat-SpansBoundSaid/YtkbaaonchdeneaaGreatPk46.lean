/- names' anew. Printed by genNmH.py. -/
import Derived.Deep.DrawnRows
import Derived.Test.YtkbaaonchdeneaaGreatPk45
import Derived.Test.YtkbaaonchdeneaaGreatPk6
import Derived.Test.YtkbaaonchdeneaaGreatPk19
set_option maxHeartbeats 8000000
set_option maxRecDepth 100000
namespace Go.Proofs.YtkbaaonchdeneaaGreat.Nm
open Go.RowKit
attribute [local go_sem ↓] Go.wp_at_zero Go.wp_at_succ
theorem rows_push {α:Type} {K:Kind α} {w w1:World} {v u:Value} {vs:List Value} {ll:List (List α)} {l:List α} (h:RowsAt K w v vs ll) (hrow:K.row w 0 u l) (hap:∀k∈blk u,k∉rfoot v vs) {o:Obj} {A:Option Addr} {C:Nat}
 (HP:AppPost (w.alloc o) w1 0 K.sT 1 v vs.length vs 1 [u] A C) :
 RowsAt K w1 (.slice A (vs.length+1) C) (vs++[u]) (ll++[l])∧∀k∈rfoot (.slice A (vs.length+1) C) (vs++[u]),k∈rfoot v vs∨k∈blk u∨w.heap.size≤k:=by
 have hu:Upd (blk v) w w1:=((Upd.refl _ _).alloc _).trans HP.upd
 have hget:∀(i:Nat) (t:Value),(vs++[u])[i]? = some t→vs[i]? = some t∨(i=vs.length∧t=u):=by
  intro i t hv
  rw [List.getElem?_append] at hv
  split at hv
  ·exact .inl hv
  ·rename_i hge
   have hl:=(List.getElem?_eq_some_iff.1 hv).1
   simp at hl
   have e:i=vs.length:=by omega
   subst e
   simp at hv
   exact .inr ⟨rfl,hv.symm⟩
 have hnew:∀k,k∈blk (.slice A (vs.length+1) C)→k∈blk v∨w.heap.size<k:=by
  intro k hk
  rcases HP.at with hb | hb
  ·rw [hb] at hk;exact .inl hk
  ·rw [hb] at hk;simp at hk;right;omega
 have hlt:=h.lt
 have hlu:=own_lt hrow
 have hua:∀k∈blk u,k∉blk v:=fun k hk hc=>hap k hk (mem_rfoot.2 (.inl hc))
 refine ⟨⟨by simpa using HP.own,by simp [h.len],?_,?_,?_⟩,?_⟩
 ·intro i t l' hv hl
  rcases hget i t hv with hv' | ⟨rfl,rfl⟩
  ·have hi:=get_lt hv'
   rw [List.getElem?_append_left (by rw [←h.len];exact hi)] at hl
   exact own_upd (h.rows i t l' hv' hl) hu fun k hk=>h.away i t k hv' hk
  ·rw [h.len,List.getElem?_append_right (Nat.le_refl _),Nat.sub_self] at hl
   simp at hl
   subst hl
   exact own_upd hrow hu hua
 ·intro i t k hv hk hc
  rcases hget i t hv with hv2 | ⟨e1,e2⟩
  ·rcases hnew k hc with h1 | h1
   ·exact h.away i t k hv2 hk h1
   ·have:=hlt k (mem_rfoot.2 (.inr ⟨i,t,hv2,hk⟩));omega
  ·rw [e2] at hk
   rcases hnew k hc with h1 | h1
   ·exact hua k hk h1
   ·have:=hlu k hk;omega
 ·intro i j t s k hv ht hk hk'
  rcases hget i t hv with hv2 | ⟨e1,e2⟩
  ·rcases hget j s ht with ht2 | ⟨e3,e4⟩
   ·exact h.apart i j t s k hv2 ht2 hk hk'
   ·rw [e4] at hk'
    exact (hap k hk' (mem_rfoot.2 (.inr ⟨i,t,hv2,hk⟩))).elim
  ·rcases hget j s ht with ht2 | ⟨e3,e4⟩
   ·rw [e2] at hk
    exact (hap k hk (mem_rfoot.2 (.inr ⟨j,s,ht2,hk'⟩))).elim
   ·rw [e1,e3]
 ·intro k hk
  rw [mem_rfoot] at hk
  rcases hk with hk | ⟨i,t,hv,hk⟩
  ·rcases hnew k hk with h1 | h1
   ·exact .inl (mem_rfoot.2 (.inl h1))
   ·right;right;omega
  ·rcases hget i t hv with hv | ⟨rfl,rfl⟩
   ·exact .inl (mem_rfoot.2 (.inr ⟨i,t,hv,hk⟩))
   ·exact .inr (.inl hk)
theorem liv_lenE (al:List Bool) (b:List (Nat×Nat)):(liv al b).length≤b.length:=List.length_filter_le _ _
theorem liv_stepE (al:List Bool) (b:List (Nat×Nat)) (k:Nat) (hk:k<b.length):liv al (b.take (k+1))=if al.getD b[k].2 false then liv al (b.take k)++[b[k]] else liv al (b.take k):=by
 unfold liv
 rw [List.take_succ_eq_append_getElem hk,List.filter_append]
 split
 ·rename_i h;simp only [List.filter_cons,h,if_true,List.filter_nil]
 ·rename_i h;simp only [List.filter_cons,h,Bool.false_eq_true,if_false,List.filter_nil,List.append_nil]
theorem info_rowsE:(Tryz.prog.info? 187).map (fun i=>(i.zero,i.size,i.bytes))=some (some (.slice none 0 0),1,24):=by kernel_rfl
def anewN (S:NS):NS:={ S with cs:=liv S.al S.cs,wk:=S.wk+(liv S.al S.cs).length }
theorem levelsN {w w2:World} {q cb:Nat} {vb vp va:Value} {vs:List Value} {bk:List (List (Nat×Nat))} {Fc:List Nat} {S:NS} (H:NmAt w q cb vb vp va vs bk Fc S) (hu:Upd [] w w2) :
 Calls Tryz.prog 198 #[.pointer (some ⟨cb,0,none⟩)] w2 fun e w'=>e=.returned (.int .i64 (bitsN S.cs.length:Nat))∧w2=w':=by
 have:=CEn.levelsI cb Fc (setB S.cs) S.cs.length S.wk w2 (H.car.upd hu (by simp))
 rwa [setB_len] at this
theorem bucketN {w w2:World} {q cb:Nat} {vb vp va:Value} {vs:List Value} {bk:List (List (Nat×Nat))} {Fc:List Nat} {S:NS} (H:NmAt w q cb vb vp va vs bk Fc S) (hu:Upd [] w w2) (i:Nat) (hi:i<bitsN S.cs.length) (hl:S.cs.length<1000000) :
 Calls Tryz.prog 199 #[.pointer (some ⟨cb,0,none⟩),.int .i64 i] w2 fun e w'=>∃A C,e=.returned (.slice A (bucketOf S.cs i).length C)∧CEn.KI.row w' w2.heap.size (.slice A (bucketOf S.cs i).length C) (bucketOf S.cs i)∧Upd [] w2 w':=by
 have hb:(bucketOf S.cs i).length<1000000:=by
  rw [bucketOf_len]
  split
  ·rename_i hb
   have:=Nat.ge_two_pow_of_testBit hb
   omega
  ·omega
 exact CEn.bucketI_in cb Fc i _ (setB S.cs) S.cs.length S.wk w2 (H.car.upd hu (by simp)) (setB_get S.cs i hi) hb
theorem anewC {w:World} {q cb:Nat} {vb vp va:Value} {vs:List Value} {bk:List (List (Nat×Nat))} {Fc:List Nat} {S:NS} (H:NmAt w q cb vb vp va vs bk Fc S) (hn:∀y∈S.cs,y.2<S.al.length) (hl:S.cs.length<90000) (hw:S.wk<549755813888) :
 Calls Tryz.prog 131 #[.pointer (some ⟨q,0,none⟩)] w fun e w'=>e=.returned (.tuple #[])∧NmStep w w' (.pointer (some ⟨q,0,none⟩)) (parts q Fc vb vs vp va).flatten (anewN S):=by
 obtain ⟨i1,hi1,hy0,hy1,hy2⟩:=info_parts CEn.info_int64
 obtain ⟨i0,hi0,hz0,hz1,hz2⟩:=info_parts info_rowsE
 obtain ⟨hc0,_,_,hc3,_⟩:=H.cell
 obtain ⟨Aa,Ca,hav⟩:∃A C,va=.slice A S.al.length C:=own_form H.arow
 subst hav
 have hhw:q<w.heap.size:=H.head.lt
 have hbt:=bitsN_le S.cs.length 20 (by omega)
 obtain ⟨B,hB⟩:∃B,bitsN S.cs.length=B:=⟨_,rfl⟩
 rw [hB] at hbt
 have HB:=Lib.hid hB
 have HH:=Lib.hid H
 have HN:=Lib.hid hn
 clear hB H hn
 go_enter Tryz.func131,Tryz.ntmps131
 go_wp2_with fail
 refine (levelsN HH.out (Upd.refl _ _)).mono ?_
 rintro e w' ⟨rfl,rfl⟩
 rw [HB.out]
 go_upto_block 0 with fail
 go_cut [2] (fun s2 wc=>∃A C,s2=.slice A (liv S.al S.cs).length C∧CEn.KI.row wc w.heap.size (.slice A (liv S.al S.cs).length C) (liv S.al S.cs)∧Upd [] w wc)
 case first=>
  go_wp2_with fail
  go_loopg [2,3] B (fun m o i wr=>m≤B∧i=.int .i64 ((m:Int) - 1)∧∃A C,o=.slice A (liv S.al (S.cs.take (S.cs.length / 2 ^ m*2 ^ m))).length C∧CEn.KI.row wr w.heap.size (.slice A (liv S.al (S.cs.take (S.cs.length / 2 ^ m*2 ^ m))).length C) (liv S.al (S.cs.take (S.cs.length / 2 ^ m*2 ^ m)))∧Upd [] w wr)
  case atStart=>
   have h2:S.cs.length / 2 ^ B*2 ^ B=0:=by rw [←HB.out,Nat.div_eq_of_lt (bitsN_lt S.cs.length),Nat.zero_mul]
   refine ⟨Nat.le_refl _,rfl,none,0,by rw [h2];rfl,?_,Upd.refl _ _⟩
   rw [h2,List.take_zero]
   exact World.ownsRow_nil _ _ _ _
  case round=>
   obtain ⟨hm,rfl,A,C,rfl,hrow,hu⟩:=hrel
   obtain ⟨T,hT⟩:∃T,liv S.al (S.cs.take (S.cs.length / 2 ^ gk*2 ^ gk))=T:=⟨_,rfl⟩
   have hTl:T.length≤S.cs.length:=by
    rw [←hT]
    exact Nat.le_trans (liv_lenE _ _) (by rw [List.length_take];omega)
   rw [hT] at hrow ⊢
   have HR:=Lib.hid hrow
   have HU:=Lib.hid hu
   have HT:=Lib.hid hT
   clear hT hrow hu
   by_cases h0:gk=0
   ·subst h0
    go_wp2_with fail
    go_meet
    case rel=>
     have hTT:T=liv S.al S.cs:=by rw [←HT.out];simp
     subst hTT
     exact ⟨A,C,rfl,HR.out,HU.out⟩
   ·obtain ⟨m,rfl⟩:∃m,gk=m+1:=⟨gk - 1,by omega⟩
    have e8:(((m+1:Nat):Int) - 1)=(m:Int):=by omega
    rw [e8]
    clear e8
    have hc2':=(HU.out.cell (p:=⟨q,0,none⟩) hhw (by simp)).trans hc0
    go_wp2_with fail
    refine (bucketN HH.out HU.out m (by rw [HB.out];omega) (by omega)).mono ?_
    rintro e w2 ⟨A2,C2,rfl,hr2,hu2⟩
    obtain ⟨G,hG⟩:∃G,bucketOf S.cs m=G:=⟨_,rfl⟩
    have hGl:G.length≤S.cs.length:=by
     rw [←hG,bucketOf_len]
     split
     ·rename_i hb
      exact Nat.ge_two_pow_of_testBit hb
     ·omega
    have hGn:∀y∈G,y.2<S.al.length:=fun y hy=>HN.out y (bucket_mem (by rw [hG];exact hy))
    rw [hG] at hr2 ⊢
    obtain ⟨ng,hng⟩:∃ng,G.length=ng:=⟨_,rfl⟩
    rw [hng] at hr2 hGl ⊢
    have HG:=Lib.hid hG
    have HNG:=Lib.hid hng
    have HGN:=Lib.hid hGn
    have hrl:=own_lt HR.out
    have hdis:∀x∈blk (.slice A T.length C),x∉blk (.slice A2 ng C2):=fun x hx hc=>by
     have h1:=hrl x hx
     have h2:=own_ge hr2 x hc
     omega
    have hblt:=own_lt hr2
    have HBLT:=Lib.hid hblt
    have HDIS:=Lib.hid hdis
    have HR2:=Lib.hid (CEn.Ints.of_row hr2)
    have HRT:=Lib.hid (own_upd HR.out hu2 (by simp))
    have HU2:=Lib.hid (HU.out.trans hu2)
    clear hG hng hGn hr2 hu2 hc2' hrl hdis hblt
    go_wp2_with fail
    go_loopg [2,24] ng (fun g o i wx=>∃k A3 C3,g+k=ng∧i=.int .i64 (k:Int)∧o=.slice A3 (T++liv S.al (G.take k)).length C3∧CEn.KI.row wx w.heap.size (.slice A3 (T++liv S.al (G.take k)).length C3) (T++liv S.al (G.take k))∧CEn.Ints wx (.slice A2 ng C2) G∧(∀x∈blk (.slice A3 (T++liv S.al (G.take k)).length C3),x∉blk (.slice A2 ng C2))∧Upd [] w wx∧w2.heap.size≤wx.heap.size)
    case atStart=>
     have e:T++liv S.al (G.take 0)=T:=by simp [liv]
     refine ⟨0,A,C,rfl,rfl,by rw [e],?_,HR2.out,?_,HU2.out,Nat.le_refl _⟩
     ·rw [e]
      exact HRT.out
     ·rw [e]
      exact HDIS.out
    case round=>
     obtain ⟨k,A3,C3,hk,rfl,rfl,hr3,hin3,hds3,hu3,hsz3⟩:=hrel
     have hkm:k≤ng:=by omega
     obtain ⟨L,hL⟩:∃L,T++liv S.al (G.take k)=L:=⟨_,rfl⟩
     have hLl:L.length≤S.cs.length+k:=by
      rw [←hL,List.length_append]
      have:=liv_lenE S.al (G.take k)
      rw [List.length_take] at this
      omega
     rw [hL] at hr3 hds3 ⊢
     have HI3:=Lib.hid hin3
     have HD3:=Lib.hid hds3
     have HS3:=Lib.hid hsz3
     have HK:=Lib.hid hk
     have HL:=Lib.hid hL
     have HR3:=Lib.hid hr3
     have HU3:=Lib.hid hu3
     clear hk hL hr3 hu3 hin3 hds3 hsz3
     by_cases hlt:k<ng
     ·obtain ⟨bb,oo,hA,hy0',hy1'⟩:=HI3.out.cell (k:=k) (by rw [HNG.out];exact hlt)
      subst hA
      have hkG:k<G.length:=by rw [HNG.out];exact hlt
      have hst:=liv_stepE S.al G k hkG
      obtain ⟨y,hy⟩:∃y,G[k]=y:=⟨_,rfl⟩
      have hyn:=HGN.out G[k] (List.getElem_mem _)
      rw [hy] at hy0' hy1' hyn hst
      obtain ⟨y1,y2⟩:=y
      dsimp only at hy0' hy1' hyn hst
      obtain ⟨qa,hAa,hqa1,_,hqas⟩:=own_at HH.out.arow hyn (u:=.bool (S.al[y2])) (by simp [hyn])
      subst hAa
      have hcond:S.al.getD y2 false=S.al[y2]:=by simp [List.getD,hyn]
      obtain ⟨c,hc⟩:∃c,S.al[y2]=c:=⟨_,rfl⟩
      rw [hc] at hqa1 hcond
      rw [hcond] at hst
      have huw:=HU3.out
      have hc4':=(huw.cell (p:=⟨q,3,none⟩) hhw (by simp)).trans hc3
      have hqa1':=(huw.cell (p:=⟨qa,y2,none⟩) hqas (by simp)).trans hqa1
      have hhx:q<wr.heap.size:=Nat.lt_of_lt_of_le hhw huw.size
      have hqx:qa<wr.heap.size:=Nat.lt_of_lt_of_le hqas huw.size
      have HST:=Lib.hid hst
      have HUW:=Lib.hid huw
      clear hy hcond hc hst huw hc3 hqa1
      have b0:(0:Int)≤(k:Int):=Int.natCast_nonneg _
      have b1:(k:Int)<(ng:Int):=by omega
      have b2:(0:Int)≤(y2:Int):=Int.natCast_nonneg _
      have b3:(y2:Int)<(S.al.length:Int):=by omega
      go_upto_region 7 with fail
      obtain ⟨p,hp⟩:∃p,wr.heap.size=p:=⟨_,rfl⟩
      have hua:Upd [] wr (wr.alloc (.cells #[.int .u32 (y1:Int),.int .i64 (y2:Int)] 172)):=(Upd.refl _ _).alloc _
      have hp0:(wr.alloc (.cells #[.int .u32 (y1:Int),.int .i64 (y2:Int)] 172)).cell? ⟨wr.heap.size,0,none⟩=some (.int .u32 (y1:Int)):=by rw [World.cell?_alloc_at _ _ _ _ rfl];rfl
      have hp1:(wr.alloc (.cells #[.int .u32 (y1:Int),.int .i64 (y2:Int)] 172)).cell? ⟨wr.heap.size,1,none⟩=some (.int .i64 (y2:Int)):=by rw [World.cell?_alloc_at _ _ _ _ rfl];rfl
      generalize (wr.alloc (.cells #[.int .u32 (y1:Int),.int .i64 (y2:Int)] 172))=w4 at *
      have hc4'':=(hua.cell (p:=⟨q,3,none⟩) hhx (by simp)).trans hc4'
      have hqa1'':=(hua.cell (p:=⟨qa,y2,none⟩) hqx (by simp)).trans hqa1'
      rw [hp] at hp0 hp1 ⊢
      have HUA:=Lib.hid (HU3.out.trans hua)
      have HR4:=Lib.hid (own_upd HR3.out hua (by simp))
      have HWS:=Lib.hid ((HU3.out.trans hua).size)
      have HI4:=Lib.hid (HI3.out.upd0 hua)
      have HS4:=Lib.hid (Nat.le_trans HS3.out hua.size)
      clear hp hua hc4' hqa1'
      cases c
      ·go_quiet (fail)
       go_wp2_with fail
       go_roundg (ng - (k+1))
       case measure=>have:=HK.out;omega
       case rel=>
        have h9:=HST.out
        rw [if_neg (by simp)] at h9
        refine ⟨k+1,A3,C3,by have:=HK.out;omega,by go_num,by rw [h9,HL.out],?_,HI4.out,?_,HUA.out.drewN _,HS4.out⟩
        ·rw [h9,HL.out]
         exact HR4.out
        ·rw [h9,HL.out]
         exact HD3.out
      ·go_quiet (fail)
       go_wp2_with (at_builtin;refine wpList_app _ rfl _ _ 187 rfl w.heap.size 172 i1 (.agg #[.int .u32 0,.int .i64 0]) 2 16 Tryz.underlying187 hi1 hy0 hy1 hy2 rfl (by decide) _ _ _ rfl ((own_upd (HR4.out) ((Upd.refl [] w4).drewN nq) (by simp)).alloc _) _ 1 [.int .u32 (y1:Int),.int .i64 (y2:Int)] rfl (sees_lit (w4.drewN nq) #[.int .u32 (y1:Int),.int .i64 (y2:Int)] 172 2 1 rfl (by decide)) (by simp [Value.oneCell']) (by unfold maxLen;omega) (by omega) (by have:=HWS.out;simp;omega) ?_)
       intro A9 C9 w9 HP9
       have hu49:Upd (blk (.slice A3 L.length C3)) w4 w9:=((Upd.refl _ _).drewN nq).trans' (((Upd.refl _ _).alloc _).trans HP9.upd) (fun x hx=>.inl hx)
       have hup9:Upd [] w w9:=HUA.out.trans' hu49 (fun x hx=>.inr (own_ge HR4.out x hx))
       have hin9:CEn.Ints w9 (.slice (some ⟨bb,oo,none⟩) ng C2) G:=HI4.out.upd hu49 (fun _ x hx _ hc=>HD3.out x hc hx)
       have hds9:∀x∈blk (.slice A9 (L.length+1) C9),x∉blk (.slice (some ⟨bb,oo,none⟩) ng C2):=by
        intro x hx hc
        rcases HP9.at with h' | h'
        ·rw [h'] at hx;exact HD3.out x hx hc
        ·rw [h'] at hx
         simp at hx
         have h1:=HBLT.out x hc
         have h2:=HS4.out
         omega
       have HI9:=Lib.hid hin9
       have HD9:=Lib.hid hds9
       have HS9:=Lib.hid (Nat.le_trans HS4.out hu49.size)
       have hrow9:CEn.KI.row w9 w.heap.size (.slice A9 (L.length+1) C9) (L++[(y1,y2)]):=by
        unfold Kind.row
        rw [Kind.all_app,List.length_append]
        exact HP9.own
       have HU9:=Lib.hid hup9
       have HR9:=Lib.hid hrow9
       clear hup9 hrow9 HP9 hu49 hin9 hds9
       go_wp2_with fail
       go_roundg (ng - (k+1))
       case measure=>have:=HK.out;omega
       case rel=>
        have h9:=HST.out
        rw [if_pos (by simp)] at h9
        refine ⟨k+1,A9,C9,by have:=HK.out;omega,by go_num,by rw [h9,←List.append_assoc,HL.out,List.length_append];rfl,?_,HI9.out,?_,HU9.out,HS9.out⟩
        ·rw [h9,←List.append_assoc,HL.out,List.length_append]
         exact HR9.out
        ·rw [h9,←List.append_assoc,HL.out,List.length_append]
         exact HD9.out
     ·have hkn:k=ng:=by omega
      have hout:T++liv S.al G=liv S.al (S.cs.take (S.cs.length / 2 ^ m*2 ^ m)):=by
       rw [←HT.out,←take_step S.cs m,HG.out]
       unfold liv
       rw [List.filter_append]
      have hLL:L=liv S.al (S.cs.take (S.cs.length / 2 ^ m*2 ^ m)):=by
       rw [←hout,←HL.out,hkn,←HNG.out,List.take_length]
      have HLL:=Lib.hid hLL
      clear hout hLL
      go_wp2_with fail
      go_roundg m
      case measure=>omega
      case rel=>exact ⟨by omega,rfl,A3,C3,by rw [HLL.out],by rw [←HLL.out];exact HR3.out,HU3.out⟩
 case rest=>
  obtain ⟨A,C,rfl,hrow,hu⟩:=hcut
  obtain ⟨wc1,hwc⟩:∃W:World,W=wc:=⟨_,rfl⟩
  subst hwc
  obtain ⟨cs',hcs⟩:∃cs',liv S.al S.cs=cs':=⟨_,rfl⟩
  have hcl:cs'.length≤S.cs.length:=by rw [←hcs];exact liv_lenE _ _
  rw [hcs] at hrow ⊢
  have H1:=HH.out.upd0 hu
  have hltP:=HH.out.lt
  have hF:∀x∈Fc,x∉blk (.slice A cs'.length C):=fun x hx hc=>by
   have h1:=own_ge hrow x hc
   have h2:=hltP Fc (by simp [parts]) x hx
   omega
  have HSET:=Lib.hid (CEn.setI cb Fc (.slice A cs'.length C) cs' _ _ _ wc1 H1.car (sees_of_own hrow) (fun _ x hx hc=>hF x hc hx) (by omega) (by omega))
  have hd0:=(hu.cell (p:=⟨q,0,none⟩) hhw (by simp)).trans hc0
  have HU1:=Lib.hid hu
  have HH1:=Lib.hid H1
  have HCS:=Lib.hid hcs
  clear hc0 hc3 hF hltP H1 hrow hu hcs
  go_wp2_with fail
  (with_reducible refine HSET.out.mono ?_)
  rintro e w2 ⟨rfl,Fc2,g1,g2,g3⟩
  have hq1:q∉Fc:=fun hc=>HH1.out.dis (i:=0) (j:=1) rfl rfl (by omega) q (by simp) hc
  have hhw1:q<wc1.heap.size:=HH1.out.head.lt
  have H2:=HH1.out.carry (cs:=cs') g1 g2 g3
  have hhw2:q<w2.heap.size:=H2.head.lt
  have hh2:=H2.head.set 1 (.slice none 0 0)
  have hh2':HcC (w2.setCell ⟨q,1,none⟩ (.slice none 0 0)) q #[.pointer (some ⟨cb,0,none⟩),.slice none 0 0,vp,.slice Aa S.al.length Ca,.int .i64 (S.n:Int)] 175:=by simpa using hh2
  have hus2:Upd [q] w2 (w2.setCell ⟨q,1,none⟩ (.slice none 0 0)):=(Upd.refl _ _).setCell (p:=⟨q,1,none⟩) (.inl (by simp)) _
  have H3:=H2.bks (vb':=.slice none 0 0) (vs':=[]) (bk':=[]) (hus2.mono (by intro x hx;simp at hx;left;simp [hx])) hh2' RowsAt.nil (by simp [rfoot,blk])
  have hst3:NStep w (w2.setCell ⟨q,1,none⟩ (.slice none 0 0)) q cb (parts q Fc vb vs vp (.slice Aa S.al.length Ca)).flatten [] { S with cs:=cs',wk:=S.wk+cs'.length }:=by
   refine ⟨_,_,_,_,_,H3,?_,?_⟩
   ·refine (HU1.out.mono (by simp)).trans ((g2.mono (fun x hx=>.inl (mem_part (i:=1) rfl hx))).trans (hus2.mono (fun x hx=>.inl (mem_part (i:=0) (P:=[q]) rfl hx))))
   ·intro x hx
    simp [parts,rfoot,blk] at hx
    rcases hx with rfl | hx | hx | hx
    ·exact .inl (mem_part (i:=0) (P:=[x]) rfl (by simp))
    ·rcases g3 x hx with g | g
     ·exact .inl (mem_part (i:=1) rfl g)
     ·exact .inr (Nat.le_trans HU1.out.size g)
    ·exact .inl (mem_part (i:=3) rfl (by simpa [blk] using hx))
    ·exact .inl (mem_part (i:=4) rfl (by simpa [blk] using hx))
  have HST3:=Lib.hid hst3
  have hd1:=H2.head.cell 1
  have hf1:=H2.head.frozen 1
  have hd0:(w2.setCell ⟨q,1,none⟩ (.slice none 0 0)).cell? ⟨q,0,none⟩=some (.pointer (some ⟨cb,0,none⟩)):=H3.head.cell 0
  have HH3:=Lib.hid H3
  obtain ⟨B2,hB2⟩:∃B2,bitsN cs'.length=B2:=⟨_,rfl⟩
  have hbt2:B2≤20:=by rw [←hB2];exact bitsN_le cs'.length 20 (by omega)
  have HB2:=Lib.hid hB2
  clear hst3 g1 g2 g3 H2 H3 hh2 hh2' hus2 hB2
  go_upto_region 12 with fail
  generalize (w2.setCell ⟨q,1,none⟩ (.slice none 0 0))=w3 at HST3 HH3 hd0 ⊢
  go_wp2_with fail
  refine (levelsN HH3.out (Upd.refl _ _)).mono ?_
  rintro e w' ⟨rfl,rfl⟩
  rw [HB2.out]
  go_wp2_with fail
  go_loopg [55] B2 (fun m i wr=>∃(k:Nat) (bk':List (List (Nat×Nat))),m+k=B2∧i=.int .i64 (k:Int)∧bk'.length=k∧(∀(i:Nat) (l:List (Nat×Nat)),bk'[i]? = some l→l.Perm (bucketOf cs' i)∧l.Pairwise fun a b=>a.1≤b.1)∧NStep w wr q cb (parts q Fc vb vs vp (.slice Aa S.al.length Ca)).flatten bk' { S with cs:=cs',wk:=S.wk+cs'.length })
  case atStart=>exact ⟨0,[],by omega,rfl,rfl,by simp,HST3.out⟩
  case round=>
   obtain ⟨k,bk',hk,rfl,hkl,hks,vb1,vp1,va1,vs1,Fc1,H1,hu1,hF1⟩:=hrel
   have b0:(0:Int)≤(k:Int):=Int.natCast_nonneg _
   by_cases hlt:k<B2
   ·have hlt2:(k:Int)<(B2:Int):=by omega
    obtain ⟨c0,c1,-,-,-,cf⟩:=H1.cell
    obtain ⟨A1,C1,hvb1⟩:=own_form H1.rows.list
    subst hvb1
    have hqr:q<wr.heap.size:=H1.head.lt
    have hqv:q∉blk (.slice A1 vs1.length C1):=fun hc=>H1.dis (i:=0) (j:=2) rfl rfl (by omega) q (by simp) (mem_rfoot.2 (.inl hc))
    obtain ⟨n1,hn1⟩:∃n1,vs1.length=n1:=⟨_,rfl⟩
    have hn1b:n1≤20:=by rw [←hn1,H1.rows.len,hkl];omega
    obtain ⟨l,hl'⟩:∃l,bucketOf cs' k=l:=⟨_,rfl⟩
    have hll:l.length<90000:=by
     rw [←hl',bucketOf_len]
     split
     ·rename_i hb
      have:=Nat.ge_two_pow_of_testBit hb
      omega
     ·omega
    have hbk:∀w2,Upd [] wr w2→Calls Tryz.prog 199 #[.pointer (some ⟨cb,0,none⟩),.int .i64 (k:Int)] w2 fun e w'=>∃A C,e=.returned (.slice A l.length C)∧CEn.KI.row w' w2.heap.size (.slice A l.length C) l∧Upd [] w2 w':=by
     intro w2 hu2
     have:=bucketN H1 hu2 k (by show k<bitsN cs'.length;rw [HB2.out];exact hlt) (by show cs'.length<_;omega)
     have e:bucketOf ({ S with cs:=cs',wk:=S.wk+cs'.length }:NS).cs k=l:=hl'
     rwa [e] at this
    have HBK:=Lib.hid hbk
    have HR1:=Lib.hid H1
    have HU1':=Lib.hid hu1
    have HF1:=Lib.hid hF1
    have HK:=Lib.hid (And.intro hk (And.intro hkl (And.intro hks hl')))
    have HN1:=Lib.hid hn1
    obtain ⟨vb1,hvb⟩:∃v,Value.slice A1 vs1.length C1=v:=⟨_,rfl⟩
    have HVB:=Lib.hid hvb
    rw [hn1] at c1 hqv
    clear H1 hu1 hF1 hk hkl hks hl' hbk hvb hd1 hf1 hd0
    go_upto_region 15 with fail
    refine GoT.start [13,14,15,16] (fun w'=>Upd [] wr w') (by kernel_rfl) ?_ fun hS=>?_
    ·exact (Upd.refl _ _).drew
    refine' GoT.mv (i:=0) (oi:=⟨some 58,_,_,_,_,_⟩) rfl (by rfl) ?y15_0 ?_
    case y15_0=>intro w;go_simp<;>with_reducible rfl
    simp only [Act.put,sA,sZ,sS]
    refine' GoT.mv (i:=1) (oi:=⟨some 59,_,_,_,_,_⟩) rfl (by rfl) ?y15_1 ?_
    case y15_1=>intro w;go_simp<;>with_reducible rfl
    simp only [Act.put,sA,sZ,sS]
    refine' GoT.mv (i:=2) (oi:=⟨some 60,_,_,_,_,_⟩) rfl (by rfl) ?y15_2 ?_
    case y15_2=>intro w;go_simp<;>with_reducible rfl
    simp only [Act.put,sA,sZ,sS]
    refine' GoT.mv (i:=3) (oi:=⟨some 61,_,_,_,_,_⟩) rfl (by rfl) ?y15_3 ?_
    case y15_3=>intro w;go_simp<;>with_reducible rfl
    simp only [Act.put,sA,sZ,sS]
    refine' GoT.tk 3 (i:=4) (oi:=⟨some 62,_,_,_,_,_⟩) rfl (by rfl) ?y15_4 ?_
    case y15_4=>intro w hSw;have e9:=(hSw.cell (p:=⟨q,1,none⟩) hqr (by simp)).trans c1;go_simp<;>with_reducible rfl
    simp only [Act.put,sA,sZ,sS]
    refine' GoT.mv (i:=5) (oi:=⟨some 63,_,_,_,_,_⟩) rfl (by rfl) ?y15_5 ?_
    case y15_5=>intro w;go_simp<;>with_reducible rfl
    simp only [Act.put,sA,sZ,sS]
    refine' GoT.mv (i:=6) (oi:=⟨some 64,_,_,_,_,_⟩) rfl (by rfl) ?y15_6 ?_
    case y15_6=>intro w;go_simp<;>with_reducible rfl
    simp only [Act.put,sA,sZ,sS]
    refine' GoT.mv (i:=7) (oi:=⟨some 65,_,_,_,_,_⟩) rfl (by rfl) ?y15_7 ?_
    case y15_7=>intro w;go_simp<;>with_reducible rfl
    simp only [Act.put,sA,sZ,sS]
    refine' GoT.tk 3 (i:=8) (oi:=⟨some 66,_,_,_,_,_⟩) rfl (by rfl) ?y15_8 ?_
    case y15_8=>intro w hSw;have e9:=(hSw.cell (p:=⟨q,0,none⟩) hqr (by simp)).trans c0;go_simp<;>with_reducible rfl
    simp only [Act.put,sA,sZ,sS]
    refine' GoT.mv (i:=9) (oi:=⟨some 67,_,_,_,_,_⟩) rfl (by rfl) ?y15_9 ?_
    case y15_9=>intro w;go_simp<;>with_reducible rfl
    simp only [Act.put,sA,sZ,sS]
    refine GoT.one (i:=10) (o:=⟨some 68,_,_,_,_,_⟩) rfl (by kernel_rfl) fun K hK=>?_
    go_simp
    go_at_call 199
    (with_reducible refine (HBK.out _ hS).mono ?_)
    rintro e wA ⟨AA,CA,rfl,rA,uA⟩
    have HA:=Lib.hid (And.intro rA uA)
    have HAR:=Lib.hid (hS.size)
    clear rA uA
    refine hK.out _ _ (fun _ h=>?_) ?_
    ·exact h.trans HA.out.2
    clear hK K
    try simp only [Act.put,sA,sZ,sS]
    refine GoT.one (i:=11) (o:=⟨some 69,_,_,_,_,_⟩) rfl (by kernel_rfl) fun K hK=>?_
    go_simp
    go_at_call 127
    (with_reducible refine (sortedC _ _ _ _ HA.out.1 (by omega)).mono ?_)
    rintro e wB ⟨rfl,uB,lB,pB,sB,rB⟩
    have HUB:=Lib.hid ((hS.trans HA.out.2).trans' uB (fun y hy=>.inr (Nat.le_trans HAR.out (own_ge HA.out.1 y hy))))
    have HSB:=Lib.hid (And.intro pB (And.intro sB rB))
    clear uB pB sB rB
    refine hK.out _ _ (fun _ h=>?_) ?_
    ·exact HUB.out
    clear hK K
    try simp only [Act.put,sA,sZ,sS]
    refine GoT.one (i:=12) (o:=⟨some 70,_,_,_,_,_⟩) rfl (by kernel_rfl) fun K hK=>?_
    go_simp
    refine hK.out _ _ (fun _ h=>?_) ?_
    ·exact h.alloc _
    clear hK K
    try simp only [Act.put,sA,sZ,sS]
    refine GoT.one (i:=13) (o:=⟨some 71,_,_,_,_,_⟩) rfl (by kernel_rfl) fun K hK=>?_
    rw [if_pos (by simp [Region.wanted])]
    refine wp_app _ _ _ 173 (by rfl) 0 187 i0 (.slice none 0 0) 1 24 Tryz.underlying173 hi0 hz0 hz1 hz2 rfl (by decide) (.slice A1 n1 C1) n1 vs1 (by rfl) ((own_upd (by have:=HR1.out.rows.list;rwa [HN1.out] at this) HUB.out (by simp)).alloc _) _ 1 [.slice AA l.length CA] (by rfl) (sees_lit wB #[.slice AA l.length CA] 187 1 1 rfl (by decide)) (by simp [Value.oneCell']) (by unfold maxLen;omega) (by omega) (Nat.zero_le _) ?_
    intro A2 C2 w1 HP
    have hqB:q<wB.heap.size:=Nat.lt_of_lt_of_le hqr HUB.out.size
    have hst1:w1.cell? ⟨q,1,none⟩=some (.slice A1 n1 C1):=by
     rw [(HP.upd).cell (p:=⟨q,1,none⟩) (by simp;omega) hqv,World.cell?_alloc_past _ _ _ hqB,HUB.out.cell (p:=⟨q,1,none⟩) hqr (by simp)]
     exact c1
    have hst2:w1.frozen? ⟨q,1,none⟩=false:=by
     rw [(HP.upd).frozen (p:=⟨q,1,none⟩) (by simp;omega) hqv,World.frozen?_alloc_past _ _ _ hqB,HUB.out.frozen (p:=⟨q,1,none⟩) hqr (by simp)]
     exact cf 1
    refine hK.out _ _ (fun h=>(by cases h)) ?_
    clear hK K
    try simp only [Act.put,sA,sZ,sS]
    refine' GoT.mv (i:=14) (oi:=⟨some 72,_,_,_,_,_⟩) rfl (by rfl) ?y15_14 ?_
    case y15_14=>intro w;go_simp<;>with_reducible rfl
    simp only [Act.put,sA,sZ,sS]
    refine' GoT.mv (i:=15) (oi:=⟨some 73,_,_,_,_,_⟩) rfl (by rfl) ?y15_15 ?_
    case y15_15=>intro w;go_simp<;>with_reducible rfl
    simp only [Act.put,sA,sZ,sS]
    refine GoT.one (i:=16) (o:=⟨none,_,_,_,_,_⟩) rfl (by kernel_rfl) fun K hK=>?_
    go_simp
    refine hK.out _ _ (fun h=>(by cases h)) ?_
    clear hK K
    try simp only [Act.put,sA,sZ,sS]
    refine GoT.done (by kernel_rfl) ?_
    have hrowB:=own_base HSB.out.2.2 (Nat.zero_le _)
    have hapB:∀x∈blk (.slice AA l.length CA),x∉rfoot (.slice A1 vs1.length C1) vs1:=fun x hx hc=>by
     have h1:=own_ge HSB.out.2.2 x hx
     have h2:=HR1.out.rows.lt x hc
     have h3:=HAR.out
     omega
    have hpush:=rows_push (HR1.out.rows.upd HUB.out (by simp)) hrowB hapB (by rw [HN1.out];exact HP)
    have hHP:=HP.upd
    have HPU:=Lib.hid (And.intro hpush hHP)
    clear hpush HP hHP hrowB hapB hst1 hst2
    go_wp2_with fail
    go_roundg (B2 - (k+1))
    case measure=>have:=HK.out.1;omega
    case rel=>
     obtain ⟨k1,k2,k3,k4⟩:=HK.out
     obtain ⟨⟨p1,p2⟩,p3⟩:=HPU.out
     rw [HN1.out] at p1 p2
     have hqb:q∉rfoot (.slice A1 vs1.length C1) vs1:=fun hc=>HR1.out.dis (i:=0) (j:=2) rfl rfl (by omega) q (by simp) hc
     have hu1:Upd (rfoot (.slice A1 vs1.length C1) vs1) wr w1:=(HUB.out.mono (by simp)).trans' (((Upd.refl _ _).alloc _).trans p3) (fun x hx=>.inl (by rw [HN1.out];exact mem_rfoot.2 (.inl hx)))
     have hh1:=(HR1.out.head.upd hu1 hqb).set 1 (.slice A2 (n1+1) C2)
     have hus:Upd [q] w1 (w1.setCell ⟨q,1,none⟩ (.slice A2 (n1+1) C2)):=(Upd.refl _ _).setCell (p:=⟨q,1,none⟩) (.inl (by simp)) _
     have hnq:∀x∈rfoot (.slice A2 (n1+1) C2) (vs1++[.slice AA l.length CA]),x∉[q]:=by
      intro x hx hc
      simp at hc
      subst hc
      rcases p2 x hx with g | g | g
      ·exact hqb (by rw [HN1.out];exact g)
      ·have h1:=own_ge HSB.out.2.2 x g;have h3:=HAR.out;omega
      ·have:=HUB.out.size;omega
     have hbks:=HR1.out.bks (vb':=.slice A2 (n1+1) C2) (vs':=vs1++[.slice AA l.length CA]) (bk':=bk'++[_]) (w':=w1.setCell ⟨q,1,none⟩ (.slice A2 (n1+1) C2)) ((hu1.mono (by intro x hx;left;simp [hx])).trans (hus.mono (by intro x hx;left;simp at hx;simp [hx])))
      (by simpa using hh1) (p1.upd hus hnq) ?_
     ·refine ⟨k+1,bk'++[_],by omega,by go_num,by simp [k2],?_,NStep.then HF1.out HU1'.out hbks ?_ ?_⟩
      ·intro i l' hi
       rw [List.getElem?_append] at hi
       split at hi
       ·exact k3 i l' hi
       ·have hlt3:=(List.getElem?_eq_some_iff.1 hi).1
        simp at hlt3
        have e:i=k:=by omega
        subst e
        rw [k2,Nat.sub_self] at hi
        simp at hi
        subst hi
        rw [k4]
        exact ⟨HSB.out.1,HSB.out.2.1⟩
      ·exact (hu1.mono (fun x hx=>.inl (mem_part (i:=2) rfl hx))).trans (hus.mono (fun x hx=>.inl (mem_part (i:=0) (P:=[q]) rfl hx)))
      ·intro x hx
       have e:parts q Fc1 (.slice A2 (n1+1) C2) (vs1++[.slice AA l.length CA]) vp1 va1=(parts q Fc1 (.slice A1 vs1.length C1) vs1 vp1 va1).set 2 (rfoot (.slice A2 (n1+1) C2) (vs1++[.slice AA l.length CA])):=rfl
       rw [e] at hx
       rcases flat_set hx with g | g
       ·exact .inl g
       ·rcases p2 x g with g | g | g
        ·exact .inl (mem_part (i:=2) rfl (by rw [HN1.out];exact g))
        ·exact .inr (Nat.le_trans HAR.out (own_ge HSB.out.2.2 x g))
        ·exact .inr (Nat.le_trans HUB.out.size g)
     ·intro x hx
      rcases p2 x hx with g | g | g
      ·exact .inl (by rw [HN1.out];exact g)
      ·exact .inr (Nat.le_trans HAR.out (own_ge HSB.out.2.2 x g))
      ·exact .inr (Nat.le_trans HUB.out.size g)
   ·have hkB:k=B2:=by omega
    have HK:=Lib.hid (And.intro hkl (And.intro hks hkB))
    have HS1:=Lib.hid (⟨vb1,vp1,va1,vs1,Fc1,H1,hu1,hF1⟩:NStep w wr q cb (parts q Fc vb vs vp (.slice Aa S.al.length Ca)).flatten bk' { S with cs:=cs',wk:=S.wk+cs'.length })
    clear H1 hu1 hF1 hkl hks hk hkB hd1 hf1 hd0
    go_wp2_with fail
    go_end0
    have e:anewN S={ S with cs:=cs',wk:=S.wk+cs'.length }:=by unfold anewN;rw [HCS.out]
    rw [e]
    refine ⟨rfl,NStep.is HS1.out ?_⟩
    obtain ⟨h1,h2,h3⟩:=HK.out
    refine ⟨by rw [setB_len];show bk'.length=bitsN cs'.length;rw [HB2.out,h1,h3],fun i l m hl' hm=>?_⟩
    have hi:=(List.getElem?_eq_some_iff.1 hl').1
    have hg:=setB_get cs' i (by rw [HB2.out];omega)
    have hm':(setB cs')[i]? = some m:=hm
    rw [hg] at hm'
    cases hm'
    exact h2 i l hl'
end Go.Proofs.YtkbaaonchdeneaaGreat.Nm
