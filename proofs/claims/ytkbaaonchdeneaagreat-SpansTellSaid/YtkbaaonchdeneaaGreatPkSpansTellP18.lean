/- The law SpansTell: the walk. Printed by genST.py. -/
import Derived.IntWalk
import Derived.Test.YtkbaaonchdeneaaGreatPkSpansTellP14
import Derived.Test.YtkbaaonchdeneaaGreatPkSpansTellP17
import Derived.Test.YtkbaaonchdeneaaGreatPk19
set_option maxHeartbeats 16000000
set_option maxRecDepth 100000
namespace Go.Proofs.YtkbaaonchdeneaaGreat.PSp
open Go.RowKit
open Go.Proofs.YtkbaaonchdeneaaGreat.Ps
theorem neSpT (s:Sp) (w:World):(binOp .neq 62 (.agg #[.int .i64 s.lo,.int .i64 s.hi,.int .u32 (s.id:Int)]) (.agg #[.int .i64 s.lo,.int .i64 s.hi,.int .u32 (s.id:Int)])).run Tryz.prog w=.ok (.bool false) w:=by
 rw [run_neq_struct,run_equalIn_agg _ _ _ _ _ (by kernel_rfl) (by kernel_rfl)]
 go_simp
theorem neZT (w:World):(binOp .neq 62 (.agg #[.int .i64 0,.int .i64 0,.int .u32 0]) (.agg #[.int .i64 0,.int .i64 0,.int .u32 0])).run Tryz.prog w=.ok (.bool false) w:=by
 rw [run_neq_struct,run_equalIn_agg _ _ _ _ _ (by kernel_rfl) (by kernel_rfl)]
 go_simp
abbrev opCells (o:OpS):Array Value:=#[.int .u8 (o.u:Int),.int .i64 o.s.lo,.int .i64 o.s.hi,.int .u32 (o.s.id:Int),.int .i64 o.lo,.int .i64 o.hi]
structure TellW (w0 w1 w:World) (tv:Value) (S:PSS) (F:List Nat) (vo:Value) (qx:Nat) (o:OpS):Prop where
 held:Held w0 w tv S F
 row:KSp.row w w1.heap.size vo (lvs S)
 off:∀x∈blk vo,x∉F
 op:HcC w qx (opCells o) 72
theorem Held.other {w0 w w':World} {tv:Value} {S:PSS} {F H:List Nat} (h:Held w0 w tv S F) (hu:Upd H w w') (hH:∀x∈H,w0.heap.size≤x∧x∉F):Held w0 w' tv S F:=
 ⟨h.is.upd hu (fun x hx hc=>(hH x hc).2 hx),h.inv,h.good,h.new,h.upd.trans' hu (fun x hx=>.inr (hH x hx).1)⟩
theorem spansTell_walk (v:Value) (l:List OpS) (w:World) (h:IsOpS w v l) (hl:l.length≤9223372036854775807) (hin:∀o∈l,o.in64) :
 Calls Tryz.prog 7 #[v] w fun e w'=>e=.returned (.bool true)∧Upd [] w w':=by
 obtain ⟨n,hn⟩:∃n,min l.length 100=n:=⟨_,rfl⟩
 have hmn:Value.int .i64 (min (l.length:Int) 100)=Value.int .i64 (n:Int):=by rw [←hn];congr 1;omega
 obtain ⟨A1,C1,hrun1,hs1⟩:=opS_cut h n (by omega)
 obtain ⟨Ao,Co,rfl⟩:=h.form
 obtain ⟨i1,hz1,hy0,hy1,hy2⟩:=info_parts infoSpanD
 have hin1:∀o∈l.take n,o.in64:=fun o ho=>hin o (List.mem_of_mem_take ho)
 have hln:(l.take n).length=n:=by rw [List.length_take];omega
 have hn100:n≤100:=by omega
 generalize l.take n=os at hs1 hin1 hln
 have HS:=Lib.hid hs1
 have HIN:=Lib.hid hin1
 have HLN:=Lib.hid hln
 have HA:=Lib.hid (fun w=>awake24 w)
 clear h hin hs1 hin1 hln hn
 go_enter Tryz.func7,Tryz.ntmps7
 go_wp2_with fail
 (with_reducible refine (newP w).mono ?_)
 rintro e w1 ⟨tv,F0,rfl,h0,hn0,hu0⟩
 obtain ⟨q,hq⟩:∃q,tv=.pointer (some ⟨q,0,none⟩):=by obtain ⟨q,_,_,_,_,_,e,-⟩:=h0;exact ⟨q,e⟩
 subst hq
 have H0:=Lib.hid (⟨h0,inv0P,good0,hn0,hu0⟩:Held w w1 (.pointer (some ⟨q,0,none⟩)) P0 F0)
 clear h0 hn0 hu0
 go_wp2_with fail
 go_loopg [4,27] n (fun g s4 i wr=>∃(k:Nat) (S:PSS) (F:List Nat) (vo:Value),vo=s4∧g+k=n∧i=.int .i64 (k:Int)∧Held w wr (.pointer (some ⟨q,0,none⟩)) S F∧S.t≤k∧KSp.row wr w1.heap.size vo (lvs S)∧(∀x∈blk vo,x∉F)∧w1.heap.size≤wr.heap.size)
 case atStart=>exact ⟨0,P0,F0,_,rfl,rfl,rfl,H0.out,Nat.le_refl _,World.ownsRow_nil _ _ _ _,by simp [blk],Nat.le_refl _⟩
 case round=>
  obtain ⟨k,S,F,vo,hvo,hk,rfl,hH,ht,hrow,hoff,hsz⟩:=hrel
  subst hvo
  have k0:(0:Int)≤(k:Int):=Int.natCast_nonneg _
  have hkn:k≤n:=by omega
  have HK:=Lib.hid hk
  clear hk
  by_cases hlt:k<n
  ·obtain ⟨o,ho⟩:∃o,os[k]? = some o:=⟨_,List.getElem?_eq_getElem (by rw [HLN.out];exact hlt)⟩
   have hoi:o.in64:=HIN.out o (List.mem_of_getElem? ho)
   obtain ⟨g,og,hA,-,-,ey⟩:=(HS.out.upd0 hH.upd).at ho
   cases hA
   have y0:wr.cell? ⟨g,og+k*6,none⟩=some (.int .u8 (o.u:Int)):=ey 0 _ rfl
   have y1:wr.cell? ⟨g,og+k*6+1,none⟩=some (.int .i64 o.s.lo):=ey 1 _ rfl
   have y2:wr.cell? ⟨g,og+k*6+2,none⟩=some (.int .i64 o.s.hi):=ey 2 _ rfl
   have y3:wr.cell? ⟨g,og+k*6+3,none⟩=some (.int .u32 (o.s.id:Int)):=ey 3 _ rfl
   have y4:wr.cell? ⟨g,og+k*6+4,none⟩=some (.int .i64 o.lo):=ey 4 _ rfl
   have y5:wr.cell? ⟨g,og+k*6+5,none⟩=some (.int .i64 o.hi):=ey 5 _ rfl
   have b1:(k:Int)<(n:Int):=by omega
   have hnm:((lvs S).map Sp.id).Nodup:=hH.inv.names
   have hlv:=lvs_le hH.inv
   obtain ⟨r,hr2⟩:∃r,o.u % 2=r:=⟨_,rfl⟩
   have hr3:r<2:=by rw [←hr2];exact Nat.mod_lt _ (by decide)
   have tm:(o.u:Int).tmod 2=(r:Int):=by rw [←hr2];rfl
   have o8:(o.u:Int)<256:=by have:=hoi.1;omega
   have o0:(0:Int)≤(o.u:Int):=Int.natCast_nonneg _
   have hFl:=hH.is.lt
   go_upto_region 6 with fail
   obtain ⟨Wx,hWx,hux,hqx⟩:=one_newC wr (opCells o) 72
   unfold opCells at hWx
   rw [←hWx]
   obtain ⟨qx,hqq⟩:∃k,wr.heap.size=k:=⟨_,rfl⟩
   rw [hqq] at hqx ⊢
   have z3:Wx.cell? ⟨qx,3,none⟩=some (.int .u32 (o.s.id:Int)):=hqx.cell 3
   have hqF:qx∉F:=fun hc=>by have:=hFl qx hc;omega
   have hfi:=refFind vo (lvs S) o.s.id Wx (See.of_row (own_upd hrow hux (by simp))) (by omega)
   obtain ⟨Av,Cv,hvo⟩:=own_form hrow
   have HROW0:=Lib.hid (own_upd hrow hux (by simp))
   have HH0:=Lib.hid (hH.quiet hux)
   have HOFF0:=Lib.hid hoff
   have HQX0:=Lib.hid hqx
   have HQF:=Lib.hid hqF
   have HNM:=Lib.hid hnm
   have HHT:=Lib.hid (And.intro ht hlv)
   have HOI:=Lib.hid hoi
   have HSZ:=Lib.hid (show w1.heap.size≤Wx.heap.size from Nat.le_trans hsz hux.size)
   have HQV:=Lib.hid (show qx∉blk vo from fun hc=>by have:=own_lt hrow qx hc;omega)
   subst hvo
   obtain ⟨nl,hnl⟩:∃x,(lvs S).length=x:=⟨_,rfl⟩
   rw [hnl] at HROW0 HOFF0 HQV hfi ⊢
   have HNL:=Lib.hid hnl
   have HFI:=Lib.hid hfi
   clear ho ey hH ht hrow hoff hsz hqx hqF hnm hlv hFl hux hWx hfi hqq hoi hnl y0 y1 y2 y3 y4 y5 hr2
   obtain ⟨a,hfa⟩:∃a:Int,atV (findN (lvs S) o.s.id)=a:=⟨_,rfl⟩
   rw [hfa] at HFI
   have HFA:=Lib.hid hfa
   clear hfa
   go_wp2_with fail
   (with_reducible refine HFI.out.mono ?_)
   rintro e w2 ⟨rfl,hu2⟩
   have hX2:=HQX0.out.upd0 hu2
   have HH2:=Lib.hid (HH0.out.quiet hu2)
   have HROW2:=Lib.hid (own_upd HROW0.out hu2 (by simp))
   have HSZ2:=Lib.hid (Nat.le_trans HSZ.out hu2.size)
   have HX2:=Lib.hid hX2
   have z0:w2.cell? ⟨qx,0,none⟩=some (.int .u8 (o.u:Int)):=hX2.cell 0
   clear hu2 hX2 z3
   go_upto_if 39 with fail
   clear z0
   go_cut [4] (fun s4 wc=>∃S' F' vo',vo'=s4∧TellW w w1 wc (.pointer (some ⟨q,0,none⟩)) S' F' vo' qx o∧S'.t≤k+1∧w1.heap.size≤wc.heap.size)
   case first=>
    rcases (by omega:r=0∨r=1) with rfl | rfl
    ·cases hfn:findN (lvs S) o.s.id with
     |none=>
      by_cases hr:o.s.lo≤o.s.hi
      ·as_aux_lemma=>
        have had:=addAny HH2.out o.s HOI.out.2.1 (by have:=HHT.out.1;omega)
        unfold spV at had
        have z1:w2.cell? ⟨qx,1,none⟩=some (.int .i64 o.s.lo):=HX2.out.cell 1
        have z2:w2.cell? ⟨qx,2,none⟩=some (.int .i64 o.s.hi):=HX2.out.cell 2
        have z3:w2.cell? ⟨qx,3,none⟩=some (.int .u32 (o.s.id:Int)):=HX2.out.cell 3
        have ha:a<0:=by rw [←HFA.out,hfn];decide
        have hmy:mayL (lvs S) o.s=true:=by rw [find_may,hfn,decide_eq_true hr];rfl
        have hpl:putL (lvs S) o.s=lvs S++[o.s]:=by unfold putL;rw [if_pos hmy]
        rw [hmy] at had
        have HAD:=Lib.hid had
        have HPL:=Lib.hid hpl
        clear had hmy hpl hfn
        go_wp2_with fail
        (with_reducible refine HAD.out.mono ?_)
        rintro e w3 ⟨n5,rfl,hn1,S',F',hh,hup,hFF,haf⟩
        clear z1 z2 z3
        have hX3:=HX2.out.upd hup HQF.out
        have hrow3:KSp.row w3 w1.heap.size (.slice Av nl Cv) (lvs S):=by
         unfold Kind.row
         rw [HNL.out]
         exact own_upd HROW2.out hup HOFF0.out
        have hoff3:∀x∈blk (.slice Av nl Cv),x∉F':=fun x hx hc=>by
         rcases hFF x hc with g | g
         ·exact HOFF0.out x hx g
         ·have:=own_lt HROW2.out x hx;omega
        have hsz3:w1.heap.size≤w3.heap.size:=Nat.le_trans HSZ2.out hup.size
        have ht3:=haf.t
        have hlv3:=haf.lv
        have z1:w3.cell? ⟨qx,1,none⟩=some (.int .i64 o.s.lo):=hX3.cell 1
        have z2:w3.cell? ⟨qx,2,none⟩=some (.int .i64 o.s.hi):=hX3.cell 2
        have z3:w3.cell? ⟨qx,3,none⟩=some (.int .u32 (o.s.id:Int)):=hX3.cell 3
        have n51:(1:Int)≤(n5:Int):=by have:=hn1 (by trivial);omega
        have hrow4:=hrow3
        unfold Kind.row at hrow4
        rw [HNL.out] at hrow4
        have HRS:=Lib.hid (And.intro hX3 (And.intro hrow3 (And.intro hoff3 (And.intro hsz3 (And.intro ht3 (And.intro hlv3 (And.intro hh (And.intro hrow4 hup))))))))
        have hnl:=HHT.out.2
        rw [HNL.out] at hnl
        have htt:=HHT.out.1
        clear hX3 hrow3 hoff3 ht3 hlv3 hh haf hup hFF hn1 hrow4
        go_wp2_with (at_builtin;refine wpList_app _ rfl _ _ 56 rfl w1.heap.size 62 i1 (.agg #[.int .i64 0,.int .i64 0,.int .u32 0]) 3 24 Tryz.underlying56 hz1 hy0 hy1 hy2 rfl (by decide) _ nl (KSp.all (lvs S)) rfl (own_upd HRS.out.2.2.2.2.2.2.2.1 ((Upd.refl [] w3).alloc _) (by simp)) _ 1 (KSp.enc o.s) rfl (sees_lit w3 #[.int .i64 o.s.lo,.int .i64 o.s.hi,.int .u32 (o.s.id:Int)] 62 3 1 rfl (by decide)) (KSp.one o.s) (by unfold maxLen;omega) (by omega) (by simp;omega) ?_)
        intro A9 C9 w9 HP
        have HP9:=Lib.hid HP
        clear HP z1 z2 z3
        go_wp2_with fail
        go_meet
        case rel=>
         obtain ⟨r1,r2,r3,r4,r5,r6,r7,-,r8⟩:=HRS.out
         have u0:Upd [] w3 (w3.alloc (.cells #[.int .i64 o.s.lo,.int .i64 o.s.hi,.int .u32 (o.s.id:Int)] 62)):=(Upd.refl _ _).alloc _
         have u9:=HP9.out.upd
         rw [HPL.out] at r6
         have hge:=fun x (hx:x∈blk (.slice Av nl Cv))=>own_ge r2 x hx
         refine ⟨S',F',_,rfl,⟨(r7.quiet u0).other u9 (fun x hx=>⟨by have:=hge x hx;have:=H0.out.upd.size;omega,r3 x hx⟩),?_,fun x hx hc=>?_,(r1.upd0 u0).upd u9 HQV.out⟩,by have:=HHT.out.1;omega,?_⟩
         ·rw [r6]
          unfold Kind.row
          rw [List.length_append,HNL.out,KSp.all_app]
          exact HP9.out.own
         ·have hl:=r7.is.lt x hc
          rcases HP9.out.at with g | g
          ·rw [g] at hx;exact r3 x hx hc
          ·rw [g] at hx
           simp at hx
           omega
         ·have h1:=u0.size
          have h2:=u9.size
          omega
      ·as_aux_lemma=>
        have had:=addAny HH2.out o.s HOI.out.2.1 (by have:=HHT.out.1;omega)
        unfold spV at had
        have z1:w2.cell? ⟨qx,1,none⟩=some (.int .i64 o.s.lo):=HX2.out.cell 1
        have z2:w2.cell? ⟨qx,2,none⟩=some (.int .i64 o.s.hi):=HX2.out.cell 2
        have z3:w2.cell? ⟨qx,3,none⟩=some (.int .u32 (o.s.id:Int)):=HX2.out.cell 3
        have ha:a<0:=by rw [←HFA.out,hfn];decide
        have hmy:mayL (lvs S) o.s=false:=by rw [find_may,decide_eq_false hr];rfl
        have hpl:putL (lvs S) o.s=lvs S:=by unfold putL;rw [hmy];rfl
        rw [hmy] at had
        have HAD:=Lib.hid had
        have HPL:=Lib.hid hpl
        clear had hmy hpl hfn
        go_wp2_with fail
        (with_reducible refine HAD.out.mono ?_)
        rintro e w3 ⟨n5,rfl,hn1,S',F',hh,hup,hFF,haf⟩
        clear z1 z2 z3
        have hX3:=HX2.out.upd hup HQF.out
        have hrow3:KSp.row w3 w1.heap.size (.slice Av nl Cv) (lvs S):=by
         unfold Kind.row
         rw [HNL.out]
         exact own_upd HROW2.out hup HOFF0.out
        have hoff3:∀x∈blk (.slice Av nl Cv),x∉F':=fun x hx hc=>by
         rcases hFF x hc with g | g
         ·exact HOFF0.out x hx g
         ·have:=own_lt HROW2.out x hx;omega
        have hsz3:w1.heap.size≤w3.heap.size:=Nat.le_trans HSZ2.out hup.size
        have ht3:=haf.t
        have hlv3:=haf.lv
        have z1:w3.cell? ⟨qx,1,none⟩=some (.int .i64 o.s.lo):=hX3.cell 1
        have z2:w3.cell? ⟨qx,2,none⟩=some (.int .i64 o.s.hi):=hX3.cell 2
        clear hn1
        have q5:((n5:Int) != 0)=false:=by have:=haf.no rfl;simp;omega
        have n50:(0:Int)≤(n5:Int):=Int.natCast_nonneg _
        have HRS:=Lib.hid (And.intro hX3 (And.intro hrow3 (And.intro hoff3 (And.intro hsz3 (And.intro ht3 (And.intro hlv3 hh))))))
        clear hX3 hrow3 hoff3 hsz3 ht3 hlv3 hh haf hup hFF
        go_wp2_with fail
        go_meet
        case rel=>
         obtain ⟨r1,r2,r3,r4,r5,r6,r7⟩:=HRS.out
         rw [HPL.out] at r6
         exact ⟨S',F',_,rfl,⟨r7,by rw [r6];exact r2,r3,r1⟩,by have:=HHT.out.1;omega,r4⟩
     |some i=>
      as_aux_lemma=>
       have had:=addAny HH2.out o.s HOI.out.2.1 (by have:=HHT.out.1;omega)
       unfold spV at had
       have z1:w2.cell? ⟨qx,1,none⟩=some (.int .i64 o.s.lo):=HX2.out.cell 1
       have z2:w2.cell? ⟨qx,2,none⟩=some (.int .i64 o.s.hi):=HX2.out.cell 2
       have z3:w2.cell? ⟨qx,3,none⟩=some (.int .u32 (o.s.id:Int)):=HX2.out.cell 3
       have ha:a=(i:Int):=by rw [←HFA.out,hfn];rfl
       subst ha
       have a0:(0:Int)≤(i:Int):=Int.natCast_nonneg _
       have hmy:mayL (lvs S) o.s=false:=by rw [find_may,hfn];simp
       have hpl:putL (lvs S) o.s=lvs S:=by unfold putL;rw [hmy];rfl
       rw [hmy] at had
       have HAD:=Lib.hid had
       have HPL:=Lib.hid hpl
       clear had hmy hpl hfn
       go_wp2_with fail
       (with_reducible refine HAD.out.mono ?_)
       rintro e w3 ⟨n5,rfl,hn1,S',F',hh,hup,hFF,haf⟩
       clear z1 z2 z3
       have hX3:=HX2.out.upd hup HQF.out
       have hrow3:KSp.row w3 w1.heap.size (.slice Av nl Cv) (lvs S):=by
        unfold Kind.row
        rw [HNL.out]
        exact own_upd HROW2.out hup HOFF0.out
       have hoff3:∀x∈blk (.slice Av nl Cv),x∉F':=fun x hx hc=>by
        rcases hFF x hc with g | g
        ·exact HOFF0.out x hx g
        ·have:=own_lt HROW2.out x hx;omega
       have hsz3:w1.heap.size≤w3.heap.size:=Nat.le_trans HSZ2.out hup.size
       have ht3:=haf.t
       have hlv3:=haf.lv
       clear hn1
       have q5:((n5:Int) != 0)=false:=by have:=haf.no rfl;simp;omega
       have n50:(0:Int)≤(n5:Int):=Int.natCast_nonneg _
       have HRS:=Lib.hid (And.intro hX3 (And.intro hrow3 (And.intro hoff3 (And.intro hsz3 (And.intro ht3 (And.intro hlv3 hh))))))
       clear hX3 hrow3 hoff3 hsz3 ht3 hlv3 hh haf hup hFF
       go_wp2_with fail
       go_meet
       case rel=>
        obtain ⟨r1,r2,r3,r4,r5,r6,r7⟩:=HRS.out
        rw [HPL.out] at r6
        exact ⟨S',F',_,rfl,⟨r7,by rw [r6];exact r2,r3,r1⟩,by have:=HHT.out.1;omega,r4⟩
    ·cases hfn:findN (lvs S) o.s.id with
     |none=>
      as_aux_lemma=>
       have had:=dropAny HH2.out o.s.id (by have:=HHT.out.1;omega)
       have z3:w2.cell? ⟨qx,3,none⟩=some (.int .u32 (o.s.id:Int)):=HX2.out.cell 3
       have ha:a<0:=by rw [←HFA.out,hfn];decide
       have hge:decide ((0:Int)≤a)=false:=decide_eq_false (by omega)
       obtain ⟨f1,f2,f3⟩:=find_none hfn
       rw [f1] at had
       have hpl:lessL (lvs S) o.s.id=lvs S:=by
        unfold lessL
        rw [List.filter_eq_self]
        intro y hy
        simpa using f3 y hy
       have HAD:=Lib.hid had
       have HPL:=Lib.hid hpl
       clear had hpl f1 f2 f3 hfn
       go_wp2_with fail
       (with_reducible refine HAD.out.mono ?_)
       rintro e w3 ⟨n5,rfl,S',F',hh,hup,hFF,haf⟩
       clear z3
       have hX3:=HX2.out.upd hup HQF.out
       have hrow3:KSp.row w3 w1.heap.size (.slice Av nl Cv) (lvs S):=by
        unfold Kind.row
        rw [HNL.out]
        exact own_upd HROW2.out hup HOFF0.out
       have hoff3:∀x∈blk (.slice Av nl Cv),x∉F':=fun x hx hc=>by
        rcases hFF x hc with g | g
        ·exact HOFF0.out x hx g
        ·have:=own_lt HROW2.out x hx;omega
       have hsz3:w1.heap.size≤w3.heap.size:=Nat.le_trans HSZ2.out hup.size
       have ht3:=haf.t
       have hlv3:=haf.lv
       have q5:((n5:Int) != 0)=false:=by have:=haf.no rfl;simp;omega
       have n50:(0:Int)≤(n5:Int):=Int.natCast_nonneg _
       have HRS:=Lib.hid (And.intro hX3 (And.intro hrow3 (And.intro hoff3 (And.intro hsz3 (And.intro ht3 (And.intro hlv3 hh))))))
       clear hX3 hrow3 hoff3 hsz3 ht3 hlv3 hh haf hup hFF
       go_wp2_with fail
       go_meet
       case rel=>
        obtain ⟨r1,r2,r3,r4,r5,r6,r7⟩:=HRS.out
        rw [HPL.out] at r6
        exact ⟨S',F',_,rfl,⟨r7,by rw [r6];exact r2,r3,r1⟩,by have:=HHT.out.1;omega,r4⟩
     |some i=>
      as_aux_lemma=>
       have had:=dropAny HH2.out o.s.id (by have:=HHT.out.1;omega)
       have z3:w2.cell? ⟨qx,3,none⟩=some (.int .u32 (o.s.id:Int)):=HX2.out.cell 3
       have ha:a=(i:Int):=by rw [←HFA.out,hfn];rfl
       subst ha
       have a0:(0:Int)≤(i:Int):=Int.natCast_nonneg _
       obtain ⟨s0,f1,f2,f3,f4,f5⟩:=find_some HNM.out hfn
       rw [f3] at had
       have HAD:=Lib.hid had
       have HPL:=Lib.hid f5
       clear had f1 f2 f3 f4 f5 hfn
       go_wp2_with fail
       (with_reducible refine HAD.out.mono ?_)
       rintro e w3 ⟨n5,rfl,S',F',hh,hup,hFF,haf⟩
       clear z3
       have hX3:=HX2.out.upd hup HQF.out
       have hrow3:KSp.row w3 w1.heap.size (.slice Av nl Cv) (lvs S):=by
        unfold Kind.row
        rw [HNL.out]
        exact own_upd HROW2.out hup HOFF0.out
       have hoff3:∀x∈blk (.slice Av nl Cv),x∉F':=fun x hx hc=>by
        rcases hFF x hc with g | g
        ·exact HOFF0.out x hx g
        ·have:=own_lt HROW2.out x hx;omega
       have hsz3:w1.heap.size≤w3.heap.size:=Nat.le_trans HSZ2.out hup.size
       have ht3:=haf.t
       have hlv3:=haf.lv
       have n50:(0:Int)≤(n5:Int):=Int.natCast_nonneg _
       have hwo:=refWithout (.slice Av nl Cv) (lvs S) i w3 (See.of_row hrow3) (by have:=HHT.out.2;have:=HHT.out.1;omega)
       unfold WoPost at hwo
       rw [HPL.out,←hlv3] at hwo
       have HWO:=Lib.hid hwo
       have HRS:=Lib.hid (And.intro hX3 (And.intro hoff3 (And.intro hsz3 (And.intro ht3 (And.intro hlv3 hh)))))
       clear hX3 hrow3 hoff3 hsz3 ht3 hlv3 hh haf hup hFF hwo
       go_wp2_with fail
       (with_reducible refine HWO.out.mono ?_)
       rintro e w9 ⟨A9,C9,rfl,r9,u9⟩
       have HR9:=Lib.hid (And.intro r9 u9)
       clear r9 u9
       go_wp2_with fail
       go_meet
       case rel=>
        obtain ⟨r1,r3,r4,r5,r6,r7⟩:=HRS.out
        obtain ⟨r9,u9⟩:=HR9.out
        exact ⟨S',F',_,rfl,⟨r7.quiet u9,own_base r9 r4,fun x hx hc=>by have:=own_ge r9 x hx;have:=r7.is.lt x hc;omega,r1.upd0 u9⟩,by have:=HHT.out.1;omega,Nat.le_trans r4 u9.size⟩
   case rest=>
    obtain ⟨S',F',vo',hvo',hT,ht',hsz'⟩:=hcut
    subst hvo'
    obtain ⟨w4,hw4⟩:∃W:World,W=wc:=⟨_,rfl⟩
    subst hw4
    obtain ⟨hH,hrow,hoff,hop⟩:=hT
    obtain ⟨Aw,Cw,hvo⟩:=own_form hrow
    have hlv:=lvs_le hH.inv
    have hnm:=hH.inv.names
    have hkk:k<100:=by omega
    have hl1:=stabL_len (lvs S') o.lo
    have hl3:=meetL_len (lvs S') o.lo o.hi
    subst hvo
    have hsee:=See.of_row hrow
    have hst:=fun (w9:World) (hu:Upd [] w4 w9)=>stabP _ F' S' o.lo w9 (hH.quiet hu).is hH.inv (by omega)
    have hco:=fun (w9:World) (hu:Upd [] w4 w9)=>countP _ F' S' o.lo w9 (hH.quiet hu).is hH.inv (by omega)
    have hme:=fun (w9:World) (hu:Upd [] w4 w9)=>meetP _ F' S' o.lo o.hi w9 (hH.quiet hu).is hH.inv (by omega)
    have hrs:=fun (w9:World) (hu:Upd [] w4 w9)=>refStab _ (lvs S') o.lo w9 (hsee.upd0 hu) (by omega)
    have hrm:=fun (w9:World) (hu:Upd [] w4 w9)=>refMeet _ (lvs S') o.lo o.hi w9 (hsee.upd0 hu) (by omega)
    have hfi:=fun (w9:World) (hu:Upd [] w4 w9)=>refFind _ (lvs S') o.s.id w9 (hsee.upd0 hu) (by omega)
    have hgt:=fun (w9:World) (hu:Upd [] w4 w9)=>getAny (hH.quiet hu) o.s.id (by omega)
    have hle:=fun (w9:World) (hu:Upd [] w4 w9)=>lenP _ F' S' w9 (hH.quiet hu).is hH.inv
    obtain ⟨nl2,hnl⟩:∃x,(lvs S').length=x:=⟨_,rfl⟩
    generalize stabL (lvs S') o.lo=L1 at hst hco hrs hl1
    generalize meetL (lvs S') o.lo o.hi=L3 at hme hrm hl3
    obtain ⟨m1,hm1⟩:∃x,L1.length=x:=⟨_,rfl⟩
    obtain ⟨m3,hm3⟩:∃x,L3.length=x:=⟨_,rfl⟩
    have hs1:=fun (va vb:Value) (w9:World) (ha:See KU w9 va L1) (hb:See KU w9 vb L1)=>same24C va vb L1 L1 w9 ha hb (by omega) (by omega)
    have hs3:=fun (va vb:Value) (w9:World) (ha:See KU w9 va L3) (hb:See KU w9 vb L3)=>same24C va vb L3 L3 w9 ha hb (by omega) (by omega)
    rw [decide_eq_true rfl] at hs1 hs3
    unfold AskPost StabPost at hst hme
    unfold RowPostU at hrs hrm
    rw [hm1] at hst hco hrs
    rw [hm3] at hme hrm
    rw [hnl] at hle hfi hrs hrm hsee hrow hoff hlv hl1 hl3 ⊢
    have hnn1:((m1:Int) != (m1:Int))=false:=by simp
    have hnn2:((nl2:Int) != (nl2:Int))=false:=by simp
    have HST:=Lib.hid hst
    have HCO:=Lib.hid hco
    have HME:=Lib.hid hme
    have HRF0:=Lib.hid (And.intro hrs hrm)
    have HLE:=Lib.hid hle
    have HSM:=Lib.hid (And.intro hs1 hs3)
    have HSEE:=Lib.hid hsee
    have HX4:=Lib.hid hop
    have HEND:=Lib.hid (And.intro hH (And.intro ht' (And.intro hrow (And.intro hoff hsz'))))
    obtain ⟨a2,hfa2⟩:∃a:Int,atV (findN (lvs S') o.s.id)=a:=⟨_,rfl⟩
    rw [hfa2] at hfi
    have HFA2:=Lib.hid hfa2
    have HFF:=Lib.hid hfi
    have HC1:=Lib.hid (And.intro hgt (And.intro hnm (And.intro hnl (And.intro hl1 hl3))))
    have x4:w4.cell? ⟨qx,4,none⟩=some (.int .i64 o.lo):=hop.cell 4
    clear hst hco hme hrs hrm hfi hle hs1 hs3 hsee hop hH ht' hrow hoff hsz' hm1 hm3 hfa2 hgt hnm hnl hl1 hl3 hlv
    clear HFI HFA HROW0 HH0 HOFF0 HQX0 HQF HNM HHT HSZ HH2 HROW2 HSZ2 HX2 HQV HNL
    go_wp2_with fail
    (with_reducible refine (HST.out _ (Upd.refl [] _)).mono ?_)
    rintro e w5 ⟨t5,⟨A5,C5,rfl,r5,u5⟩,-⟩
    have U5:=Lib.hid u5
    have R5:=Lib.hid (See.of_row r5)
    clear u5 r5 x4
    have x4:w5.cell? ⟨qx,4,none⟩=some (.int .i64 o.lo):=(HX4.out.upd0 U5.out).cell 4
    go_wp2_with fail
    (with_reducible refine (HCO.out _ U5.out).mono ?_)
    rintro e w6 ⟨t6,rfl,-,u6⟩
    have U6:=Lib.hid (U5.out.trans u6)
    have R6:=Lib.hid (R5.out.upd0 u6)
    clear u6 x4
    have x4:w6.cell? ⟨qx,4,none⟩=some (.int .i64 o.lo):=(HX4.out.upd0 U6.out).cell 4
    have x5:w6.cell? ⟨qx,5,none⟩=some (.int .i64 o.hi):=(HX4.out.upd0 U6.out).cell 5
    go_wp2_with fail
    (with_reducible refine (HME.out _ U6.out).mono ?_)
    rintro e w7 ⟨t7,⟨A7,C7,rfl,r7,u7⟩,-⟩
    have U7:=Lib.hid (U6.out.trans u7)
    have R7:=Lib.hid (R6.out.upd0 u7)
    have Q7:=Lib.hid (See.of_row r7)
    clear u7 r7 x4 x5
    have x3:w7.cell? ⟨qx,3,none⟩=some (.int .u32 (o.s.id:Int)):=(HX4.out.upd0 U7.out).cell 3
    go_wp2_with fail
    (with_reducible refine (HFF.out _ U7.out).mono ?_)
    rintro e w8 ⟨rfl,u8⟩
    have U8:=Lib.hid (U7.out.trans u8)
    have R8:=Lib.hid (R7.out.upd0 u8)
    have Q8:=Lib.hid (Q7.out.upd0 u8)
    clear u8 x3
    have x3:w8.cell? ⟨qx,3,none⟩=some (.int .u32 (o.s.id:Int)):=(HX4.out.upd0 U8.out).cell 3
    cases hfn:findN (lvs S') o.s.id with
    |none=>
     as_aux_lemma=>
      have ha:a2<0:=by rw [←HFA2.out,hfn];decide
      have hge:decide ((0:Int)≤a2)=false:=decide_eq_false (by omega)
      obtain ⟨f1,f2,f3⟩:=find_none hfn
      have hgt:=HC1.out.1 w8 U8.out
      rw [f2] at hgt
      have hgt2:Calls Tryz.prog 36 #[.pointer (some ⟨q,0,none⟩),.int .u32 (o.s.id:Int)] w8 fun e w'=>e=.returned (.tuple #[.agg #[.int .i64 0,.int .i64 0,.int .u32 0],.bool false])∧Upd [] w8 w':=hgt
      have HG2:=Lib.hid hgt2
      clear hgt hgt2 f1 f2 f3 hfn
      go_wp2_with fail
      (with_reducible refine HG2.out.mono ?_)
      rintro e w9 ⟨rfl,u9⟩
      have U9:=Lib.hid (U8.out.trans u9)
      have R9:=Lib.hid (R8.out.upd0 u9)
      have Q9:=Lib.hid (Q8.out.upd0 u9)
      clear u9 x3
      go_upto_region 23 with fail
      obtain ⟨W,hW,uW,qW⟩:=one_newC w9 #[.int .i64 0,.int .i64 0,.int .u32 0] 62
      rw [←hW]
      obtain ⟨q8,hq8⟩:∃q,w9.heap.size=q:=⟨_,rfl⟩
      rw [hq8] at qW ⊢
      have UW:=Lib.hid (U9.out.trans uW)
      have hxx:=HX4.out.upd0 UW.out
      have x4:W.cell? ⟨qx,4,none⟩=some (.int .i64 o.lo):=hxx.cell 4
      have x5:W.cell? ⟨qx,5,none⟩=some (.int .i64 o.hi):=hxx.cell 5
      have hxW:qx<W.heap.size:=hxx.lt
      have hqW:q8<W.heap.size:=qW.lt
      have k0:W.cell? ⟨q8,0,none⟩=some (.int .i64 0):=qW.cell 0
      have k1:W.cell? ⟨q8,1,none⟩=some (.int .i64 0):=qW.cell 1
      have k2:W.cell? ⟨q8,2,none⟩=some (.int .u32 0):=qW.cell 2
      have HRF:=Lib.hid (And.intro (fun (w':World) (hu:Upd [] W w')=>HRF0.out.1 w' (UW.out.trans hu)) (fun (w':World) (hu:Upd [] W w')=>HRF0.out.2 w' (UW.out.trans hu)))
      have HLN2:=Lib.hid (fun (w':World) (hu:Upd [] W w')=>HLE.out w' (UW.out.trans hu))
      have HR4:=Lib.hid (And.intro (R9.out.upd0 uW) (Q9.out.upd0 uW))
      clear hW uW qW hq8 hxx
      refine GoT.start [] (fun w'=>Upd [] W w') (by kernel_rfl) ?_ fun hS=>?_
      ·exact (Upd.refl [] W).drew
      refine' GoT.mv (i:=0) (oi:=⟨some 145,_,_,_,_,_⟩) rfl (by rfl) ?ynone_0 ?_
      case ynone_0=>intro w;go_simp<;>with_reducible rfl
      simp only [Act.put,sA,sZ,sS]
      refine' GoT.mv (i:=1) (oi:=⟨some 146,_,_,_,_,_⟩) rfl (by rfl) ?ynone_1 ?_
      case ynone_1=>intro w;go_simp<;>with_reducible rfl
      simp only [Act.put,sA,sZ,sS]
      refine' GoT.mv (i:=2) (oi:=⟨some 147,_,_,_,_,_⟩) rfl (by rfl) ?ynone_2 ?_
      case ynone_2=>intro w;go_simp<;>with_reducible rfl
      simp only [Act.put,sA,sZ,sS]
      refine' GoT.tk 1 (i:=3) (oi:=⟨some 148,_,_,_,_,_⟩) rfl (by rfl) ?ynone_3 ?_
      case ynone_3=>intro w hSw;have d4:=(hSw.cell (p:=⟨qx,4,none⟩) hxW (by simp)).trans x4;go_simp<;>with_reducible rfl
      simp only [Act.put,sA,sZ,sS]
      refine GoT.one (i:=4) (o:=⟨some 149,_,_,_,_,_⟩) rfl (by kernel_rfl) fun K hK=>?_
      go_simp
      go_at_call 39
      (with_reducible refine (HRF.out.1 _ hS).mono ?_)
      rintro e wa ⟨Aa,Ca,rfl,ra,ua⟩
      have RA:=Lib.hid (See.of_row ra)
      have hS4:=hS.trans ua
      clear ra ua
      refine hK.out _ _ (fun _ h=>?_) ?_
      ·exact hS4
      clear hK K
      try simp only [Act.put,sA,sZ,sS]
      refine GoT.one (i:=5) (o:=⟨some 150,_,_,_,_,_⟩) rfl (by kernel_rfl) fun K hK=>?_
      go_simp
      go_at_call 32
      (with_reducible refine (HSM.out.1 _ _ _ (HR4.out.1.upd0 hS4) RA.out).mono ?_)
      rintro e wb ⟨rfl,ub⟩
      have hS5:=hS4.trans ub
      clear ub
      refine hK.out _ _ (fun _ h=>?_) ?_
      ·exact hS5
      clear hK K
      try simp only [Act.put,sA,sZ,sS]
      refine' GoT.mv (i:=6) (oi:=⟨some 151,_,_,_,_,_⟩) rfl (by rfl) ?ynone_6 ?_
      case ynone_6=>intro w;go_simp<;>with_reducible rfl
      simp only [Act.put,sA,sZ,sS]
      refine' GoT.mv (i:=7) (oi:=⟨some 152,_,_,_,_,_⟩) rfl (by rfl) ?ynone_7 ?_
      case ynone_7=>intro w;go_simp<;>with_reducible rfl
      simp only [Act.put,sA,sZ,sS]
      refine' GoT.mv (i:=8) (oi:=⟨some 153,_,_,_,_,_⟩) rfl (by rfl) ?ynone_8 ?_
      case ynone_8=>intro w;go_simp<;>with_reducible rfl
      simp only [Act.put,sA,sZ,sS]
      refine' GoT.mv (i:=9) (oi:=⟨some 154,_,_,_,_,_⟩) rfl (by rfl) ?ynone_9 ?_
      case ynone_9=>intro w;go_simp<;>with_reducible rfl
      simp only [Act.put,sA,sZ,sS]
      refine' GoT.mv (i:=10) (oi:=⟨some 155,_,_,_,_,_⟩) rfl (by rfl) ?ynone_10 ?_
      case ynone_10=>intro w;go_simp<;>with_reducible rfl
      simp only [Act.put,sA,sZ,sS]
      refine' GoT.mv (i:=11) (oi:=⟨some 156,_,_,_,_,_⟩) rfl (by rfl) ?ynone_11 ?_
      case ynone_11=>intro w;go_simp<;>with_reducible rfl
      simp only [Act.put,sA,sZ,sS]
      refine' GoT.mv (i:=12) (oi:=⟨some 157,_,_,_,_,_⟩) rfl (by rfl) ?ynone_12 ?_
      case ynone_12=>intro w;go_simp<;>with_reducible rfl
      simp only [Act.put,sA,sZ,sS]
      refine' GoT.mv (i:=13) (oi:=⟨some 158,_,_,_,_,_⟩) rfl (by rfl) ?ynone_13 ?_
      case ynone_13=>intro w;go_simp<;>with_reducible rfl
      simp only [Act.put,sA,sZ,sS]
      refine' GoT.mv (i:=14) (oi:=⟨some 159,_,_,_,_,_⟩) rfl (by rfl) ?ynone_14 ?_
      case ynone_14=>intro w;go_simp<;>with_reducible rfl
      simp only [Act.put,sA,sZ,sS]
      refine' GoT.mv (i:=15) (oi:=⟨some 160,_,_,_,_,_⟩) rfl (by rfl) ?ynone_15 ?_
      case ynone_15=>intro w;go_simp<;>with_reducible rfl
      simp only [Act.put,sA,sZ,sS]
      refine' GoT.mv (i:=16) (oi:=⟨some 161,_,_,_,_,_⟩) rfl (by rfl) ?ynone_16 ?_
      case ynone_16=>intro w;go_simp<;>with_reducible rfl
      simp only [Act.put,sA,sZ,sS]
      refine' GoT.tk 1 (i:=17) (oi:=⟨some 162,_,_,_,_,_⟩) rfl (by rfl) ?ynone_17 ?_
      case ynone_17=>intro w hSw;have d4:=(hSw.cell (p:=⟨qx,4,none⟩) hxW (by simp)).trans x4;go_simp<;>with_reducible rfl
      simp only [Act.put,sA,sZ,sS]
      refine' GoT.mv (i:=18) (oi:=⟨some 163,_,_,_,_,_⟩) rfl (by rfl) ?ynone_18 ?_
      case ynone_18=>intro w;go_simp<;>with_reducible rfl
      simp only [Act.put,sA,sZ,sS]
      refine' GoT.tk 1 (i:=19) (oi:=⟨some 164,_,_,_,_,_⟩) rfl (by rfl) ?ynone_19 ?_
      case ynone_19=>intro w hSw;have d5:=(hSw.cell (p:=⟨qx,5,none⟩) hxW (by simp)).trans x5;go_simp<;>with_reducible rfl
      simp only [Act.put,sA,sZ,sS]
      refine GoT.one (i:=20) (o:=⟨some 165,_,_,_,_,_⟩) rfl (by kernel_rfl) fun K hK=>?_
      go_simp
      go_at_call 40
      (with_reducible refine (HRF.out.2 _ hS5).mono ?_)
      rintro e wc ⟨Ac,Cc,rfl,rc,uc⟩
      have RC:=Lib.hid (See.of_row rc)
      have hS6:=hS5.trans uc
      clear rc uc
      refine hK.out _ _ (fun _ h=>?_) ?_
      ·exact hS6
      clear hK K
      try simp only [Act.put,sA,sZ,sS]
      refine GoT.one (i:=21) (o:=⟨some 166,_,_,_,_,_⟩) rfl (by kernel_rfl) fun K hK=>?_
      go_simp
      go_at_call 32
      (with_reducible refine (HSM.out.2 _ _ _ (HR4.out.2.upd0 hS6) RC.out).mono ?_)
      rintro e wd ⟨rfl,ud⟩
      have hS7:=hS6.trans ud
      clear ud
      refine hK.out _ _ (fun _ h=>?_) ?_
      ·exact hS7
      clear hK K
      try simp only [Act.put,sA,sZ,sS]
      refine' GoT.mv (i:=22) (oi:=⟨some 167,_,_,_,_,_⟩) rfl (by rfl) ?ynone_22 ?_
      case ynone_22=>intro w;go_simp<;>with_reducible rfl
      simp only [Act.put,sA,sZ,sS]
      refine' GoT.mv (i:=23) (oi:=⟨some 168,_,_,_,_,_⟩) rfl (by rfl) ?ynone_23 ?_
      case ynone_23=>intro w;go_simp<;>with_reducible rfl
      simp only [Act.put,sA,sZ,sS]
      refine' GoT.mv (i:=24) (oi:=⟨some 169,_,_,_,_,_⟩) rfl (by rfl) ?ynone_24 ?_
      case ynone_24=>intro w;go_simp<;>with_reducible rfl
      simp only [Act.put,sA,sZ,sS]
      refine' GoT.mv (i:=25) (oi:=⟨some 170,_,_,_,_,_⟩) rfl (by rfl) ?ynone_25 ?_
      case ynone_25=>intro w;go_simp<;>with_reducible rfl
      simp only [Act.put,sA,sZ,sS]
      refine' GoT.mv (i:=26) (oi:=⟨some 171,_,_,_,_,_⟩) rfl (by rfl) ?ynone_26 ?_
      case ynone_26=>intro w;go_simp<;>with_reducible rfl
      simp only [Act.put,sA,sZ,sS]
      refine' GoT.mv (i:=27) (oi:=⟨some 172,_,_,_,_,_⟩) rfl (by rfl) ?ynone_27 ?_
      case ynone_27=>intro w;go_simp<;>with_reducible rfl
      simp only [Act.put,sA,sZ,sS]
      refine' GoT.mv (i:=28) (oi:=⟨some 173,_,_,_,_,_⟩) rfl (by rfl) ?ynone_28 ?_
      case ynone_28=>intro w;go_simp<;>with_reducible rfl
      simp only [Act.put,sA,sZ,sS]
      refine' GoT.mv (i:=29) (oi:=⟨some 174,_,_,_,_,_⟩) rfl (by rfl) ?ynone_29 ?_
      case ynone_29=>intro w;go_simp<;>with_reducible rfl
      simp only [Act.put,sA,sZ,sS]
      refine' GoT.mv (i:=30) (oi:=⟨some 175,_,_,_,_,_⟩) rfl (by rfl) ?ynone_30 ?_
      case ynone_30=>intro w;go_simp<;>with_reducible rfl
      simp only [Act.put,sA,sZ,sS]
      refine' GoT.mv (i:=31) (oi:=⟨some 176,_,_,_,_,_⟩) rfl (by rfl) ?ynone_31 ?_
      case ynone_31=>intro w;go_simp<;>with_reducible rfl
      simp only [Act.put,sA,sZ,sS]
      refine' GoT.mv (i:=32) (oi:=⟨some 177,_,_,_,_,_⟩) rfl (by rfl) ?ynone_32 ?_
      case ynone_32=>intro w;go_simp<;>with_reducible rfl
      simp only [Act.put,sA,sZ,sS]
      refine' GoT.move (i:=33) (oi:=⟨some 178,_,_,_,_,_⟩) (v:=_) rfl (by kernel_rfl) (by kernel_rfl) (by kernel_rfl) (fun _ _ _ h=>h) (Or.inr ⟨by rfl,rfl⟩) ?rnone_33
      simp only [Act.put,sA,sZ,sS]
      refine' GoT.move (i:=34) (oi:=⟨some 179,_,_,_,_,_⟩) (v:=_) rfl (by kernel_rfl) (by kernel_rfl) (by kernel_rfl) (fun _ _ _ h=>h) (Or.inr ⟨by rfl,rfl⟩) ?rnone_34
      simp only [Act.put,sA,sZ,sS]
      refine' GoT.move (i:=35) (oi:=⟨some 180,_,_,_,_,_⟩) (v:=_) rfl (by kernel_rfl) (by kernel_rfl) (by kernel_rfl) (fun _ _ _ h=>h) (Or.inr ⟨by rfl,rfl⟩) ?rnone_35
      simp only [Act.put,sA,sZ,sS]
      refine' GoT.move (i:=36) (oi:=⟨some 181,_,_,_,_,_⟩) (v:=_) rfl (by kernel_rfl) (by kernel_rfl) (by kernel_rfl) (fun _ _ _ h=>h) (Or.inr ⟨by rfl,rfl⟩) ?rnone_36
      simp only [Act.put,sA,sZ,sS]
      refine' GoT.move (i:=37) (oi:=⟨some 182,_,_,_,_,_⟩) (v:=_) rfl (by kernel_rfl) (by kernel_rfl) (by kernel_rfl) (fun _ _ _ h=>h) (Or.inr ⟨by rfl,rfl⟩) ?rnone_37
      simp only [Act.put,sA,sZ,sS]
      refine' GoT.move (i:=38) (oi:=⟨some 183,_,_,_,_,_⟩) (v:=_) rfl (by kernel_rfl) (by kernel_rfl) (by kernel_rfl) (fun _ _ _ h=>h) (Or.inr ⟨by rfl,rfl⟩) ?rnone_38
      simp only [Act.put,sA,sZ,sS]
      refine' GoT.mv (i:=39) (oi:=⟨some 184,_,_,_,_,_⟩) rfl (by rfl) ?ynone_39 ?_
      case ynone_39=>intro w;go_simp<;>with_reducible rfl
      simp only [Act.put,sA,sZ,sS]
      refine' GoT.mv (i:=40) (oi:=⟨some 185,_,_,_,_,_⟩) rfl (by rfl) ?ynone_40 ?_
      case ynone_40=>intro w;go_simp<;>with_reducible rfl
      simp only [Act.put,sA,sZ,sS]
      refine' GoT.mv (i:=41) (oi:=⟨some 186,_,_,_,_,_⟩) rfl (by rfl) ?ynone_41 ?_
      case ynone_41=>intro w;go_simp<;>with_reducible rfl
      simp only [Act.put,sA,sZ,sS]
      refine' GoT.mv (i:=42) (oi:=⟨some 187,_,_,_,_,_⟩) rfl (by rfl) ?ynone_42 ?_
      case ynone_42=>intro w;go_simp<;>with_reducible rfl
      simp only [Act.put,sA,sZ,sS]
      refine' GoT.mv (i:=43) (oi:=⟨some 188,_,_,_,_,_⟩) rfl (by rfl) ?ynone_43 ?_
      case ynone_43=>intro w;go_simp<;>with_reducible rfl
      simp only [Act.put,sA,sZ,sS]
      refine' GoT.mv (i:=44) (oi:=⟨some 189,_,_,_,_,_⟩) rfl (by rfl) ?ynone_44 ?_
      case ynone_44=>intro w;go_simp<;>with_reducible rfl
      simp only [Act.put,sA,sZ,sS]
      refine' GoT.tk 1 (i:=45) (oi:=⟨some 190,_,_,_,_,_⟩) rfl (by rfl) ?ynone_45 ?_
      case ynone_45=>intro w hSw;have d0:=(hSw.cell (p:=⟨q8,0,none⟩) hqW (by simp)).trans k0;have d1:=(hSw.cell (p:=⟨q8,1,none⟩) hqW (by simp)).trans k1;have d2:=(hSw.cell (p:=⟨q8,2,none⟩) hqW (by simp)).trans k2;go_simp<;>with_reducible rfl
      simp only [Act.put,sA,sZ,sS]
      refine' GoT.mv (i:=46) (oi:=⟨some 191,_,_,_,_,_⟩) rfl (by rfl) ?ynone_46 ?_
      case ynone_46=>intro w;go_simp<;>with_reducible rfl
      simp only [Act.put,sA,sZ,sS]
      refine' GoT.mv (i:=47) (oi:=⟨some 192,_,_,_,_,_⟩) rfl (by rfl) ?ynone_47 ?_
      case ynone_47=>intro w;have hne:=neZT w;go_simp<;>with_reducible rfl
      simp only [Act.put,sA,sZ,sS]
      refine' GoT.mv (i:=48) (oi:=⟨some 193,_,_,_,_,_⟩) rfl (by rfl) ?ynone_48 ?_
      case ynone_48=>intro w;go_simp<;>with_reducible rfl
      simp only [Act.put,sA,sZ,sS]
      refine' GoT.mv (i:=49) (oi:=⟨some 194,_,_,_,_,_⟩) rfl (by rfl) ?ynone_49 ?_
      case ynone_49=>intro w;go_simp<;>with_reducible rfl
      simp only [Act.put,sA,sZ,sS]
      refine' GoT.mv (i:=50) (oi:=⟨some 195,_,_,_,_,_⟩) rfl (by rfl) ?ynone_50 ?_
      case ynone_50=>intro w;go_simp<;>with_reducible rfl
      simp only [Act.put,sA,sZ,sS]
      refine' GoT.mv (i:=51) (oi:=⟨some 196,_,_,_,_,_⟩) rfl (by rfl) ?ynone_51 ?_
      case ynone_51=>intro w;go_simp<;>with_reducible rfl
      simp only [Act.put,sA,sZ,sS]
      refine' GoT.mv (i:=53) (oi:=⟨some 198,_,_,_,_,_⟩) rfl (by rfl) ?ynone_53 ?_
      case ynone_53=>intro w;go_simp<;>with_reducible rfl
      simp only [Act.put,sA,sZ,sS]
      refine' GoT.mv (i:=54) (oi:=⟨some 199,_,_,_,_,_⟩) rfl (by rfl) ?ynone_54 ?_
      case ynone_54=>intro w;go_simp<;>with_reducible rfl
      simp only [Act.put,sA,sZ,sS]
      refine GoT.one (i:=52) (o:=⟨some 197,_,_,_,_,_⟩) rfl (by kernel_rfl) fun K hK=>?_
      go_simp
      go_at_call 33
      (with_reducible refine (HLN2.out _ hS7).mono ?_)
      rintro e we ⟨rfl,rfl⟩
      refine hK.out _ _ (fun _ h=>?_) ?_
      ·exact hS7
      clear hK K
      try simp only [Act.put,sA,sZ,sS]
      refine' GoT.mv (i:=55) (oi:=⟨some 200,_,_,_,_,_⟩) rfl (by rfl) ?ynone_55 ?_
      case ynone_55=>intro w;go_simp<;>with_reducible rfl
      simp only [Act.put,sA,sZ,sS]
      refine' GoT.mv (i:=56) (oi:=⟨some 201,_,_,_,_,_⟩) rfl (by rfl) ?ynone_56 ?_
      case ynone_56=>intro w;go_simp<;>with_reducible rfl
      simp only [Act.put,sA,sZ,sS]
      refine GoT.done (by kernel_rfl) ?_
      go_wp2_with fail
      go_roundg (n - (k+1))
      case measure=>have:=HK.out;omega
      case rel=>
       obtain ⟨r1,r2,r3,r4,r5⟩:=HEND.out
       have u8:=UW.out.trans hS7
       exact ⟨k+1,S',F',_,rfl,by have:=HK.out;omega,by go_num,r1.quiet u8,by omega,own_upd r3 u8 (by simp),r4,Nat.le_trans r5 u8.size⟩
    |some j=>
     as_aux_lemma=>
      have ha:a2=(j:Int):=by rw [←HFA2.out,hfn];rfl
      subst ha
      have j0:(0:Int)≤(j:Int):=Int.natCast_nonneg _
      obtain ⟨s,f1,f2,f3,f4,f5⟩:=find_some HC1.out.2.1 hfn
      have hj:(j:Int)<(nl2:Int):=by have:=(List.getElem?_eq_some_iff.1 f1).1;have:=HC1.out.2.2.1;omega
      have hgt:=HC1.out.1 w8 U8.out
      rw [f4] at hgt
      have hgt2:Calls Tryz.prog 36 #[.pointer (some ⟨q,0,none⟩),.int .u32 (o.s.id:Int)] w8 fun e w'=>e=.returned (.tuple #[.agg #[.int .i64 s.lo,.int .i64 s.hi,.int .u32 (s.id:Int)],.bool true])∧Upd [] w8 w':=hgt
      have HF1:=Lib.hid f1
      have HG2:=Lib.hid hgt2
      clear hgt hgt2 f1 f2 f3 f4 f5 hfn
      go_wp2_with fail
      (with_reducible refine HG2.out.mono ?_)
      rintro e w9 ⟨rfl,u9⟩
      have U9:=Lib.hid (U8.out.trans u9)
      have R9:=Lib.hid (R8.out.upd0 u9)
      have Q9:=Lib.hid (Q8.out.upd0 u9)
      clear u9 x3
      go_upto_region 23 with fail
      obtain ⟨W,hW,uW,qW⟩:=one_newC w9 #[.int .i64 s.lo,.int .i64 s.hi,.int .u32 (s.id:Int)] 62
      rw [←hW]
      obtain ⟨q8,hq8⟩:∃q,w9.heap.size=q:=⟨_,rfl⟩
      rw [hq8] at qW ⊢
      have UW:=Lib.hid (U9.out.trans uW)
      have hxx:=HX4.out.upd0 UW.out
      have x4:W.cell? ⟨qx,4,none⟩=some (.int .i64 o.lo):=hxx.cell 4
      have x5:W.cell? ⟨qx,5,none⟩=some (.int .i64 o.hi):=hxx.cell 5
      have hxW:qx<W.heap.size:=hxx.lt
      have hqW:q8<W.heap.size:=qW.lt
      have k0:W.cell? ⟨q8,0,none⟩=some (.int .i64 s.lo):=qW.cell 0
      have k1:W.cell? ⟨q8,1,none⟩=some (.int .i64 s.hi):=qW.cell 1
      have k2:W.cell? ⟨q8,2,none⟩=some (.int .u32 (s.id:Int)):=qW.cell 2
      obtain ⟨gn,on,hAn,-,-,en⟩:=(HSEE.out.upd0 UW.out).at HF1.out
      cases hAn
      have m0:W.cell? ⟨gn,on+j*3,none⟩=some (.int .i64 s.lo):=en 0 _ rfl
      have m1:W.cell? ⟨gn,on+j*3+1,none⟩=some (.int .i64 s.hi):=en 1 _ rfl
      have m2:W.cell? ⟨gn,on+j*3+2,none⟩=some (.int .u32 (s.id:Int)):=en 2 _ rfl
      have hgW:gn<W.heap.size:=World.block_lt_of_cell? _ _ m0
      clear en
      have HRF:=Lib.hid (And.intro (fun (w':World) (hu:Upd [] W w')=>HRF0.out.1 w' (UW.out.trans hu)) (fun (w':World) (hu:Upd [] W w')=>HRF0.out.2 w' (UW.out.trans hu)))
      have HLN2:=Lib.hid (fun (w':World) (hu:Upd [] W w')=>HLE.out w' (UW.out.trans hu))
      have HR4:=Lib.hid (And.intro (R9.out.upd0 uW) (Q9.out.upd0 uW))
      clear hW uW qW hq8 hxx
      refine GoT.start [] (fun w'=>Upd [] W w') (by kernel_rfl) ?_ fun hS=>?_
      ·exact (Upd.refl [] W).drew
      refine' GoT.mv (i:=0) (oi:=⟨some 145,_,_,_,_,_⟩) rfl (by rfl) ?ysome_0 ?_
      case ysome_0=>intro w;go_simp<;>with_reducible rfl
      simp only [Act.put,sA,sZ,sS]
      refine' GoT.mv (i:=1) (oi:=⟨some 146,_,_,_,_,_⟩) rfl (by rfl) ?ysome_1 ?_
      case ysome_1=>intro w;go_simp<;>with_reducible rfl
      simp only [Act.put,sA,sZ,sS]
      refine' GoT.mv (i:=2) (oi:=⟨some 147,_,_,_,_,_⟩) rfl (by rfl) ?ysome_2 ?_
      case ysome_2=>intro w;go_simp<;>with_reducible rfl
      simp only [Act.put,sA,sZ,sS]
      refine' GoT.tk 1 (i:=3) (oi:=⟨some 148,_,_,_,_,_⟩) rfl (by rfl) ?ysome_3 ?_
      case ysome_3=>intro w hSw;have d4:=(hSw.cell (p:=⟨qx,4,none⟩) hxW (by simp)).trans x4;go_simp<;>with_reducible rfl
      simp only [Act.put,sA,sZ,sS]
      refine GoT.one (i:=4) (o:=⟨some 149,_,_,_,_,_⟩) rfl (by kernel_rfl) fun K hK=>?_
      go_simp
      go_at_call 39
      (with_reducible refine (HRF.out.1 _ hS).mono ?_)
      rintro e wa ⟨Aa,Ca,rfl,ra,ua⟩
      have RA:=Lib.hid (See.of_row ra)
      have hS4:=hS.trans ua
      clear ra ua
      refine hK.out _ _ (fun _ h=>?_) ?_
      ·exact hS4
      clear hK K
      try simp only [Act.put,sA,sZ,sS]
      refine GoT.one (i:=5) (o:=⟨some 150,_,_,_,_,_⟩) rfl (by kernel_rfl) fun K hK=>?_
      go_simp
      go_at_call 32
      (with_reducible refine (HSM.out.1 _ _ _ (HR4.out.1.upd0 hS4) RA.out).mono ?_)
      rintro e wb ⟨rfl,ub⟩
      have hS5:=hS4.trans ub
      clear ub
      refine hK.out _ _ (fun _ h=>?_) ?_
      ·exact hS5
      clear hK K
      try simp only [Act.put,sA,sZ,sS]
      refine' GoT.mv (i:=6) (oi:=⟨some 151,_,_,_,_,_⟩) rfl (by rfl) ?ysome_6 ?_
      case ysome_6=>intro w;go_simp<;>with_reducible rfl
      simp only [Act.put,sA,sZ,sS]
      refine' GoT.mv (i:=7) (oi:=⟨some 152,_,_,_,_,_⟩) rfl (by rfl) ?ysome_7 ?_
      case ysome_7=>intro w;go_simp<;>with_reducible rfl
      simp only [Act.put,sA,sZ,sS]
      refine' GoT.mv (i:=8) (oi:=⟨some 153,_,_,_,_,_⟩) rfl (by rfl) ?ysome_8 ?_
      case ysome_8=>intro w;go_simp<;>with_reducible rfl
      simp only [Act.put,sA,sZ,sS]
      refine' GoT.mv (i:=9) (oi:=⟨some 154,_,_,_,_,_⟩) rfl (by rfl) ?ysome_9 ?_
      case ysome_9=>intro w;go_simp<;>with_reducible rfl
      simp only [Act.put,sA,sZ,sS]
      refine' GoT.mv (i:=10) (oi:=⟨some 155,_,_,_,_,_⟩) rfl (by rfl) ?ysome_10 ?_
      case ysome_10=>intro w;go_simp<;>with_reducible rfl
      simp only [Act.put,sA,sZ,sS]
      refine' GoT.mv (i:=11) (oi:=⟨some 156,_,_,_,_,_⟩) rfl (by rfl) ?ysome_11 ?_
      case ysome_11=>intro w;go_simp<;>with_reducible rfl
      simp only [Act.put,sA,sZ,sS]
      refine' GoT.mv (i:=12) (oi:=⟨some 157,_,_,_,_,_⟩) rfl (by rfl) ?ysome_12 ?_
      case ysome_12=>intro w;go_simp<;>with_reducible rfl
      simp only [Act.put,sA,sZ,sS]
      refine' GoT.mv (i:=13) (oi:=⟨some 158,_,_,_,_,_⟩) rfl (by rfl) ?ysome_13 ?_
      case ysome_13=>intro w;go_simp<;>with_reducible rfl
      simp only [Act.put,sA,sZ,sS]
      refine' GoT.mv (i:=14) (oi:=⟨some 159,_,_,_,_,_⟩) rfl (by rfl) ?ysome_14 ?_
      case ysome_14=>intro w;go_simp<;>with_reducible rfl
      simp only [Act.put,sA,sZ,sS]
      refine' GoT.mv (i:=15) (oi:=⟨some 160,_,_,_,_,_⟩) rfl (by rfl) ?ysome_15 ?_
      case ysome_15=>intro w;go_simp<;>with_reducible rfl
      simp only [Act.put,sA,sZ,sS]
      refine' GoT.mv (i:=16) (oi:=⟨some 161,_,_,_,_,_⟩) rfl (by rfl) ?ysome_16 ?_
      case ysome_16=>intro w;go_simp<;>with_reducible rfl
      simp only [Act.put,sA,sZ,sS]
      refine' GoT.tk 1 (i:=17) (oi:=⟨some 162,_,_,_,_,_⟩) rfl (by rfl) ?ysome_17 ?_
      case ysome_17=>intro w hSw;have d4:=(hSw.cell (p:=⟨qx,4,none⟩) hxW (by simp)).trans x4;go_simp<;>with_reducible rfl
      simp only [Act.put,sA,sZ,sS]
      refine' GoT.mv (i:=18) (oi:=⟨some 163,_,_,_,_,_⟩) rfl (by rfl) ?ysome_18 ?_
      case ysome_18=>intro w;go_simp<;>with_reducible rfl
      simp only [Act.put,sA,sZ,sS]
      refine' GoT.tk 1 (i:=19) (oi:=⟨some 164,_,_,_,_,_⟩) rfl (by rfl) ?ysome_19 ?_
      case ysome_19=>intro w hSw;have d5:=(hSw.cell (p:=⟨qx,5,none⟩) hxW (by simp)).trans x5;go_simp<;>with_reducible rfl
      simp only [Act.put,sA,sZ,sS]
      refine GoT.one (i:=20) (o:=⟨some 165,_,_,_,_,_⟩) rfl (by kernel_rfl) fun K hK=>?_
      go_simp
      go_at_call 40
      (with_reducible refine (HRF.out.2 _ hS5).mono ?_)
      rintro e wc ⟨Ac,Cc,rfl,rc,uc⟩
      have RC:=Lib.hid (See.of_row rc)
      have hS6:=hS5.trans uc
      clear rc uc
      refine hK.out _ _ (fun _ h=>?_) ?_
      ·exact hS6
      clear hK K
      try simp only [Act.put,sA,sZ,sS]
      refine GoT.one (i:=21) (o:=⟨some 166,_,_,_,_,_⟩) rfl (by kernel_rfl) fun K hK=>?_
      go_simp
      go_at_call 32
      (with_reducible refine (HSM.out.2 _ _ _ (HR4.out.2.upd0 hS6) RC.out).mono ?_)
      rintro e wd ⟨rfl,ud⟩
      have hS7:=hS6.trans ud
      clear ud
      refine hK.out _ _ (fun _ h=>?_) ?_
      ·exact hS7
      clear hK K
      try simp only [Act.put,sA,sZ,sS]
      refine' GoT.mv (i:=22) (oi:=⟨some 167,_,_,_,_,_⟩) rfl (by rfl) ?ysome_22 ?_
      case ysome_22=>intro w;go_simp<;>with_reducible rfl
      simp only [Act.put,sA,sZ,sS]
      refine' GoT.mv (i:=23) (oi:=⟨some 168,_,_,_,_,_⟩) rfl (by rfl) ?ysome_23 ?_
      case ysome_23=>intro w;go_simp<;>with_reducible rfl
      simp only [Act.put,sA,sZ,sS]
      refine' GoT.mv (i:=24) (oi:=⟨some 169,_,_,_,_,_⟩) rfl (by rfl) ?ysome_24 ?_
      case ysome_24=>intro w;go_simp<;>with_reducible rfl
      simp only [Act.put,sA,sZ,sS]
      refine' GoT.mv (i:=25) (oi:=⟨some 170,_,_,_,_,_⟩) rfl (by rfl) ?ysome_25 ?_
      case ysome_25=>intro w;go_simp<;>with_reducible rfl
      simp only [Act.put,sA,sZ,sS]
      refine' GoT.mv (i:=26) (oi:=⟨some 171,_,_,_,_,_⟩) rfl (by rfl) ?ysome_26 ?_
      case ysome_26=>intro w;go_simp<;>with_reducible rfl
      simp only [Act.put,sA,sZ,sS]
      refine' GoT.mv (i:=27) (oi:=⟨some 172,_,_,_,_,_⟩) rfl (by rfl) ?ysome_27 ?_
      case ysome_27=>intro w;go_simp<;>with_reducible rfl
      simp only [Act.put,sA,sZ,sS]
      refine' GoT.mv (i:=28) (oi:=⟨some 173,_,_,_,_,_⟩) rfl (by rfl) ?ysome_28 ?_
      case ysome_28=>intro w;go_simp<;>with_reducible rfl
      simp only [Act.put,sA,sZ,sS]
      refine' GoT.mv (i:=29) (oi:=⟨some 174,_,_,_,_,_⟩) rfl (by rfl) ?ysome_29 ?_
      case ysome_29=>intro w;go_simp<;>with_reducible rfl
      simp only [Act.put,sA,sZ,sS]
      refine' GoT.mv (i:=30) (oi:=⟨some 175,_,_,_,_,_⟩) rfl (by rfl) ?ysome_30 ?_
      case ysome_30=>intro w;go_simp<;>with_reducible rfl
      simp only [Act.put,sA,sZ,sS]
      refine' GoT.mv (i:=31) (oi:=⟨some 176,_,_,_,_,_⟩) rfl (by rfl) ?ysome_31 ?_
      case ysome_31=>intro w;go_simp<;>with_reducible rfl
      simp only [Act.put,sA,sZ,sS]
      refine' GoT.mv (i:=32) (oi:=⟨some 177,_,_,_,_,_⟩) rfl (by rfl) ?ysome_32 ?_
      case ysome_32=>intro w;go_simp<;>with_reducible rfl
      simp only [Act.put,sA,sZ,sS]
      refine' GoT.tk 1 (i:=33) (oi:=⟨some 178,_,_,_,_,_⟩) rfl (by rfl) ?ysome_33 ?_
      case ysome_33=>intro w hSw;have d0:=(hSw.cell (p:=⟨q8,0,none⟩) hqW (by simp)).trans k0;have d1:=(hSw.cell (p:=⟨q8,1,none⟩) hqW (by simp)).trans k1;have d2:=(hSw.cell (p:=⟨q8,2,none⟩) hqW (by simp)).trans k2;go_simp<;>with_reducible rfl
      simp only [Act.put,sA,sZ,sS]
      refine' GoT.mv (i:=34) (oi:=⟨some 179,_,_,_,_,_⟩) rfl (by rfl) ?ysome_34 ?_
      case ysome_34=>intro w;go_simp<;>with_reducible rfl
      simp only [Act.put,sA,sZ,sS]
      refine' GoT.mv (i:=35) (oi:=⟨some 180,_,_,_,_,_⟩) rfl (by rfl) ?ysome_35 ?_
      case ysome_35=>intro w;go_simp<;>with_reducible rfl
      simp only [Act.put,sA,sZ,sS]
      refine' GoT.mv (i:=36) (oi:=⟨some 181,_,_,_,_,_⟩) rfl (by rfl) ?ysome_36 ?_
      case ysome_36=>intro w;go_simp<;>with_reducible rfl
      simp only [Act.put,sA,sZ,sS]
      refine' GoT.tk 1 (i:=37) (oi:=⟨some 182,_,_,_,_,_⟩) rfl (by rfl) ?ysome_37 ?_
      case ysome_37=>intro w hSw;have d0:=(hSw.cell (p:=⟨gn,on+j*3,none⟩) hgW (by simp)).trans m0;have d1:=(hSw.cell (p:=⟨gn,on+j*3+1,none⟩) hgW (by simp)).trans m1;have d2:=(hSw.cell (p:=⟨gn,on+j*3+2,none⟩) hgW (by simp)).trans m2;go_simp<;>with_reducible rfl
      simp only [Act.put,sA,sZ,sS]
      refine' GoT.mv (i:=38) (oi:=⟨some 183,_,_,_,_,_⟩) rfl (by rfl) ?ysome_38 ?_
      case ysome_38=>intro w;have hne:=neSpT s w;go_simp<;>with_reducible rfl
      simp only [Act.put,sA,sZ,sS]
      refine' GoT.mv (i:=39) (oi:=⟨some 184,_,_,_,_,_⟩) rfl (by rfl) ?ysome_39 ?_
      case ysome_39=>intro w;go_simp<;>with_reducible rfl
      simp only [Act.put,sA,sZ,sS]
      refine' GoT.mv (i:=40) (oi:=⟨some 185,_,_,_,_,_⟩) rfl (by rfl) ?ysome_40 ?_
      case ysome_40=>intro w;go_simp<;>with_reducible rfl
      simp only [Act.put,sA,sZ,sS]
      refine' GoT.mv (i:=41) (oi:=⟨some 186,_,_,_,_,_⟩) rfl (by rfl) ?ysome_41 ?_
      case ysome_41=>intro w;go_simp<;>with_reducible rfl
      simp only [Act.put,sA,sZ,sS]
      refine' GoT.mv (i:=42) (oi:=⟨some 187,_,_,_,_,_⟩) rfl (by rfl) ?ysome_42 ?_
      case ysome_42=>intro w;go_simp<;>with_reducible rfl
      simp only [Act.put,sA,sZ,sS]
      refine' GoT.mv (i:=43) (oi:=⟨some 188,_,_,_,_,_⟩) rfl (by rfl) ?ysome_43 ?_
      case ysome_43=>intro w;go_simp<;>with_reducible rfl
      simp only [Act.put,sA,sZ,sS]
      refine' GoT.mv (i:=44) (oi:=⟨some 189,_,_,_,_,_⟩) rfl (by rfl) ?ysome_44 ?_
      case ysome_44=>intro w;go_simp<;>with_reducible rfl
      simp only [Act.put,sA,sZ,sS]
      refine' GoT.move (i:=45) (oi:=⟨some 190,_,_,_,_,_⟩) (v:=_) rfl (by kernel_rfl) (by kernel_rfl) (by kernel_rfl) (fun _ _ _ h=>h) (Or.inr ⟨by rfl,rfl⟩) ?rsome_45
      simp only [Act.put,sA,sZ,sS]
      refine' GoT.move (i:=46) (oi:=⟨some 191,_,_,_,_,_⟩) (v:=_) rfl (by kernel_rfl) (by kernel_rfl) (by kernel_rfl) (fun _ _ _ h=>h) (Or.inr ⟨by rfl,rfl⟩) ?rsome_46
      simp only [Act.put,sA,sZ,sS]
      refine' GoT.move (i:=47) (oi:=⟨some 192,_,_,_,_,_⟩) (v:=_) rfl (by kernel_rfl) (by kernel_rfl) (by kernel_rfl) (fun _ _ _ h=>h) (Or.inr ⟨by rfl,rfl⟩) ?rsome_47
      simp only [Act.put,sA,sZ,sS]
      refine' GoT.mv (i:=48) (oi:=⟨some 193,_,_,_,_,_⟩) rfl (by rfl) ?ysome_48 ?_
      case ysome_48=>intro w;go_simp<;>with_reducible rfl
      simp only [Act.put,sA,sZ,sS]
      refine' GoT.mv (i:=49) (oi:=⟨some 194,_,_,_,_,_⟩) rfl (by rfl) ?ysome_49 ?_
      case ysome_49=>intro w;go_simp<;>with_reducible rfl
      simp only [Act.put,sA,sZ,sS]
      refine' GoT.mv (i:=50) (oi:=⟨some 195,_,_,_,_,_⟩) rfl (by rfl) ?ysome_50 ?_
      case ysome_50=>intro w;go_simp<;>with_reducible rfl
      simp only [Act.put,sA,sZ,sS]
      refine' GoT.mv (i:=51) (oi:=⟨some 196,_,_,_,_,_⟩) rfl (by rfl) ?ysome_51 ?_
      case ysome_51=>intro w;go_simp<;>with_reducible rfl
      simp only [Act.put,sA,sZ,sS]
      refine' GoT.mv (i:=53) (oi:=⟨some 198,_,_,_,_,_⟩) rfl (by rfl) ?ysome_53 ?_
      case ysome_53=>intro w;go_simp<;>with_reducible rfl
      simp only [Act.put,sA,sZ,sS]
      refine' GoT.mv (i:=54) (oi:=⟨some 199,_,_,_,_,_⟩) rfl (by rfl) ?ysome_54 ?_
      case ysome_54=>intro w;go_simp<;>with_reducible rfl
      simp only [Act.put,sA,sZ,sS]
      refine GoT.one (i:=52) (o:=⟨some 197,_,_,_,_,_⟩) rfl (by kernel_rfl) fun K hK=>?_
      go_simp
      go_at_call 33
      (with_reducible refine (HLN2.out _ hS7).mono ?_)
      rintro e we ⟨rfl,rfl⟩
      refine hK.out _ _ (fun _ h=>?_) ?_
      ·exact hS7
      clear hK K
      try simp only [Act.put,sA,sZ,sS]
      refine' GoT.mv (i:=55) (oi:=⟨some 200,_,_,_,_,_⟩) rfl (by rfl) ?ysome_55 ?_
      case ysome_55=>intro w;go_simp<;>with_reducible rfl
      simp only [Act.put,sA,sZ,sS]
      refine' GoT.mv (i:=56) (oi:=⟨some 201,_,_,_,_,_⟩) rfl (by rfl) ?ysome_56 ?_
      case ysome_56=>intro w;go_simp<;>with_reducible rfl
      simp only [Act.put,sA,sZ,sS]
      refine GoT.done (by kernel_rfl) ?_
      go_wp2_with fail
      go_roundg (n - (k+1))
      case measure=>have:=HK.out;omega
      case rel=>
       obtain ⟨r1,r2,r3,r4,r5⟩:=HEND.out
       have u8:=UW.out.trans hS7
       exact ⟨k+1,S',F',_,rfl,by have:=HK.out;omega,by go_num,r1.quiet u8,by omega,own_upd r3 u8 (by simp),r4,Nat.le_trans r5 u8.size⟩
  ·have HU:=Lib.hid hH.upd
   clear hH ht hrow hoff hsz
   go_wp2_with fail
   (with_reducible refine (HA.out _).mono ?_)
   rintro e w2 ⟨rfl,u2⟩
   have HU2:=Lib.hid (HU.out.trans u2)
   clear u2
   go_wp2_with fail
   go_ret
   exact ⟨rfl,HU2.out⟩
end Go.Proofs.YtkbaaonchdeneaaGreat.PSp
