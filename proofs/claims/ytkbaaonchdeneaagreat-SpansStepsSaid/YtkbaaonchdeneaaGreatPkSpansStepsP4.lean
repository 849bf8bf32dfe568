/- The law SpansSteps: the walk. Printed by genSS.py. -/
import Derived.IntWalk
import Derived.Test.YtkbaaonchdeneaaGreatPkSpansStepsP2
import Derived.Test.YtkbaaonchdeneaaGreatPkSpansStepsP3
set_option maxHeartbeats 16000000
set_option maxRecDepth 100000
namespace Go.Proofs.YtkbaaonchdeneaaGreat.PSp
open Go.RowKit
open Go.Proofs.YtkbaaonchdeneaaGreat.Ps
def allN (l:List Sp) (lo:Int) (j:Nat):List Nat:=(List.range j).flatMap fun (i:Nat)=>stabL l (lo+(i:Int))
theorem allN_next (l:List Sp) (lo:Int) (j:Nat):allN l lo (j+1)=allN l lo j++stabL l (lo+(j:Int)):=by
 unfold allN
 rw [List.range_succ,List.flatMap_append]
 simp
theorem allN_len (l:List Sp) (lo:Int) (j:Nat):(allN l lo j).length≤j*l.length:=by
 induction j with
 |zero=>simp [allN]
 |succ j ih=>
  rw [allN_next,List.length_append,Nat.add_mul]
  have:=stabL_len l (lo+(j:Int))
  omega
theorem mem_allN {l:List Sp} {lo:Int} {j n:Nat}:n∈allN l lo j↔∃i:Nat,i<j∧n∈stabL l (lo+(i:Int)):=by
 unfold allN
 rw [List.mem_flatMap]
 constructor
 ·rintro ⟨i,h1,h2⟩
  exact ⟨i,List.mem_range.1 h1,h2⟩
 ·rintro ⟨i,h1,h2⟩
  exact ⟨i,List.mem_range.2 h1,h2⟩
theorem in_meet {l:List Sp} (hr:∀s∈l,s.lo≤s.hi) (lo:Int) (n:Nat):n∈allN l lo 13↔n∈meetL l lo (lo+12):=by
 rw [mem_allN]
 have:=meet_stabs hr (lo:=lo) (k:=12) (n:=n)
 rw [show ((12:Nat):Int)=12 from rfl] at this
 rw [this]
 constructor
 ·rintro ⟨i,h1,h2⟩;exact ⟨i,by omega,h2⟩
 ·rintro ⟨i,h1,h2⟩;exact ⟨i,by omega,h2⟩
def lastN (l:List Sp) (lo:Int) (j:Nat):List Nat:=if j=0 then [] else stabL l (lo+(j:Int) - 1)
theorem stab_ids {l:List Sp} (h:HSp.Good l) {x:Int} {n:Nat} (hn:n∈stabL l x):n<4294967296:=by
 obtain ⟨s,h1,rfl,-⟩:=mem_stab.1 hn
 exact (h.in64 s h1).2.2
structure StepW (w0 w:World) (tv:Value) (S:PSS) (F:List Nat) (qi:Nat) (D E:List Nat):Prop where
 held:Held w0 w tv S F
 map:Cnts w qi D E
 off:qi∉F
 new:w0.heap.size≤qi
theorem Held.other {w0 w w':World} {tv:Value} {S:PSS} {F H:List Nat} (h:Held w0 w tv S F) (hu:Upd H w w') (hH:∀x∈H,w0.heap.size≤x∧x∉F):Held w0 w' tv S F:=
 ⟨h.is.upd hu (fun x hx hc=>(hH x hc).2 hx),h.inv,h.good,h.new,h.upd.trans' hu (fun x hx=>.inr (hH x hx).1)⟩
theorem StepW.quiet {w0 w w':World} {tv:Value} {S:PSS} {F:List Nat} {qi:Nat} {D E:List Nat} (h:StepW w0 w tv S F qi D E) (hu:Upd [] w w'):StepW w0 w' tv S F qi D E:=
 ⟨h.held.quiet hu,h.map.upd hu (by simp),h.off,h.new⟩
theorem spansSteps_walk (v:Value) (fr:Int) (l:List OpS) (w:World) (h:IsOpS w v l) (hl:l.length≤9223372036854775807) (hin:∀o∈l,o.in64) :
 Calls Tryz.prog 6 #[v,.int .i16 fr] w fun e w'=>e=.returned (.bool true)∧Upd [] w w':=by
 obtain ⟨n,hn⟩:∃n,min l.length 60=n:=⟨_,rfl⟩
 have hmn:Value.int .i64 (min (l.length:Int) 60)=Value.int .i64 (n:Int):=by rw [←hn];congr 1;omega
 obtain ⟨A1,C1,hrun1,hs1⟩:=opS_cut h n (by omega)
 obtain ⟨Ao,Co,rfl⟩:=h.form
 have hin1:∀o∈l.take n,o.in64:=fun o ho=>hin o (List.mem_of_mem_take ho)
 have hln:(l.take n).length=n:=by rw [List.length_take];omega
 have hn60:n≤60:=by omega
 generalize l.take n=os at hs1 hin1 hln
 obtain ⟨lo,hlo⟩:∃x:Int,fr.tmod 1000=x:=⟨_,rfl⟩
 have hlo1 : -1000<lo∧lo<1000:=by
  rw [←hlo]
  have h1:=Int.tmod_lt_of_pos fr (show (0:Int)<1000 by decide)
  have h2:=Int.lt_tmod_of_pos fr (show (0:Int)<1000 by decide)
  omega
 obtain ⟨lo1,lo2⟩:=hlo1
 have HS:=Lib.hid hs1
 have HIN:=Lib.hid hin1
 have HLN:=Lib.hid hln
 have HA:=Lib.hid (fun w=>awake24 w)
 have hmm:=@run_makeMap Tryz.prog
 clear h hin hs1 hin1 hln hn
 go_enter Tryz.func6,Tryz.ntmps6
 go_wp2_with fail
 (with_reducible refine (newP w).mono ?_)
 rintro e w1 ⟨tv,F0,rfl,h0,hn0,hu0⟩
 obtain ⟨q,hq⟩:∃q,tv=.pointer (some ⟨q,0,none⟩):=by obtain ⟨q,_,_,_,_,_,e,-⟩:=h0;exact ⟨q,e⟩
 subst hq
 have H0:=Lib.hid (⟨h0,inv0P,good0,hn0,hu0⟩:Held w w1 (.pointer (some ⟨q,0,none⟩)) P0 F0)
 clear h0 hn0 hu0
 go_wp2_with fail
 go_loopg [37] n (fun g i wr=>∃(k:Nat) (S:PSS) (F:List Nat),g+k=n∧i=.int .i64 (k:Int)∧Held w wr (.pointer (some ⟨q,0,none⟩)) S F∧S.t≤k)
 case atStart=>exact ⟨0,P0,F0,rfl,rfl,H0.out,Nat.le_refl _⟩
 case round=>
  obtain ⟨k,S,F,hk,rfl,hH,ht⟩:=hrel
  have k0:(0:Int)≤(k:Int):=Int.natCast_nonneg _
  have hkn:k≤n:=by omega
  have HK:=Lib.hid hk
  clear hk
  by_cases hlt:k<n
  ·obtain ⟨o,ho⟩:∃o,os[k]? = some o:=⟨_,List.getElem?_eq_getElem (by rw [HLN.out];exact hlt)⟩
   have hoi:o.in64:=HIN.out o (List.mem_of_getElem? ho)
   obtain ⟨g,og,hA,-,-,ey⟩:=(HS.out.upd0 hH.upd).at ho
   cases hA
   have y0:wr.cell? ⟨g,og+k*6,none⟩=some (.int .u8 (o.u:Int)):=ey 0 _ rfl
   have y1:wr.cell? ⟨g,og+k*6+1,none⟩=some (.int .i64 o.s.lo):=ey 1 _ rfl
   have y2:wr.cell? ⟨g,og+k*6+2,none⟩=some (.int .i64 o.s.hi):=ey 2 _ rfl
   have y3:wr.cell? ⟨g,og+k*6+3,none⟩=some (.int .u32 (o.s.id:Int)):=ey 3 _ rfl
   have y4:wr.cell? ⟨g,og+k*6+4,none⟩=some (.int .i64 o.lo):=ey 4 _ rfl
   have y5:wr.cell? ⟨g,og+k*6+5,none⟩=some (.int .i64 o.hi):=ey 5 _ rfl
   have b1:(k:Int)<(n:Int):=by omega
   have HD:=Lib.hid (fun (w9:World) (hu:Upd [] wr w9)=>doneC (hH.quiet hu) o hoi (by omega))
   unfold opVS at HD
   have HT:=Lib.hid ht
   clear ho hoi ey hH ht
   go_upto_region 5 with fail
   obtain ⟨Wx,hWx,hux,hqx⟩:=one_newC wr #[.int .u8 (o.u:Int),.int .i64 o.s.lo,.int .i64 o.s.hi,.int .u32 (o.s.id:Int),.int .i64 o.lo,.int .i64 o.hi] 72
   rw [←hWx]
   generalize wr.heap.size=qx at hqx ⊢
   have z0:Wx.cell? ⟨qx,0,none⟩=some (.int .u8 (o.u:Int)):=hqx.cell 0
   have z1:Wx.cell? ⟨qx,1,none⟩=some (.int .i64 o.s.lo):=hqx.cell 1
   have z2:Wx.cell? ⟨qx,2,none⟩=some (.int .i64 o.s.hi):=hqx.cell 2
   have z3:Wx.cell? ⟨qx,3,none⟩=some (.int .u32 (o.s.id:Int)):=hqx.cell 3
   have z4:Wx.cell? ⟨qx,4,none⟩=some (.int .i64 o.lo):=hqx.cell 4
   have z5:Wx.cell? ⟨qx,5,none⟩=some (.int .i64 o.hi):=hqx.cell 5
   have HUX:=Lib.hid hux
   clear hWx hqx hux y0 y1 y2 y3 y4 y5
   go_wp2_with fail
   (with_reducible refine (HD.out _ HUX.out).mono ?_)
   rintro e w3 ⟨n0,rfl,S',F',hh,-,-,haf⟩
   have HH:=Lib.hid (And.intro hh haf.t)
   clear hh haf z0 z1 z2 z3 z4 z5
   go_wp2_with fail
   go_roundg (n - (k+1))
   case measure=>have:=HK.out;omega
   case rel=>exact ⟨k+1,S',F',by have:=HK.out;omega,by go_num,HH.out.1,by have:=HH.out.2;have:=HT.out;omega⟩
  ·have ht60:S.t≤60:=by omega
   have HH:=Lib.hid hH
   clear hH ht
   obtain ⟨W1,hW1⟩:∃W:World,W=wr:=⟨_,rfl⟩
   subst hW1
   go_upto_region 9 with fail
   obtain ⟨W2,hW2⟩:∃W,W=W1.alloc (.map #[] 0):=⟨_,rfl⟩
   rw [←hW2]
   have u2:Upd [] W1 W2:=by rw [hW2];exact (Upd.refl _ _).alloc _
   have hcm:=Cnts.made W1
   rw [←hW2] at hcm
   obtain ⟨qi,hqi⟩:∃q,W1.heap.size=q:=⟨_,rfl⟩
   rw [hqi] at hcm ⊢
   have HW2:=Lib.hid (show StepW w W2 (.pointer (some ⟨q,0,none⟩)) S F qi [] [] from ⟨HH.out.quiet u2,hcm,fun hc=>by have:=HH.out.is.lt qi hc;omega,by have:=HH.out.upd.size;omega⟩)
   obtain ⟨L,hL⟩:∃L,lvs S=L:=⟨_,rfl⟩
   have hgood:=HH.out.good
   have hnm:=HH.out.inv.names
   have hlv:=lvs_le HH.out.inv
   rw [hL] at hgood hnm hlv
   have HG:=Lib.hid (And.intro hgood (And.intro hnm (And.intro hlv hL)))
   have hrt:∀s∈L,s.lo≤s.hi:=(rightS_iff.1 hgood.right).1
   have HRT:=Lib.hid hrt
   clear hW2 u2 hcm hqi HH hL hgood hnm hlv hrt
   go_wp2_with fail
   go_loopg [10,11] 13 (fun m s10 s11 wr=>∃(j:Nat) (x:Int) (lv:Value) (E:List Nat),lv=s10∧m+j=13∧x=lo+(j:Int)∧s11=.int .i64 x∧StepW w wr (.pointer (some ⟨q,0,none⟩)) S F qi (allN L lo j) E∧E.length≤60*j∧See KU wr lv (lastN L lo j)∧∀b∈blk lv,b≠qi)
   case atStart=>exact ⟨0,_,_,[],rfl,rfl,rfl,by simp,HW2.out,Nat.le_refl _,See.of_row (base:=0) (World.ownsRow_nil _ _ _ _),by simp [blk]⟩
   case round=>
    obtain ⟨j,x,lv,E,hlv,hj,hx,rfl,hSW,hE,hse,hbl⟩:=hrel
    subst hlv
    have hj13:j≤13:=by omega
    have x1 : -1000<x:=by omega
    have x2:x<1013:=by omega
    have HJ:=Lib.hid (And.intro hj hx)
    by_cases hlt:j<13
    ·have hxl:x≤lo+12:=by omega
     obtain ⟨Al,Cl,hlvf⟩:=hse.form
     have hst:=stabP _ F S x wr hSW.held.is hSW.held.inv (by omega)
     rw [HG.out.2.2.2] at hst
     have hlen:=stabL_len L x
     have hNn:=stab_nodup HG.out.2.1 x
     have hNi:=fun (y:Nat) (hy:y∈stabL L x)=>stab_ids HG.out.1 hy
     have hwas:=fun (y:Nat) (hy:y∈stabL L x)=>stab_was HG.out.2.1 hy
     have hgoes:=fun (y:Nat) (hy:y∈stabL L (x - 1))=>stab_goes HG.out.2.1 hy
     have hnext:=allN_next L lo j
     rw [←hx] at hnext
     have hlast1:lastN L lo (j+1)=stabL L x:=by
      unfold lastN
      rw [if_neg (by omega),show lo+((j+1:Nat):Int) - 1=x by omega]
     have hlast:∀y∈lastN L lo j,y∈stabL L (x - 1):=by
      intro y hy
      unfold lastN at hy
      split at hy
      ·simp at hy
      ·rw [←hx] at hy;exact hy
     have hlastm:0<j→lastN L lo j=stabL L (x - 1):=by
      intro h0
      unfold lastN
      rw [if_neg (by omega),←hx]
     have hDl:=allN_len L lo j
     have hDl2:j*L.length≤13*60:=Nat.mul_le_mul hj13 (by have:=HG.out.2.2.1;omega)
     obtain ⟨N,hN⟩:∃N,stabL L x=N:=⟨_,rfl⟩
     obtain ⟨LA,hLA⟩:∃N,lastN L lo j=N:=⟨_,rfl⟩
     obtain ⟨D,hD⟩:∃N,allN L lo j=N:=⟨_,rfl⟩
     rw [hN] at hst hlen hNn hNi hwas hnext hlast1
     rw [hLA] at hse hlast hlastm
     rw [hD] at hSW hnext hDl
     obtain ⟨m,hm⟩:∃m,N.length=m:=⟨_,rfl⟩
     obtain ⟨ml,hml⟩:∃m,LA.length=m:=⟨_,rfl⟩
     have hlal:ml≤60:=by
      rw [←hml,←hLA]
      unfold lastN
      split
      ·simp
      ·have:=stabL_len L (lo+(j:Int) - 1);have:=HG.out.2.2.1;omega
     have hm60:m≤60:=by have:=HG.out.2.2.1;omega
     unfold AskPost StabPost at hst
     rw [hm] at hst
     rw [hLA,hml] at hlvf
     have hse':=hse
     rw [hlvf] at hse'
     rw [hlvf] at hbl
     rw [hlvf]
     have HBL:=Lib.hid hbl
     have HST:=Lib.hid hst
     have HSW:=Lib.hid (And.intro hSW hE)
     have HSE:=Lib.hid hse'
     have HP:=Lib.hid (And.intro hNn (And.intro hNi (And.intro hwas (And.intro hlast (And.intro hlastm (And.intro hm hml))))))
     have HGO:=Lib.hid (And.intro hgoes hN)
     have HNX:=Lib.hid (And.intro hnext (And.intro hlast1 (And.intro hDl (And.intro hDl2 hD))))
     have lo12:lo<1000:=lo2
     clear hbl hse hse' hst hSW hE hlen hNn hNi hwas hnext hlast1 hlast hlastm hDl hDl2 hm hml hgoes hx hj hlvf hN hLA hD
     go_wp2_with fail
     (with_reducible refine HST.out.mono ?_)
     rintro e w3 ⟨t3,⟨A3,C3,rfl,r3,u3⟩,-⟩
     have R3:=Lib.hid (See.of_row r3)
     have U3:=Lib.hid u3
     have HB3:=Lib.hid (show ∀b∈blk (.slice A3 m C3),b≠qi∧b<w3.heap.size from fun b hb=>⟨by have:=own_ge r3 b hb;have:=HSW.out.1.map.lt;omega,own_lt r3 b hb⟩)
     clear r3 u3
     go_upto_region 15 with fail
     obtain ⟨W4,hW4⟩:∃W,W=w3.alloc (.map #[] 0):=⟨_,rfl⟩
     rw [←hW4]
     have u4:Upd [] w3 W4:=by rw [hW4];exact (Upd.refl _ _).alloc _
     have hcn:=Cnts.made w3
     rw [←hW4] at hcn
     obtain ⟨qn,hqn⟩:∃q,w3.heap.size=q:=⟨_,rfl⟩
     rw [hqn] at hcn ⊢
     have sw4:=(HSW.out.1.quiet U3.out).quiet u4
     have hqin:qi≠qn:=by have:=(HSW.out.1.quiet U3.out).map.lt;omega
     have hqnF:qn∉F:=fun hc=>by have:=(HSW.out.1.held.quiet U3.out).is.lt qn hc;omega
     have hqnw:w.heap.size≤qn:=by have:=(HSW.out.1.held.quiet U3.out).upd.size;omega
     have R4:=Lib.hid (R3.out.upd0 u4)
     have SE4:=Lib.hid ((HSE.out.upd0 U3.out).upd0 u4)
     have S4:=Lib.hid (And.intro sw4 (And.intro hcn (And.intro hqin (And.intro hqnF hqnw))))
     have HQN:=Lib.hid hqn
     have U4:=Lib.hid u4
     clear hW4 u4 hcn hqn sw4 hqin hqnF hqnw
     go_wp2_with fail
     go_loopg [65] m (fun g s65 wr3=>∃(i:Nat) (En Ei:List Nat),g+i=m∧s65=.int .i64 (i:Int)∧StepW w wr3 (.pointer (some ⟨q,0,none⟩)) S F qi (D++N.take i) Ei∧Ei.length≤60*j+i∧Cnts wr3 qn (N.take i) En∧En.length≤i∧Upd [qi,qn] W4 wr3)
     case atStart=>exact ⟨0,[],E,rfl,rfl,by rw [List.take_zero,List.append_nil];exact S4.out.1,HSW.out.2,S4.out.2.1,Nat.le_refl _,Upd.refl _ _⟩
     case round=>
      obtain ⟨i,En,Ei,hi,rfl,hSWi,hEi,hcn,hEn,hup⟩:=hrel
      obtain ⟨wr3,hwr3⟩:∃W:World,W=wr:=⟨_,rfl⟩
      subst hwr3
      have i0:(0:Int)≤(i:Int):=Int.natCast_nonneg _
      have him:i≤m:=by omega
      have HI:=Lib.hid hi
      clear hi
      by_cases hlt3:i<m
      ·obtain ⟨y,hy⟩:∃y,N[i]? = some y:=⟨_,List.getElem?_eq_getElem (by rw [HP.out.2.2.2.2.2.1];exact hlt3)⟩
       have hym:y∈N:=List.mem_of_getElem? hy
       have hy32:=HP.out.2.1 y hym
       obtain ⟨s,hgs,hsm,hws⟩:=HP.out.2.2.1 y hym
       have hoff:∀k∈([qi,qn]:List Nat),w.heap.size≤k∧k∉F:=by
        intro k hk
        simp at hk
        rcases hk with rfl | rfl
        ·exact ⟨S4.out.1.new,S4.out.1.off⟩
        ·exact ⟨S4.out.2.2.2.2,S4.out.2.2.2.1⟩
       have hR:See KU wr3 (.slice A3 m C3) N:=R4.out.upd hup (fun _ b hb _ hc=>by have:=HB3.out b hb;have:=HQN.out;simp at hc;omega)
       have hL3:See KU wr3 (.slice Al ml Cl) LA:=(HSE.out.upd0 U3.out).upd ((U4.out.mono (by simp)).trans hup) (fun _ b hb hb2 hc=>by have:=HBL.out b hb;have:=HQN.out;simp at hc;omega)
       have htk:N.take (i+1)=N.take i++[y]:=by
        obtain ⟨g1,g2⟩:=List.getElem?_eq_some_iff.1 hy
        rw [List.take_succ_eq_append_getElem g1,g2]
       obtain ⟨g,og,hA,-,-,ey⟩:=KU.atS hR hy
       cases hA
       have hlk:=hcn.look hy32
       obtain ⟨w5,En5,hpt,hcn5,hu5,hz5,hEn5⟩:=hcn.put hy32 (by omega)
       rw [←htk] at hcn5
       have hmap5:=hSWi.map.upd hu5 (by simp;exact S4.out.2.2.1)
       have hlk6:=hmap5.look hy32
       obtain ⟨w6,Ei6,hpt6,hci6,hu6,hz6,hEi6⟩:=hmap5.put hy32 (by omega)
       rw [List.append_assoc,←htk] at hci6
       have hcn6:=hcn5.upd hu6 (by simp;exact Ne.symm S4.out.2.2.1)
       have hc:(N.take i).count y≤60:=Nat.le_trans List.count_le_length (by rw [List.length_take];omega)
       have hd:(D++N.take i).count y≤2000:=Nat.le_trans List.count_le_length (by rw [List.length_append,List.length_take];have:=HNX.out.2.2.1;have:=HNX.out.2.2.2.1;omega)
       generalize (N.take i).count y=c at hlk hpt hc
       generalize (D++N.take i).count y=d at hlk6 hpt6 hd
       obtain ⟨c1,hc1⟩:∃z,c+1=z:=⟨_,rfl⟩
       obtain ⟨d1,hd1⟩:∃z,d+1=z:=⟨_,rfl⟩
       rw [hc1] at hpt
       rw [hd1] at hpt6
       have hc1v:Value.int .i64 ((c:Int)+1)=Value.int .i64 (c1:Int):=by congr 1;omega
       have hd1v:Value.int .i64 ((d:Int)+1)=Value.int .i64 (d1:Int):=by congr 1;omega
       have held6:=(hSWi.held.other hu5 (fun k hk=>hoff k (by simp at hk;simp [hk]))).other hu6 (fun k hk=>hoff k (by simp at hk;simp [hk]))
       have up6:Upd [qi,qn] W4 w6:=(hup.trans (hu5.mono (by simp))).trans (hu6.mono (by simp))
       have hR6:=(hR.upd hu5 (fun _ b hb _ hc=>by have:=HB3.out b hb;have:=HQN.out;simp at hc;omega)).upd hu6 (fun _ b hb _ hc=>by have:=HB3.out b hb;simp at hc;omega)
       have hL6:See KU w6 (.slice Al ml Cl) LA:=(HSE.out.upd0 U3.out).upd ((U4.out.mono (by simp)).trans up6) (fun _ b hb hb2 hc=>by have:=HBL.out b hb;have:=HQN.out;simp at hc;omega)
       have hgt:=getAny held6 y (by omega)
       rw [HG.out.2.2.2,hgs] at hgt
       have hgt2:Calls Tryz.prog 36 #[.pointer (some ⟨q,0,none⟩),.int .u32 (y:Int)] w6 fun e w'=>e=.returned (.tuple #[.agg #[.int .i64 s.lo,.int .i64 s.hi,.int .u32 (s.id:Int)],.bool true])∧Upd [] w6 w':=hgt
       have HGT:=Lib.hid hgt2
       have HS6:=Lib.hid (show StepW w w6 (.pointer (some ⟨q,0,none⟩)) S F qi (D++N.take (i+1)) Ei6 from ⟨held6,hci6,hSWi.off,hSWi.new⟩)
       have HC6:=Lib.hid (And.intro hcn6 (And.intro up6 (And.intro hL6 (And.intro (show Ei6.length≤60*j+(i+1) from by omega) (show En5.length≤i+1 from by omega)))))
       have HWS:=Lib.hid hws
       have b1:(i:Int)<(m:Int):=by omega
       have s0:s.in64:=by have h9:=HG.out.1.in64 s hsm;exact h9
       obtain ⟨⟨sl1,sl2⟩,-,-⟩:=s0
       clear hSWi hEi hcn hEn hup hR hL3 htk hcn5 hu5 hz5 hEn5 hmap5 hci6 hu6 hz6 hEi6 hcn6 hc1 hd1 held6 up6 hR6 hL6 hgt hgt2 hws hoff hy hym hy32 hgs hsm
       go_upto_region 20 with fail
       clear hlk hpt hlk6 hpt6 hc1v hd1v ey
       go_wp2_with fail
       (with_reducible refine HGT.out.mono ?_)
       rintro e w7 ⟨rfl,u7⟩
       have U7:=Lib.hid u7
       clear u7
       go_upto_region 21 with fail
       obtain ⟨W8,hW8,u8,q8c⟩:=one_newC w7 #[.int .i64 s.lo,.int .i64 s.hi,.int .u32 (s.id:Int)] 62
       rw [←hW8]
       generalize w7.heap.size=q17 at q8c ⊢
       have zlo:W8.cell? ⟨q17,0,none⟩=some (.int .i64 s.lo):=q8c.cell 0
       have U8:=Lib.hid (U7.out.trans u8)
       have SL8:=Lib.hid (HC6.out.2.2.1.upd0 (U7.out.trans u8))
       clear hW8 u8 q8c
       go_wp2_with fail
       go_loopg [19,85] ml (fun g s19 s85 wr4=>∃(p:Nat) (b:Bool),g+p=ml∧s19=.bool b∧s85=.int .i64 (p:Int)∧b=decide (y∈LA.take p)∧W8=wr4)
       case atStart=>exact ⟨0,false,rfl,rfl,rfl,by simp,rfl⟩
       case round=>
        obtain ⟨p,b,hp,rfl,rfl,hb,rfl⟩:=hrel
        have p0:(0:Int)≤(p:Int):=Int.natCast_nonneg _
        have hpm:p≤ml:=by omega
        have HPB:=Lib.hid (And.intro hp hb)
        clear hp hb
        by_cases hlt4:p<ml
        ·obtain ⟨z,hz⟩:∃z,LA[p]? = some z:=⟨_,List.getElem?_eq_getElem (by rw [HP.out.2.2.2.2.2.2];exact hlt4)⟩
         obtain ⟨g5,og5,hA5,-,-,ez⟩:=KU.atS SL8.out hz
         cases hA5
         have htk:LA.take (p+1)=LA.take p++[z]:=by
          obtain ⟨g1,g2⟩:=List.getElem?_eq_some_iff.1 hz
          rw [List.take_succ_eq_append_getElem g1,g2]
         have HTK:=Lib.hid htk
         have b2:(p:Int)<(ml:Int):=by omega
         clear hz htk
         cases b
         ·by_cases hzy:z=y
          ·have q1:((z:Int)==(y:Int))=true:=by simp [hzy]
           have HZ:=Lib.hid hzy
           clear hzy
           go_wp2_with fail
           go_roundg (ml - (p+1))
           case measure=>have:=HPB.out.1;omega
           case rel=>exact ⟨p+1,true,by have:=HPB.out.1;omega,rfl,by go_num,by rw [HTK.out,HZ.out];simp,rfl⟩
          ·have q1:((z:Int)==(y:Int))=false:=by simp;omega
           have HZ:=Lib.hid hzy
           clear hzy
           go_wp2_with fail
           go_roundg (ml - (p+1))
           case measure=>have:=HPB.out.1;omega
           case rel=>
            refine ⟨p+1,false,by have:=HPB.out.1;omega,rfl,by go_num,?_,rfl⟩
            have h1:=HPB.out.2
            symm at h1 ⊢
            rw [decide_eq_false_iff_not] at h1 ⊢
            rw [HTK.out,List.mem_append]
            rintro (h2 | h2)
            ·exact h1 h2
            ·simp at h2;exact HZ.out h2.symm
         ·go_wp2_with fail
          go_roundg (ml - (p+1))
          case measure=>have:=HPB.out.1;omega
          case rel=>
           refine ⟨p+1,true,by have:=HPB.out.1;omega,rfl,by go_num,?_,rfl⟩
           have h1:=HPB.out.2
           symm at h1 ⊢
           rw [decide_eq_true_iff] at h1 ⊢
           rw [HTK.out]
           exact List.mem_append_left _ h1
        ·have hbb:b=decide (y∈LA):=by
          have h1:=HPB.out.2
          rw [List.take_of_length_le (by rw [HP.out.2.2.2.2.2.2];omega)] at h1
          exact h1
         obtain ⟨bl,hbl⟩:∃c,(s.lo==x)=c:=⟨_,rfl⟩
         have hcase:(¬lo<x)∨(lo<x∧b = !bl):=by
          rcases Nat.eq_zero_or_pos j with h0 | h0
          ·left;have:=HJ.out.2;omega
          ·right
           refine ⟨by have:=HJ.out.2;omega,?_⟩
           rw [hbb,←hbl,HP.out.2.2.2.2.1 h0,Bool.eq_iff_iff,decide_eq_true_iff,HWS.out]
           simp
         have HE:=Lib.hid (show StepW w W8 (.pointer (some ⟨q,0,none⟩)) S F qi (D++N.take (i+1)) Ei6∧Cnts W8 qn (N.take (i+1)) En5∧Upd [qi,qn] W4 W8 from ⟨HS6.out.quiet U8.out,HC6.out.1.upd U8.out (by simp),HC6.out.2.1.trans (U8.out.mono (by simp))⟩)
         clear hbb
         rcases hcase with hnl | ⟨hnl,hbv⟩
         ·go_wp2_with fail
          go_roundg (m - (i+1))
          case measure=>have:=HI.out;omega
          case rel=>exact ⟨i+1,En5,Ei6,by have:=HI.out;omega,by go_num,HE.out.1,HC6.out.2.2.2.1,HE.out.2.1,HC6.out.2.2.2.2,HE.out.2.2⟩
         ·cases bl
          ·simp only [Bool.not_false] at hbv
           subst hbv
           go_wp2_with fail
           go_roundg (m - (i+1))
           case measure=>have:=HI.out;omega
           case rel=>exact ⟨i+1,En5,Ei6,by have:=HI.out;omega,by go_num,HE.out.1,HC6.out.2.2.2.1,HE.out.2.1,HC6.out.2.2.2.2,HE.out.2.2⟩
          ·simp only [Bool.not_true] at hbv
           subst hbv
           go_wp2_with fail
           go_roundg (m - (i+1))
           case measure=>have:=HI.out;omega
           case rel=>exact ⟨i+1,En5,Ei6,by have:=HI.out;omega,by go_num,HE.out.1,HC6.out.2.2.2.1,HE.out.2.1,HC6.out.2.2.2.2,HE.out.2.2⟩
      ·have him2:N.take i=N:=by rw [List.take_of_length_le];rw [HP.out.2.2.2.2.2.1];omega
       rw [him2] at hSWi hcn
       have hR:See KU wr3 (.slice A3 m C3) N:=R4.out.upd hup (fun _ b hb _ hc=>by have:=HB3.out b hb;have:=HQN.out;simp at hc;omega)
       have hL3:See KU wr3 (.slice Al ml Cl) LA:=(HSE.out.upd0 U3.out).upd ((U4.out.mono (by simp)).trans hup) (fun _ b hb hb2 hc=>by have:=HBL.out b hb;have:=HQN.out;simp at hc;omega)
       have HE3:=Lib.hid (And.intro hSWi (And.intro hcn (And.intro hR (And.intro hL3 (show Ei.length≤60*(j+1) from by omega)))))
       clear hSWi hEi hcn hEn hup hR hL3 him2
       go_wp2_with fail
       go_loopg [114] ml (fun g s wr5=>∃p:Nat,g+p=ml∧s=.int .i64 (p:Int)∧Upd [] wr3 wr5)
       case atStart=>exact ⟨0,rfl,rfl,Upd.refl _ _⟩
       case round=>
        obtain ⟨p,hp,rfl,hup⟩:=hrel
        obtain ⟨wr5,hwr5⟩:∃W:World,W=wr:=⟨_,rfl⟩
        subst hwr5
        have p0:(0:Int)≤(p:Int):=Int.natCast_nonneg _
        have hpm:p≤ml:=by omega
        have HPP:=Lib.hid (And.intro hp hup)
        clear hp
        by_cases hlt5:p<ml
        ·obtain ⟨z,hz⟩:∃z,LA[p]? = some z:=⟨_,List.getElem?_eq_getElem (by rw [HP.out.2.2.2.2.2.2];exact hlt5)⟩
         have hzm:z∈stabL L (x - 1):=HP.out.2.2.2.1 z (List.mem_of_getElem? hz)
         have hz32:=stab_ids HG.out.1 hzm
         obtain ⟨s,hgs,hsm,hgo⟩:=HGO.out.1 z hzm
         rw [HGO.out.2] at hgo
         obtain ⟨g5,og5,hA5,-,-,ez⟩:=KU.atS (HE3.out.2.2.2.1.upd0 hup) hz
         cases hA5
         have hgt:=getAny (HE3.out.1.held.quiet hup) z (by omega)
         rw [HG.out.2.2.2,hgs] at hgt
         have hgt2:Calls Tryz.prog 36 #[.pointer (some ⟨q,0,none⟩),.int .u32 (z:Int)] wr5 fun e w'=>e=.returned (.tuple #[.agg #[.int .i64 s.lo,.int .i64 s.hi,.int .u32 (s.id:Int)],.bool true])∧Upd [] wr5 w':=hgt
         have HGT:=Lib.hid hgt2
         obtain ⟨c,hc⟩:∃c,N.count z=c:=⟨_,rfl⟩
         have hgc:c=0↔s.hi=x - 1:=by rw [←hc,List.count_eq_zero];exact hgo
         have HLK:=Lib.hid (fun (w9:World) (hu:Upd [] wr5 w9)=>by
          have h9:=(HE3.out.2.1.upd (hup.trans hu) (by simp)).look hz32
          rw [hc] at h9
          exact h9)
         have s0:s.in64:=HG.out.1.in64 s hsm
         obtain ⟨-,⟨sh1,sh2⟩,-⟩:=s0
         have b2:(p:Int)<(ml:Int):=by omega
         clear hz hzm hz32 hgs hsm hgo hgt hgt2 hc hup
         go_wp2_with fail
         (with_reducible refine HGT.out.mono ?_)
         rintro e w7 ⟨rfl,u7⟩
         have U7:=Lib.hid u7
         clear u7 ez
         go_upto_region 34 with fail
         obtain ⟨W8,hW8,u8,q8c⟩:=one_newC w7 #[.int .i64 s.lo,.int .i64 s.hi,.int .u32 (s.id:Int)] 62
         rw [←hW8]
         generalize w7.heap.size=q24 at q8c ⊢
         have zhi:W8.cell? ⟨q24,1,none⟩=some (.int .i64 s.hi):=q8c.cell 1
         have U8:=Lib.hid (U7.out.trans u8)
         have hlk:=HLK.out W8 U8.out
         clear hW8 u8 q8c
         by_cases hh:s.hi=x - 1
         ·have q1:((c:Int)==0)=true:=by have:=hgc.2 hh;simp;omega
          have q2:(s.hi==x - 1)=true:=by simp [hh]
          clear hgc hh
          go_wp2_with fail
          go_roundg (ml - (p+1))
          case measure=>have:=HPP.out.1;omega
          case rel=>exact ⟨p+1,by have:=HPP.out.1;omega,by go_num,HPP.out.2.trans U8.out⟩
         ·have q1:((c:Int)==0)=false:=by
           have:c≠0:=fun e=>hh (hgc.1 e)
           simp;omega
          have q2:(s.hi==x - 1)=false:=by simpa using hh
          clear hgc hh
          go_wp2_with fail
          go_roundg (ml - (p+1))
          case measure=>have:=HPP.out.1;omega
          case rel=>exact ⟨p+1,by have:=HPP.out.1;omega,by go_num,HPP.out.2.trans U8.out⟩
        ·have HEND:=Lib.hid (And.intro (HE3.out.1.quiet hup) (HE3.out.2.2.1.upd0 hup))
         clear hup
         go_wp2_with fail
         go_roundg (13 - (j+1))
         case measure=>have:=HJ.out.1;omega
         case rel=>
          refine ⟨j+1,x+1,_,Ei,rfl,by have:=HJ.out.1;omega,by have:=HJ.out.2;push_cast;omega,by go_num,?_,HE3.out.2.2.2.2,?_,fun b hb=>(HB3.out b hb).1⟩
          ·rw [HNX.out.1];exact HEND.out.1
          ·rw [HNX.out.2.1];exact HEND.out.2
    ·have hj2:j=13:=by omega
     subst hj2
     have hxl:¬x≤lo+12:=by omega
     have hme:=meetP _ F S lo (lo+12) wr hSW.held.is hSW.held.inv (by omega)
     rw [HG.out.2.2.2] at hme
     have hmem:=fun (y:Nat)=>in_meet HRT.out lo y
     have hmn:=meet_nodup HG.out.2.1 lo (lo+12)
     have hml3:(meetL L lo (lo+12)).length≤60:=by
      have h9:=HG.out.2.2.1
      unfold meetL
      split
      ·simp
      ·rw [sortN_len,List.length_map]
       have:=List.length_filter_le (fun s:Sp=>decide (lo≤s.hi)&&decide (s.lo≤lo+12)) L
       omega
     have hmid:∀y∈meetL L lo (lo+12),y<4294967296:=fun y hy=>by
      obtain ⟨i,-,h2⟩:=mem_allN.1 ((hmem y).2 hy)
      exact stab_ids HG.out.1 h2
     generalize meetL L lo (lo+12)=M at hme hmem hmn hml3 hmid
     obtain ⟨mm,hmm2⟩:∃m,M.length=m:=⟨_,rfl⟩
     have hEM:E.length=mm:=by
      rw [←hmm2]
      exact (perm_of hSW.map.nd hmn (fun y=>(hSW.map.mem y).trans (hmem y))).length_eq
     unfold AskPost StabPost at hme
     rw [hmm2] at hme hml3
     have HME:=Lib.hid hme
     have HQ:=Lib.hid (And.intro hSW (And.intro hmem (And.intro hmm2 (And.intro hEM hmid))))
     have hee:((mm:Int)==(mm:Int))=true:=by simp
     obtain ⟨W9,hW9⟩:∃W:World,W=wr:=⟨_,rfl⟩
     subst hW9
     clear hme hSW hmem hmn hmm2 hEM hE hse hbl hj hmid HJ
     go_wp2_with fail
     (with_reducible refine HME.out.mono ?_)
     rintro e w3 ⟨t3,⟨A3,C3,rfl,r3,u3⟩,-⟩
     have R3:=Lib.hid (See.of_row r3)
     have S3:=Lib.hid (HQ.out.1.quiet u3)
     clear r3 u3
     go_wp2_with fail
     go_loopg [150] mm (fun g s wr=>∃p:Nat,g+p=mm∧s=.int .i64 (p:Int)∧wr=w3)
     case atStart=>exact ⟨0,rfl,rfl,rfl⟩
     case round=>
      obtain ⟨p,hp,rfl,rfl⟩:=hrel
      have p0:(0:Int)≤(p:Int):=Int.natCast_nonneg _
      have hpm:p≤mm:=by omega
      have HPP:=Lib.hid hp
      clear hp
      by_cases hlt6:p<mm
      ·obtain ⟨y,hy⟩:∃y,M[p]? = some y:=⟨_,List.getElem?_eq_getElem (by rw [HQ.out.2.2.1];exact hlt6)⟩
       have hym:=List.mem_of_getElem? hy
       obtain ⟨g5,og5,hA5,-,-,ez⟩:=KU.atS R3.out hy
       cases hA5
       have hlk:=S3.out.map.look (HQ.out.2.2.2.2 y hym)
       have hpos:(allN L lo 13).count y≠0:=by
        rw [Ne,List.count_eq_zero]
        exact fun hc=>hc ((HQ.out.2.1 y).2 hym)
       generalize (allN L lo 13).count y=c at hlk hpos
       have q1:((c:Int)==0)=false:=by simp;omega
       have b2:(p:Int)<(mm:Int):=by omega
       clear hpos hy hym
       go_wp2_with fail
       go_roundg (mm - (p+1))
       case measure=>have:=HPP.out;omega
       case rel=>exact ⟨p+1,by have:=HPP.out;omega,by go_num,rfl⟩
      ·have hlm:=S3.out.map.len 3
       rw [HQ.out.2.2.2.1] at hlm
       have HU:=Lib.hid S3.out.held.upd
       go_wp2_with fail
       (with_reducible refine (HA.out _).mono ?_)
       rintro e w2 ⟨rfl,u2⟩
       have HU2:=Lib.hid (HU.out.trans u2)
       clear u2
       go_wp2_with fail
       go_ret
       exact ⟨rfl,HU2.out⟩
end Go.Proofs.YtkbaaonchdeneaaGreat.PSp
