/- The law SpansOrder: the walk. Printed by genSO.py. -/
import Derived.IntWalk
import Derived.Test.YtkbaaonchdeneaaGreatPkSpansOrderP2
import Derived.Test.YtkbaaonchdeneaaGreatPkSpansTellP5
set_option maxHeartbeats 16000000
set_option maxRecDepth 100000
namespace Go.Proofs.YtkbaaonchdeneaaGreat.PSp
open Go.RowKit
open Go.Proofs.YtkbaaonchdeneaaGreat.Ps
theorem infoL24:(Tryz.prog.info? 2).map (fun i=>(i.zero,i.size,i.bytes))=some (some (.int .i64 0),1,8):=by kernel_rfl
theorem ok_next {l:List Sp} (hn:(l.map Sp.id).Nodup) {k:Nat} {s:Sp} (hs:l[k]? = some s):putL (okS (l.take k)) s=okS (l.take (k+1)):=by
 obtain ⟨g1,g2⟩:=List.getElem?_eq_some_iff.1 hs
 have e:l.take (k+1)=l.take k++[s]:=by rw [List.take_succ_eq_append_getElem g1,g2]
 have h1:((l.take (k+1)).map Sp.id).Nodup:=hn.sublist ((List.take_sublist _ _).map _)
 rw [e,List.map_append,List.nodup_append] at h1
 rw [e,okS_app]
 refine put_ok fun u hu=>?_
 have hu2:u∈l.take k:=by unfold okS at hu;exact (List.mem_filter.1 hu).1
 exact h1.2.2 u.id (List.mem_map.2 ⟨u,hu2,rfl⟩) s.id (by simp)
theorem spansOrder_walk (v1 v2 v3:Value) (l bt:List Sp) (xs:List Int) (w:World) (h1:See KSp w v1 l) (h2:See KSp w v2 bt) (h3:See KL w v3 xs) (hi1:∀s∈l,s.in64) (hi2:∀s∈bt,s.in64)
 (hl1:l.length≤9223372036854775807) (hl2:bt.length≤9223372036854775807) (hl3:xs.length≤9223372036854775807) :
 Calls Tryz.prog 5 #[v1,v2,v3] w fun e w'=>e=.returned (.bool true)∧Upd [] w w':=by
 obtain ⟨i1,hz1,hy0,hy1,hy2⟩:=info_parts infoSpanD
 obtain ⟨i3,hz3,hx0,hx1,hx2⟩:=info_parts infoL24
 obtain ⟨n1,hn1⟩:∃n,min l.length 50=n:=⟨_,rfl⟩
 obtain ⟨n3,hn3⟩:∃n,min xs.length 8=n:=⟨_,rfl⟩
 have hm1:Value.int .i64 (min (l.length:Int) 50)=Value.int .i64 (n1:Int):=by rw [←hn1];congr 1;omega
 have hm3:Value.int .i64 (min (xs.length:Int) 8)=Value.int .i64 (n3:Int):=by rw [←hn3];congr 1;omega
 obtain ⟨A1,C1,hrun1,hs1,-⟩:=See.take (K:=KSp) (P:=Tryz.prog) Tryz.underlying56 hz1 hy1 h1 n1 (by omega)
 obtain ⟨A3,C3,hrun3,hs3,-⟩:=See.take (K:=KL) (P:=Tryz.prog) Tryz.underlying57 hz3 hx1 h3 n3 (by omega)
 replace hs1:=hs1 w h1
 replace hs3:=hs3 w h3
 obtain ⟨Ao,Co,rfl⟩:=h1.form
 obtain ⟨Ab,Cb,rfl⟩:=h2.form
 obtain ⟨Ax,Cx,rfl⟩:=h3.form
 have hrunA:∀w':World,(Instr.slice 56 (.slice Ao l.length Co) none (some (.int .i64 (n1:Int))) none).run Tryz.prog w'=.ok (.slice A1 n1 C1) w':=hrun1
 have hrunX:∀w':World,(Instr.slice 57 (.slice Ax xs.length Cx) none (some (.int .i64 (n3:Int))) none).run Tryz.prog w'=.ok (.slice A3 n3 C3) w':=hrun3
 have hin1:∀s∈l.take n1,s.in64:=fun o ho=>hi1 o (List.mem_of_mem_take ho)
 have hln1:(l.take n1).length=n1:=by rw [List.length_take];omega
 have hln3:(xs.take n3).length=n3:=by rw [List.length_take];omega
 have hx3:∀k,k<n3→0<xs.length:=fun k hk=>by omega
 have hn50:n1≤50:=by omega
 have hn8:n3≤8:=by omega
 generalize l.take n1=ls at hs1 hin1 hln1
 generalize xs.take n3=ys at hs3 hln3
 obtain ⟨nb,hnb⟩:∃n,bt.length=n:=⟨_,rfl⟩
 obtain ⟨nx,hnx⟩:∃n,xs.length=n:=⟨_,rfl⟩
 have nb0:(0:Int)≤(nb:Int):=Int.natCast_nonneg _
 rw [hnb] at h2 hl2 ⊢
 rw [hnx] at h3 hl3 hx3 hrunX hm3 ⊢
 obtain ⟨put,hput⟩:∃q,fstL ls=q:=⟨_,rfl⟩
 obtain ⟨f1,f2,f3,f4⟩:=fst_ids ls
 rw [hput] at f1 f2 f3 f4
 have HS1:=Lib.hid hs1
 have HS2:=Lib.hid h2
 have HS3:=Lib.hid h3
 have HS4:=Lib.hid hs3
 have HIN:=Lib.hid (And.intro hin1 hi2)
 have HLN:=Lib.hid (And.intro hln1 (And.intro hnb (And.intro hln3 (And.intro hx3 hnx))))
 have HPU:=Lib.hid (And.intro f1 (And.intro f2 (And.intro f3 (And.intro f4 hput))))
 have HA:=Lib.hid (fun w=>awake24 w)
 have hmm:=@run_makeMap Tryz.prog
 clear h1 h2 h3 hi1 hi2 hs1 hs3 hin1 hln1 hln3 hn1 hn3 hx3 hnb hnx hrun1 hrun3 hput f1 f2 f3 f4
 go_enter Tryz.func5,Tryz.ntmps5
 go_wp2_with fail
 (with_reducible refine (newP w).mono ?_)
 rintro e w1 ⟨ta,Fa,rfl,h0,hn0,hu0⟩
 obtain ⟨qa,hq⟩:∃q,ta=.pointer (some ⟨q,0,none⟩):=by obtain ⟨q,_,_,_,_,_,e,-⟩:=h0;exact ⟨q,e⟩
 subst hq
 have H0:=Lib.hid (⟨h0,inv0P,good0,hn0,hu0⟩:Held w w1 (.pointer (some ⟨qa,0,none⟩)) P0 Fa)
 clear h0 hn0 hu0
 go_wp2_with fail
 (with_reducible refine (newP w1).mono ?_)
 rintro e w2 ⟨tb,Fb,rfl,h0,hn0,hu0⟩
 obtain ⟨qb,hq⟩:∃q,tb=.pointer (some ⟨q,0,none⟩):=by obtain ⟨q,_,_,_,_,_,e,-⟩:=h0;exact ⟨q,e⟩
 subst hq
 have hsz:=H0.out.upd.size
 have HT0:=Lib.hid (show Two w w2 (.pointer (some ⟨qa,0,none⟩)) (.pointer (some ⟨qb,0,none⟩)) P0 P0 Fa Fb [] from
  ⟨H0.out.quiet hu0,⟨h0,inv0P,good0,fun x hx=>by have:=hn0 x hx;omega,H0.out.upd.trans hu0⟩,fun x hx hc=>by have:=hn0 x hc;have:=H0.out.is.lt x hx;omega,by simp⟩)
 clear h0 hn0 hu0 hsz
 go_upto_region 4 with fail
 obtain ⟨W3,hW3⟩:∃W,W=w2.alloc (.map #[] 0):=⟨_,rfl⟩
 rw [←hW3]
 have u3:Upd [] w2 W3:=by rw [hW3];exact (Upd.refl _ _).alloc _
 have hcm:=Cnts.made w2
 rw [←hW3] at hcm
 obtain ⟨qm,hqm⟩:∃q,w2.heap.size=q:=⟨_,rfl⟩
 rw [hqm] at hcm ⊢
 have HT3:=Lib.hid (show Two w W3 (.pointer (some ⟨qa,0,none⟩)) (.pointer (some ⟨qb,0,none⟩)) P0 P0 Fa Fb [qm] from by
  have T:=HT0.out.quiet u3
  refine ⟨T.a,T.b,T.dis,fun x hx=>?_⟩
  simp at hx
  subst hx
  exact ⟨fun hc=>by have:=HT0.out.a.is.lt _ hc;omega,fun hc=>by have:=HT0.out.b.is.lt _ hc;omega,hcm.lt⟩)
 have HCM:=Lib.hid hcm
 have HQM:=Lib.hid (And.intro hcm.lt (show w.heap.size≤qm from by have:=HT0.out.a.upd.size;omega))
 clear hW3 u3 hcm hqm H0 HT0 hmm
 go_wp2_with fail
 go_loopg [9,37] n1 (fun m p9 i wr=>∃(k:Nat) (E:List Nat) (vo:Value),vo=p9∧m+k=n1∧i=.int .i64 (k:Int)∧Two w wr (.pointer (some ⟨qa,0,none⟩)) (.pointer (some ⟨qb,0,none⟩)) P0 P0 Fa Fb [qm]∧Cnts wr qm ((ls.take k).map Sp.id) E∧E.length≤k∧KSp.row wr W3.heap.size vo (fstL (ls.take k))∧Upd [qm] W3 wr)
 case atStart=>exact ⟨0,[],_,rfl,rfl,rfl,HT3.out,HCM.out,Nat.le_refl _,World.ownsRow_nil _ _ _ _,Upd.refl _ _⟩
 case round=>
  obtain ⟨k,E,vo,hvo,hk,rfl,hT,hc,hE,hrow,hup⟩:=hrel
  subst hvo
  have k0:(0:Int)≤(k:Int):=Int.natCast_nonneg _
  have hkn:k≤n1:=by omega
  have HK:=Lib.hid hk
  clear hk
  by_cases hlt:k<n1
  ·obtain ⟨s,hs⟩:∃s,ls[k]? = some s:=⟨_,List.getElem?_eq_getElem (by rw [HLN.out.1];exact hlt)⟩
   have hsi:s.in64:=HIN.out.1 s (List.mem_of_getElem? hs)
   obtain ⟨g,og,hA,-,-,ey⟩:=(HS1.out.upd0 hT.a.upd).at hs
   cases hA
   have y0:wr.cell? ⟨g,og+k*3,none⟩=some (.int .i64 s.lo):=ey 0 _ rfl
   have y1:wr.cell? ⟨g,og+k*3+1,none⟩=some (.int .i64 s.hi):=ey 1 _ rfl
   have y2:wr.cell? ⟨g,og+k*3+2,none⟩=some (.int .u32 (s.id:Int)):=ey 2 _ rfl
   have b1:(k:Int)<(n1:Int):=by omega
   have hnx:=fst_step hs
   have hids:(ls.take (k+1)).map Sp.id=(ls.take k).map Sp.id++[s.id]:=by
    obtain ⟨g1,g2⟩:=List.getElem?_eq_some_iff.1 hs
    rw [List.take_succ_eq_append_getElem g1,g2,List.map_append];rfl
   have hcl:((ls.take k).map Sp.id).count s.id≤k:=Nat.le_trans List.count_le_length (by rw [List.length_map,List.length_take];omega)
   have hfl:(fstL (ls.take k)).length≤k:=Nat.le_trans (fst_ids _).2.2.2 (by rw [List.length_take];omega)
   go_upto_region 7 with fail
   obtain ⟨W4,hW4,u4,q4⟩:=one_newC wr #[.int .i64 s.lo,.int .i64 s.hi,.int .u32 (s.id:Int)] 62
   rw [←hW4]
   have hc4:=hc.upd u4 (by simp)
   have hlk:=hc4.look hsi.2.2
   obtain ⟨w5,E5,hpt,hc5,hu5,hz5,hE5⟩:=hc4.put hsi.2.2 (by omega)
   have hlk5:=hc5.look hsi.2.2
   have hcc:((ls.take k).map Sp.id++[s.id]).count s.id=((ls.take k).map Sp.id).count s.id+1:=by rw [List.count_append];simp
   rw [hcc] at hlk5
   rw [←hids] at hc5
   generalize ((ls.take k).map Sp.id).count s.id=c at hlk hpt hlk5 hnx hcl hcc
   obtain ⟨c1,hc1⟩:∃x,c+1=x:=⟨_,rfl⟩
   rw [hc1] at hpt hlk5
   have hc1v:Value.int .i64 ((c:Int)+1)=Value.int .i64 (c1:Int):=by congr 1;omega
   have hT5:=(hT.quiet u4).other hu5 (fun x hx=>by simp at hx;subst hx;exact ⟨HQM.out.2,((hT.quiet u4).own _ (by simp)).1,((hT.quiet u4).own _ (by simp)).2.1⟩)
   have hge:=fun y (hy:y∈blk vo)=>own_ge hrow y hy
   have hrow5:KSp.row w5 W3.heap.size vo (fstL (ls.take k)):=own_upd (own_upd hrow u4 (by simp)) hu5 (fun y hy hc=>by have:=hge y hy;have:=HQM.out.1;simp at hc;omega)
   have q5:=q4.upd hu5 (by have:=(hT.own qm (by simp)).2.2;simp;omega)
   have hup5:Upd [qm] W3 w5:=(hup.trans (u4.mono (by simp))).trans hu5
   have hsz5:=hup5.size
   obtain ⟨qs,hqs⟩:∃q,wr.heap.size=q:=⟨_,rfl⟩
   rw [hqs] at q4 q5 ⊢
   obtain ⟨x0,x1,x2⟩:=q4.cells3
   generalize fstL (ls.take k)=L at hrow5 hnx hfl
   obtain ⟨r,hr⟩:∃r,L.length=r:=⟨_,rfl⟩
   rw [hr] at hfl
   have hrow6:=hrow5
   unfold Kind.row at hrow6
   rw [hr] at hrow6
   have HI:=Lib.hid (And.intro hT5 (And.intro hc5 (And.intro hup5 (And.intro hnx (And.intro hr (And.intro hrow5 (And.intro hrow6 (And.intro hE5 (And.intro hge hE)))))))))
   have HQ5:=Lib.hid q5
   have HHC:=Lib.hid (And.intro hc1 hcl)
   clear hs hsi ey hnx hids hT hc hE hrow hup u4 q4 hc4 hc5 hu5 hz5 hE5 hcc hc1 hT5 hge hrow5 hrow6 q5 hup5 hW4 hqs hr
   by_cases hcz:c=0
   ·have q1:((c1:Int)==1)=true:=by have:=HHC.out.1;simp;omega
    have HCZ:=Lib.hid hcz
    clear hcz
    go_upto_region 8 with fail
    clear x0 x1 x2
    obtain ⟨x0,x1,x2⟩:=HQ5.out.cells3
    go_wp2_with (at_builtin;refine wpList_app _ rfl _ _ 56 rfl W3.heap.size 62 i1 (.agg #[.int .i64 0,.int .i64 0,.int .u32 0]) 3 24 Tryz.underlying56 hz1 hy0 hy1 hy2 rfl (by decide) _ r (KSp.all L) rfl (own_upd HI.out.2.2.2.2.2.2.1 ((Upd.refl [] w5).alloc _) (by simp)) _ 1 (KSp.enc s) rfl (sees_lit w5 #[.int .i64 s.lo,.int .i64 s.hi,.int .u32 (s.id:Int)] 62 3 1 rfl (by decide)) (KSp.one s) (by unfold maxLen;omega) (by omega) (by simp;omega) ?_)
    intro A9 C9 w9 HP
    have HP9:=Lib.hid HP
    clear HP x0 x1 x2
    go_wp2_with fail
    go_roundg (n1 - (k+1))
    case measure=>have:=HK.out;omega
    case rel=>
     obtain ⟨j1,j2,j3,j4,j5,j6,j7,j8,j9,j10⟩:=HI.out
     have hu9:=((Upd.refl (blk vo) w5).alloc (.cells #[.int .i64 s.lo,.int .i64 s.hi,.int .u32 (s.id:Int)] 62)).trans HP9.out.upd
     rw [if_pos HCZ.out] at j4
     refine ⟨k+1,E5,.slice A9 (r+1) C9,rfl,by have:=HK.out;omega,by go_num,?_,?_,by omega,?_,j3.trans' hu9 (fun y hy=>.inr (j9 y hy))⟩
     ·refine j1.other hu9 (fun x hx=>?_)
      have:=j9 x hx
      exact ⟨by have:=HQM.out;omega,fun hc=>by have:=HT3.out.a.is.lt x hc;omega,fun hc=>by have:=HT3.out.b.is.lt x hc;omega⟩
     ·exact j2.upd hu9 (fun hc=>by have:=j9 _ hc;have:=HQM.out;omega)
     ·rw [j4]
      unfold Kind.row
      rw [List.length_append,j5,KSp.all_app]
      exact HP9.out.own
   ·have q1:((c1:Int)==1)=false:=by have:=HHC.out.1;simp;omega
    have HCZ:=Lib.hid hcz
    clear hcz
    go_upto_region 8 with fail
    clear x0 x1 x2
    obtain ⟨x0,x1,x2⟩:=HQ5.out.cells3
    go_wp2_with fail
    go_roundg (n1 - (k+1))
    case measure=>have:=HK.out;omega
    case rel=>
     obtain ⟨j1,j2,j3,j4,j5,j6,j7,j8,j9,j10⟩:=HI.out
     rw [if_neg HCZ.out] at j4
     exact ⟨k+1,E5,vo,rfl,by have:=HK.out;omega,by go_num,j1,j2,by omega,by rw [j4];exact j6,j3⟩
  ·have hkn2:k=n1:=by omega
   have hall:ls.take k=ls:=by rw [List.take_of_length_le];rw [HLN.out.1];omega
   rw [hall,HPU.out.2.2.2.2] at hrow
   rw [hall] at hc
   obtain ⟨Ap,Cp,rfl⟩:=own_form hrow
   obtain ⟨N,hN⟩:∃N,put.length=N:=⟨_,rfl⟩
   have hN50:N≤50:=by have:=HPU.out.2.2.2.1;rw [HLN.out.1] at this;omega
   have N0:(0:Int)≤(N:Int):=Int.natCast_nonneg _
   have hse:=See.of_row hrow
   have hT5:=Lib.hid (hT.with (G':=qm::blk (.slice Ap put.length Cp)) (fun x hx=>by
    rcases List.mem_cons.1 hx with rfl | hx
    ·exact hT.own _ (by simp)
    ·have:=own_ge hrow x hx
     exact ⟨fun hc=>by have:=HT3.out.a.is.lt x hc;omega,fun hc=>by have:=HT3.out.b.is.lt x hc;omega,own_lt hrow x hx⟩))
   have HC5:=Lib.hid hc
   have HSE5:=Lib.hid hse
   have HE5:=Lib.hid hE
   rw [hN] at hT5 HSE5 ⊢
   have HN5:=Lib.hid hN
   obtain ⟨W5,hW5⟩:∃W:World,W=wr:=⟨_,rfl⟩
   subst hW5
   clear hkn2 hall hrow hc hT hE hup hse hN
   go_wp2_with fail
   go_loopg [58] N (fun m i wr=>∃(k:Nat) (Sa Sb:PSS) (Fa Fb:List Nat),m+k=N∧i=.int .i64 (k:Int)∧Two w wr (.pointer (some ⟨qa,0,none⟩)) (.pointer (some ⟨qb,0,none⟩)) Sa Sb Fa Fb (qm::blk (.slice Ap N Cp))∧See KSp wr (.slice Ap N Cp) put∧Cnts wr qm (ls.map Sp.id) E∧lvs Sa=okS (put.take k)∧lvs Sb=okS (put.reverse.take k)∧Sa.t≤k∧Sb.t≤3*k)
   case atStart=>exact ⟨0,P0,P0,Fa,Fb,rfl,rfl,hT5.out,HSE5.out,HC5.out,rfl,rfl,Nat.le_refl _,Nat.le_refl _⟩
   case round=>
    obtain ⟨k,Sa,Sb,Fa,Fb,hk,rfl,hT,hse,hc,hsa,hsb,hta,htb⟩:=hrel
    have k0:(0:Int)≤(k:Int):=Int.natCast_nonneg _
    have hkn:k≤N:=by omega
    have HK:=Lib.hid hk
    clear hk
    by_cases hlt:k<N
    ·obtain ⟨s,hs⟩:∃s,put[k]? = some s:=⟨_,List.getElem?_eq_getElem (by rw [HN5.out];exact hlt)⟩
     obtain ⟨r,hr⟩:∃r,N - 1 - k=r:=⟨_,rfl⟩
     have hrl:r<put.length:=by rw [HN5.out];omega
     obtain ⟨u,hur⟩:∃u,put[r]? = some u:=⟨_,List.getElem?_eq_getElem hrl⟩
     have huv:put.reverse[k]? = some u:=by rw [List.getElem?_reverse (by rw [HN5.out];exact hlt),HN5.out,hr];exact hur
     have hsi:s.in64:=HIN.out.1 s (HPU.out.2.2.1 s (List.mem_of_getElem? hs))
     have hui:u.in64:=HIN.out.1 u (HPU.out.2.2.1 u (List.mem_of_getElem? hur))
     have hok:=ok_next HPU.out.1 hs
     have hrn:(put.reverse.map Sp.id).Nodup:=by rw [List.map_reverse];exact (List.reverse_perm _).nodup_iff.2 HPU.out.1
     have hok2:=ok_next hrn huv
     obtain ⟨g,og,hA,-,-,ey⟩:=hse.at hs
     cases hA
     have y0:wr.cell? ⟨g,og+k*3,none⟩=some (.int .i64 s.lo):=ey 0 _ rfl
     have y1:wr.cell? ⟨g,og+k*3+1,none⟩=some (.int .i64 s.hi):=ey 1 _ rfl
     have y2:wr.cell? ⟨g,og+k*3+2,none⟩=some (.int .u32 (s.id:Int)):=ey 2 _ rfl
     have b1:(k:Int)<(N:Int):=by omega
     have r0:(0:Int)≤(r:Int):=Int.natCast_nonneg _
     have r1:(r:Int)<(N:Int):=by omega
     have hrv:(N:Int) - 1 - (k:Int)=(r:Int):=by omega
     have HAD:=Lib.hid (addAny hT.a s hsi (by omega))
     unfold spV at HAD
     have HX:=Lib.hid (And.intro hT (And.intro hse (And.intro hc (And.intro hsa (And.intro hsb (And.intro hta htb))))))
     have HO:=Lib.hid (And.intro hok (And.intro hok2 (And.intro hui hur)))
     clear hT hse hc hsa hsb hta htb hok hok2 hui hur hs hsi huv hrn hr hrl ey
     go_wp2_with fail
     (with_reducible refine HAD.out.mono ?_)
     rintro e w4 ⟨n4,rfl,-,hl4⟩
     obtain ⟨Sa4,Fa4,T4,hu4,haf4⟩:=HX.out.1.stepA hl4
     have hse4:See KSp w4 (.slice (some ⟨g,og,none⟩) N Cp) put:=HX.out.2.1.upd hu4 (fun _ y hy _ hc=>(HX.out.1.own y (List.mem_cons_of_mem _ hy)).1 hc)
     have hc4:=HX.out.2.2.1.upd hu4 (fun hc=>(HX.out.1.own qm (by simp)).1 hc)
     have hsa4:lvs Sa4=okS (put.take (k+1)):=by rw [haf4.lv,HX.out.2.2.2.1];exact HO.out.1
     have hta4:Sa4.t≤k+1:=by have:=haf4.t;have:=HX.out.2.2.2.2.2.1;omega
     have HX4:=Lib.hid (And.intro T4 (And.intro hse4 (And.intro hc4 (And.intro hsa4 hta4))))
     clear hl4 T4 hu4 haf4 hse4 hc4 hsa4 hta4 y0 y1 y2
     by_cases hib:k<nb
     ·obtain ⟨u2,hu2⟩:∃s,bt[k]? = some s:=⟨_,List.getElem?_eq_getElem (by rw [HLN.out.2.1];exact hib)⟩
      have hu2i:u2.in64:=HIN.out.2 u2 (List.mem_of_getElem? hu2)
      obtain ⟨g2,o2,hA2,-,-,ex⟩:=(HS2.out.upd0 HX4.out.1.a.upd).at hu2
      cases hA2
      have x0:w4.cell? ⟨g2,o2+k*3,none⟩=some (.int .i64 u2.lo):=ex 0 _ rfl
      have x1:w4.cell? ⟨g2,o2+k*3+1,none⟩=some (.int .i64 u2.hi):=ex 1 _ rfl
      have x2:w4.cell? ⟨g2,o2+k*3+2,none⟩=some (.int .u32 (u2.id:Int)):=ex 2 _ rfl
      have hlk:=HX4.out.2.2.1.look hu2i.2.2
      obtain ⟨c2,hc2⟩:∃c,(ls.map Sp.id).count u2.id=c:=⟨_,rfl⟩
      rw [hc2] at hlk
      have b2:(k:Int)<(nb:Int):=by omega
      have HC2:=Lib.hid hc2
      have HU2:=Lib.hid (And.intro hu2 hu2i)
      clear ex hu2 hu2i hc2
      by_cases hz:c2=0
      ·subst hz
       have hno:∀v∈okS (put.reverse.take k),v.id≠u2.id:=by
        intro v hv e
        unfold okS at hv
        have h1:=List.mem_of_mem_take (List.mem_filter.1 hv).1
        rw [List.mem_reverse] at h1
        have h2:u2.id∈ls.map Sp.id:=(HPU.out.2.1 u2.id).1 (List.mem_map.2 ⟨v,h1,e⟩)
        exact List.count_eq_zero.1 HC2.out h2
       have HA4:=Lib.hid (addAny HX4.out.1.b u2 HU2.out.2 (by have:=HX.out.2.2.2.2.2.2;omega))
       have HNO:=Lib.hid hno
       unfold spV at HA4
       clear hno
       go_wp2_with fail
       (with_reducible refine HA4.out.mono ?_)
       rintro e w5 ⟨n5,rfl,-,hl5⟩
       obtain ⟨Sb5,Fb5,T5,hu5,haf5⟩:=HX4.out.1.stepB hl5
       have hsb5:lvs Sb5=putL (okS (put.reverse.take k)) u2:=by rw [haf5.lv,HX.out.2.2.2.2.1]
       have htb5:Sb5.t≤3*k+1:=by have:=haf5.t;have:=HX.out.2.2.2.2.2.2;omega
       have hse5:See KSp w5 (.slice (some ⟨g,og,none⟩) N Cp) put:=HX4.out.2.1.upd hu5 (fun _ y hy _ hc=>(HX4.out.1.own y (List.mem_cons_of_mem _ hy)).2.1 hc)
       have hc5:=HX4.out.2.2.1.upd hu5 (fun hc=>(HX4.out.1.own qm (by simp)).2.1 hc)
       obtain ⟨g3,o3,hA3,-,-,ex⟩:=(HS2.out.upd0 T5.a.upd).at HU2.out.1
       cases hA3
       clear x0 x1 x2 hlk
       have x2:w5.cell? ⟨g2,o2+k*3+2,none⟩=some (.int .u32 (u2.id:Int)):=ex 2 _ rfl
       have HD5:=Lib.hid (dropAny T5.b u2.id (by omega))
       have HY:=Lib.hid (And.intro T5 (And.intro hsb5 (And.intro htb5 (And.intro hse5 hc5))))
       clear hl5 T5 hu5 haf5 hsb5 htb5 hse5 hc5 ex
       go_wp2_with fail
       (with_reducible refine HD5.out.mono ?_)
       rintro e w6 ⟨n6,rfl,hl6⟩
       obtain ⟨Sb6,Fb6,T6,hu6,haf6⟩:=HY.out.1.stepB hl6
       have hsb6:lvs Sb6=okS (put.reverse.take k):=by rw [haf6.lv,HY.out.2.1];exact put_less HNO.out
       have htb6:Sb6.t≤3*k+2:=by have:=haf6.t;have:=HY.out.2.2.1;omega
       have hse6:See KSp w6 (.slice (some ⟨g,og,none⟩) N Cp) put:=HY.out.2.2.2.1.upd hu6 (fun _ y hy _ hc=>(HY.out.1.own y (List.mem_cons_of_mem _ hy)).2.1 hc)
       have hc6:=HY.out.2.2.2.2.upd hu6 (fun hc=>(HY.out.1.own qm (by simp)).2.1 hc)
       have HX5:=Lib.hid (And.intro T6 (And.intro hsb6 (And.intro htb6 (And.intro hse6 hc6))))
       clear hl6 T6 hu6 haf6 hsb6 htb6 hse6 hc6 x2
       have HB5:=Lib.hid (addAny HX5.out.1.b u HO.out.2.2.1 (by have:=HX5.out.2.2.1;omega))
       obtain ⟨g5,o5,hA5,-,-,ez⟩:=HX5.out.2.2.2.1.at HO.out.2.2.2
       cases hA5
       have z0:w6.cell? ⟨g,og+r*3,none⟩=some (.int .i64 u.lo):=ez 0 _ rfl
       have z1:w6.cell? ⟨g,og+r*3+1,none⟩=some (.int .i64 u.hi):=ez 1 _ rfl
       have z2:w6.cell? ⟨g,og+r*3+2,none⟩=some (.int .u32 (u.id:Int)):=ez 2 _ rfl
       unfold spV at HB5
       clear ez
       go_wp2_with fail
       (with_reducible refine HB5.out.mono ?_)
       rintro e w7 ⟨n7,rfl,-,hl7⟩
       obtain ⟨Sb7,Fb7,T7,hu7,haf7⟩:=HX5.out.1.stepB hl7
       have HT7:=Lib.hid (And.intro T7 (And.intro haf7 hu7))
       clear hl7 T7 hu7 haf7 z0 z1 z2
       go_wp2_with fail
       go_roundg (N - (k+1))
       case measure=>have:=HK.out;omega
       case rel=>
        obtain ⟨T7,haf7,hu7⟩:=HT7.out
        refine ⟨k+1,Sa4,Sb7,_,Fb7,by have:=HK.out;omega,by go_num,T7,?_,?_,HX4.out.2.2.2.1,?_,HX4.out.2.2.2.2,?_⟩
        ·exact HX5.out.2.2.2.1.upd hu7 (fun _ y hy _ hc=>(HX5.out.1.own y (List.mem_cons_of_mem _ hy)).2.1 hc)
        ·exact HX5.out.2.2.2.2.upd hu7 (fun hc=>(HX5.out.1.own qm (by simp)).2.1 hc)
        ·rw [haf7.lv,HX5.out.2.1]
         exact HO.out.2.1
        ·have:=haf7.t
         have:=HX5.out.2.2.1
         omega
      ·have q2:((c2:Int)==0)=false:=by simp;omega
       clear hz
       have HX5:=Lib.hid (And.intro HX4.out.1 (And.intro HX.out.2.2.2.2.1 (And.intro (show Sb.t≤3*k+2 from by have:=HX.out.2.2.2.2.2.2;omega) (And.intro HX4.out.2.1 HX4.out.2.2.1))))
       have HB5:=Lib.hid (addAny HX5.out.1.b u HO.out.2.2.1 (by have:=HX5.out.2.2.1;omega))
       obtain ⟨g5,o5,hA5,-,-,ez⟩:=HX5.out.2.2.2.1.at HO.out.2.2.2
       cases hA5
       have z0:w4.cell? ⟨g,og+r*3,none⟩=some (.int .i64 u.lo):=ez 0 _ rfl
       have z1:w4.cell? ⟨g,og+r*3+1,none⟩=some (.int .i64 u.hi):=ez 1 _ rfl
       have z2:w4.cell? ⟨g,og+r*3+2,none⟩=some (.int .u32 (u.id:Int)):=ez 2 _ rfl
       unfold spV at HB5
       clear ez
       go_wp2_with fail
       (with_reducible refine HB5.out.mono ?_)
       rintro e w7 ⟨n7,rfl,-,hl7⟩
       obtain ⟨Sb7,Fb7,T7,hu7,haf7⟩:=HX5.out.1.stepB hl7
       have HT7:=Lib.hid (And.intro T7 (And.intro haf7 hu7))
       clear hl7 T7 hu7 haf7 z0 z1 z2
       go_wp2_with fail
       go_roundg (N - (k+1))
       case measure=>have:=HK.out;omega
       case rel=>
        obtain ⟨T7,haf7,hu7⟩:=HT7.out
        refine ⟨k+1,Sa4,Sb7,_,Fb7,by have:=HK.out;omega,by go_num,T7,?_,?_,HX4.out.2.2.2.1,?_,HX4.out.2.2.2.2,?_⟩
        ·exact HX5.out.2.2.2.1.upd hu7 (fun _ y hy _ hc=>(HX5.out.1.own y (List.mem_cons_of_mem _ hy)).2.1 hc)
        ·exact HX5.out.2.2.2.2.upd hu7 (fun hc=>(HX5.out.1.own qm (by simp)).2.1 hc)
        ·rw [haf7.lv,HX5.out.2.1]
         exact HO.out.2.1
        ·have:=haf7.t
         have:=HX5.out.2.2.1
         omega
     ·have b2:¬(k:Int)<(nb:Int):=by omega
      have HX5:=Lib.hid (And.intro HX4.out.1 (And.intro HX.out.2.2.2.2.1 (And.intro (show Sb.t≤3*k+2 from by have:=HX.out.2.2.2.2.2.2;omega) (And.intro HX4.out.2.1 HX4.out.2.2.1))))
      have HB5:=Lib.hid (addAny HX5.out.1.b u HO.out.2.2.1 (by have:=HX5.out.2.2.1;omega))
      obtain ⟨g5,o5,hA5,-,-,ez⟩:=HX5.out.2.2.2.1.at HO.out.2.2.2
      cases hA5
      have z0:w4.cell? ⟨g,og+r*3,none⟩=some (.int .i64 u.lo):=ez 0 _ rfl
      have z1:w4.cell? ⟨g,og+r*3+1,none⟩=some (.int .i64 u.hi):=ez 1 _ rfl
      have z2:w4.cell? ⟨g,og+r*3+2,none⟩=some (.int .u32 (u.id:Int)):=ez 2 _ rfl
      unfold spV at HB5
      clear ez
      go_wp2_with fail
      (with_reducible refine HB5.out.mono ?_)
      rintro e w7 ⟨n7,rfl,-,hl7⟩
      obtain ⟨Sb7,Fb7,T7,hu7,haf7⟩:=HX5.out.1.stepB hl7
      have HT7:=Lib.hid (And.intro T7 (And.intro haf7 hu7))
      clear hl7 T7 hu7 haf7 z0 z1 z2
      go_wp2_with fail
      go_roundg (N - (k+1))
      case measure=>have:=HK.out;omega
      case rel=>
       obtain ⟨T7,haf7,hu7⟩:=HT7.out
       refine ⟨k+1,Sa4,Sb7,_,Fb7,by have:=HK.out;omega,by go_num,T7,?_,?_,HX4.out.2.2.2.1,?_,HX4.out.2.2.2.2,?_⟩
       ·exact HX5.out.2.2.2.1.upd hu7 (fun _ y hy _ hc=>(HX5.out.1.own y (List.mem_cons_of_mem _ hy)).2.1 hc)
       ·exact HX5.out.2.2.2.2.upd hu7 (fun hc=>(HX5.out.1.own qm (by simp)).2.1 hc)
       ·rw [haf7.lv,HX5.out.2.1]
        exact HO.out.2.1
       ·have:=haf7.t
        have:=HX5.out.2.2.1
        omega
    ·have hkN:k=N:=by omega
     have hall1:put.take k=put:=by rw [List.take_of_length_le];rw [HN5.out];omega
     have hall2:put.reverse.take k=put.reverse:=by rw [List.take_of_length_le];rw [List.length_reverse,HN5.out];omega
     rw [hall1] at hsa
     rw [hall2] at hsb
     have hpm:(lvs Sa).Perm (lvs Sb):=by rw [hsa,hsb];exact ok_perm (List.reverse_perm put).symm
     have hta9:Sa.t<999:=by omega
     have htb9:Sb.t<999:=by omega
     have hla:=lvs_le hT.a.inv
     obtain ⟨nl,hnl⟩:∃n,(lvs Sa).length=n:=⟨_,rfl⟩
     have hnl2:(lvs Sb).length=nl:=by rw [←hnl];exact hpm.length_eq.symm
     rw [hnl] at hla
     have hla9:nl<999:=by omega
     have HT9:=Lib.hid hT
     have HP9:=Lib.hid (And.intro hpm (And.intro hta9 (And.intro htb9 (And.intro hnl hnl2))))
     obtain ⟨W9,hW9⟩:∃W:World,W=wr:=⟨_,rfl⟩
     subst hW9
     clear hkN hall1 hall2 hT hse hc hsa hsb hta htb hpm hta9 htb9 hnl hnl2 hla HK
     go_wp2_with fail
     go_loopg [111] n3 (fun m i wr=>∃k:Nat,m+k=n3∧i=.int .i64 (k:Int)∧Upd [] W9 wr)
     case atStart=>exact ⟨0,rfl,rfl,Upd.refl _ _⟩
     case round=>
      obtain ⟨k,hk,rfl,hup⟩:=hrel
      have k0:(0:Int)≤(k:Int):=Int.natCast_nonneg _
      have hkn:k≤n3:=by omega
      have HK:=Lib.hid hk
      clear hk
      by_cases hlt:k<n3
      ·obtain ⟨x,hx⟩:∃x,ys[k]? = some x:=⟨_,List.getElem?_eq_getElem (by rw [HLN.out.2.2.1];exact hlt)⟩
       have hnx0:=HLN.out.2.2.2.1 k hlt
       obtain ⟨xz,hxz⟩:∃x,xs[0]? = some x:=⟨_,List.getElem?_eq_getElem (by rw [HLN.out.2.2.2.2];exact hnx0)⟩
       have hup0:Upd [] w wr:=HT9.out.a.upd.trans hup
       obtain ⟨g,og,hA,-,-,y0⟩:=KL.at (HS4.out.upd0 hup0) hx
       cases hA
       have b1:(k:Int)<(n3:Int):=by omega
       have b2:(0:Int)<(nx:Int):=by omega
       have hL1:=stabL_len (lvs Sa) x
       have hL3:(meetL (lvs Sa) xz x).length≤nl:=by
        rw [←HP9.out.2.2.2.1]
        unfold meetL
        split
        ·simp
        ·rw [sortN_len,List.length_map];exact List.length_filter_le _ _
       rw [HP9.out.2.2.2.1] at hL1
       have hqa:=fun (w9:World) (hu:Upd [] wr w9)=>stabP _ _ Sa x w9 ((HT9.out.quiet (hup.trans hu)).a.is) HT9.out.a.inv HP9.out.2.1
       have hqb:=fun (w9:World) (hu:Upd [] wr w9)=>stabP _ _ Sb x w9 ((HT9.out.quiet (hup.trans hu)).b.is) HT9.out.b.inv HP9.out.2.2.1
       have hma:=fun (w9:World) (hu:Upd [] wr w9)=>meetP _ _ Sa xz x w9 ((HT9.out.quiet (hup.trans hu)).a.is) HT9.out.a.inv HP9.out.2.1
       have hmb:=fun (w9:World) (hu:Upd [] wr w9)=>meetP _ _ Sb xz x w9 ((HT9.out.quiet (hup.trans hu)).b.is) HT9.out.b.inv HP9.out.2.2.1
       have hca:=fun (w9:World) (hu:Upd [] wr w9)=>countP _ _ Sa x w9 ((HT9.out.quiet (hup.trans hu)).a.is) HT9.out.a.inv HP9.out.2.1
       have hcb:=fun (w9:World) (hu:Upd [] wr w9)=>countP _ _ Sb x w9 ((HT9.out.quiet (hup.trans hu)).b.is) HT9.out.b.inv HP9.out.2.2.1
       rw [←stab_perm HP9.out.1 x] at hqb hcb
       rw [←meet_perm HP9.out.1 xz x] at hmb
       generalize stabL (lvs Sa) x=L1 at hqa hqb hca hcb hL1
       generalize meetL (lvs Sa) xz x=L3 at hma hmb hL3
       obtain ⟨m1,hm1⟩:∃n,L1.length=n:=⟨_,rfl⟩
       obtain ⟨m3,hm3⟩:∃n,L3.length=n:=⟨_,rfl⟩
       have hs1:=fun (va vb:Value) (w9:World) (ha:See KU w9 va L1) (hb:See KU w9 vb L1)=>same24C va vb L1 L1 w9 ha hb (by omega) (by omega)
       have hs3:=fun (va vb:Value) (w9:World) (ha:See KU w9 va L3) (hb:See KU w9 vb L3)=>same24C va vb L3 L3 w9 ha hb (by omega) (by omega)
       rw [decide_eq_true rfl] at hs1 hs3
       unfold AskPost StabPost at hqa hqb hma hmb
       rw [hm1] at hqa hqb hca hcb hL1
       rw [hm3] at hma hmb hL3
       have hnn:((m1:Int) != (m1:Int))=false:=by simp
       have HQ1:=Lib.hid (And.intro hqa (And.intro hqb (And.intro hma (And.intro hmb (And.intro hca hcb)))))
       have HS5:=Lib.hid (And.intro hs1 hs3)
       have HX9:=Lib.hid (And.intro hxz (And.intro hup hup0))
       have HM:=Lib.hid (And.intro hm1 hm3)
       clear hx hxz hup hup0 hqa hqb hma hmb hca hcb hs1 hs3 hm1 hm3 hL1 hL3
       go_wp2_with fail
       (with_reducible refine (HQ1.out.1 _ (Upd.refl [] _)).mono ?_)
       rintro e w1 ⟨t1,⟨A4,C4,rfl,r1,u1⟩,-⟩
       have U1:=Lib.hid u1
       have R1:=Lib.hid (See.of_row r1)
       clear u1 r1 y0
       go_wp2_with fail
       (with_reducible refine (HQ1.out.2.1 _ U1.out).mono ?_)
       rintro e w2 ⟨t2,⟨A5,C5,rfl,r2,u2⟩,-⟩
       have U2:=Lib.hid (U1.out.trans u2)
       have R1b:=Lib.hid (R1.out.upd0 u2)
       have R2:=Lib.hid (See.of_row r2)
       clear u2 r2
       obtain ⟨g0,o0,hA0,-,-,yz⟩:=KL.at (HS3.out.upd0 (HX9.out.2.2.trans U2.out)) HX9.out.1
       cases hA0
       rw [Nat.add_zero] at yz
       go_wp2_with fail
       (with_reducible refine (HQ1.out.2.2.1 _ U2.out).mono ?_)
       rintro e w3 ⟨t3,⟨A6,C6,rfl,r3,u3⟩,-⟩
       have U3:=Lib.hid (U2.out.trans u3)
       have R1c:=Lib.hid (R1b.out.upd0 u3)
       have R2b:=Lib.hid (R2.out.upd0 u3)
       have R3:=Lib.hid (See.of_row r3)
       clear r3 yz u3
       obtain ⟨g0,o0,hA0,-,-,yz⟩:=KL.at (HS3.out.upd0 (HX9.out.2.2.trans U3.out)) HX9.out.1
       cases hA0
       rw [Nat.add_zero] at yz
       go_wp2_with fail
       (with_reducible refine (HQ1.out.2.2.2.1 _ U3.out).mono ?_)
       rintro e w4 ⟨t4,⟨A7,C7,rfl,r4,u4⟩,-⟩
       have U4:=Lib.hid (U3.out.trans u4)
       have R1d:=Lib.hid (R1c.out.upd0 u4)
       have R2c:=Lib.hid (R2b.out.upd0 u4)
       have R3b:=Lib.hid (R3.out.upd0 u4)
       have R4:=Lib.hid (See.of_row r4)
       clear r4 yz u4
       go_wp2_with fail
       (with_reducible refine (HQ1.out.2.2.2.2.1 _ U4.out).mono ?_)
       rintro e w5 ⟨t5,rfl,-,u5⟩
       have U5:=Lib.hid (U4.out.trans u5)
       have V5:=Lib.hid u5
       clear u5
       go_wp2_with fail
       (with_reducible refine (HQ1.out.2.2.2.2.2 _ U5.out).mono ?_)
       rintro e w6 ⟨t6,rfl,-,u6⟩
       have U6:=Lib.hid (U5.out.trans u6)
       have V6:=Lib.hid (V5.out.trans u6)
       clear u6
       go_wp2_with fail
       have hse:=HS5.out.1 _ _ w6 (R1d.out.upd0 V6.out) (R2c.out.upd0 V6.out)
       (with_reducible refine hse.mono ?_)
       clear hse
       rintro e w7 ⟨rfl,u7⟩
       have U7:=Lib.hid (U6.out.trans u7)
       have V7:=Lib.hid (V6.out.trans u7)
       clear u7
       go_wp2_with fail
       have hse:=HS5.out.2 _ _ w7 (R3b.out.upd0 V7.out) (R4.out.upd0 V7.out)
       (with_reducible refine hse.mono ?_)
       clear hse
       rintro e w8 ⟨rfl,u8⟩
       have U8:=Lib.hid (U7.out.trans u8)
       clear u8
       go_wp2_with fail
       go_roundg (n3 - (k+1))
       case measure=>have:=HK.out;omega
       case rel=>exact ⟨k+1,by have:=HK.out;omega,by go_num,HX9.out.2.1.trans U8.out⟩
      ·have T9:=HT9.out.quiet hup
       have hlna:=lenP _ _ Sa wr T9.a.is T9.a.inv
       have hlnb:=fun w9 (hu:Upd [] wr w9)=>lenP _ _ Sb w9 ((T9.quiet hu).b.is) T9.b.inv
       rw [HP9.out.2.2.2.1] at hlna
       rw [HP9.out.2.2.2.2] at hlnb
       have hee:((nl:Int)==(nl:Int))=true:=by simp
       have HL1:=Lib.hid hlna
       have HL2:=Lib.hid hlnb
       have HU9:=Lib.hid T9.a.upd
       clear T9 hlna hlnb hup
       go_wp2_with fail
       (with_reducible refine HL1.out.mono ?_)
       rintro e w1 ⟨rfl,rfl⟩
       go_wp2_with fail
       (with_reducible refine (HL2.out _ (Upd.refl [] _)).mono ?_)
       rintro e w2 ⟨rfl,rfl⟩
       go_wp2_with fail
       (with_reducible refine (HA.out _).mono ?_)
       rintro e w3 ⟨rfl,u3⟩
       have HU3:=Lib.hid (HU9.out.trans u3)
       clear u3
       go_wp2_with fail
       go_ret
       exact ⟨rfl,HU3.out⟩
end Go.Proofs.YtkbaaonchdeneaaGreat.PSp
