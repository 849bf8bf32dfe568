/- The law SpansBound: the walk. Printed by genSB.py. -/
import Derived.IntWalk
import Derived.Test.YtkbaaonchdeneaaGreatPkSpansBoundP2
set_option maxHeartbeats 8000000
set_option maxRecDepth 100000
namespace Go.Proofs.YtkbaaonchdeneaaGreat.PSp
open Go.RowKit
open Go.Proofs.YtkbaaonchdeneaaGreat.Ps
theorem wrap64_natB (p:Nat) (h:p<1000000):wrap64 (p:Int)=(p:Int):=by unfold wrap64;omega
theorem spansBound_walk (v:Value) (l:List OpS) (w:World) (h:IsOpS w v l) (hl:l.length≤9223372036854775807) (hin:∀o∈l,o.in64) :
 Calls Tryz.prog 8 #[v] w fun e w'=>e=.returned (.bool true)∧Upd [] w w':=by
 obtain ⟨n,hn⟩:∃n,min l.length 250=n:=⟨_,rfl⟩
 have hmn:Value.int .i64 (min (l.length:Int) 250)=Value.int .i64 (n:Int):=by rw [←hn];congr 1;omega
 obtain ⟨A1,C1,hrun1,hs1⟩:=opS_cut h n (by omega)
 obtain ⟨Ao,Co,rfl⟩:=h.form
 have hin1:∀o∈l.take n,o.in64:=fun o ho=>hin o (List.mem_of_mem_take ho)
 have hln:(l.take n).length=n:=by rw [List.length_take];omega
 have hn250:n≤250:=by omega
 generalize l.take n=os at hs1 hin1 hln
 have HS:=Lib.hid hs1
 have HIN:=Lib.hid hin1
 have HLN:=Lib.hid hln
 have HA:=Lib.hid (fun w=>awake24 w)
 clear h hin hs1 hin1 hln hn
 go_enter Tryz.func8,Tryz.ntmps8
 go_wp2_with fail
 (with_reducible refine (newP w).mono ?_)
 rintro e w1 ⟨tv,F0,rfl,h0,hn0,hu0⟩
 obtain ⟨q,hq⟩:∃q,tv=.pointer (some ⟨q,0,none⟩):=by obtain ⟨q,_,_,_,_,_,e,-⟩:=h0;exact ⟨q,e⟩
 subst hq
 have H0:=Lib.hid (⟨h0,inv0P,good0,hn0,hu0⟩:Held w w1 (.pointer (some ⟨q,0,none⟩)) P0 F0)
 clear h0 hn0 hu0
 go_wp2_with fail
 go_loopg [4,5,26] n (fun g m4 p5 i wr=>∃(k:Nat) (S:PSS) (F:List Nat) (A D m p:Nat),g+k=n∧i=.int .i64 (k:Int)∧m4=.int .i64 (m:Int)∧p5=.int .i64 (p:Int)∧A+D=m∧m≤k∧Held w wr (.pointer (some ⟨q,0,none⟩)) S F∧S.t≤k∧BdS S.H A D∧S.H.wk=p)
 case atStart=>exact ⟨0,P0,F0,0,0,0,0,rfl,rfl,rfl,rfl,rfl,Nat.le_refl _,H0.out,Nat.le_refl _,bd0,rfl⟩
 case round=>
  obtain ⟨k,S,F,A,D,m,p,hk,rfl,rfl,rfl,hAD,hmk,hH,ht,hB,hwk⟩:=hrel
  have k0:(0:Int)≤(k:Int):=Int.natCast_nonneg _
  have hkn:k≤n:=by omega
  have HK:=Lib.hid hk
  have HAD:=Lib.hid hAD
  clear hk hAD
  by_cases hlt:k<n
  ·obtain ⟨o,ho⟩:∃o,os[k]? = some o:=⟨_,List.getElem?_eq_getElem (by rw [HLN.out];exact hlt)⟩
   have hoi:o.in64:=HIN.out o (List.mem_of_getElem? ho)
   obtain ⟨g,og,hA,-,-,ey⟩:=(HS.out.upd0 hH.upd).at ho
   cases hA
   have y0:wr.cell? ⟨g,og+k*6,none⟩=some (.int .u8 (o.u:Int)):=ey 0 _ rfl
   have y1:wr.cell? ⟨g,og+k*6+1,none⟩=some (.int .i64 o.s.lo):=ey 1 _ rfl
   have y2:wr.cell? ⟨g,og+k*6+2,none⟩=some (.int .i64 o.s.hi):=ey 2 _ rfl
   have y3:wr.cell? ⟨g,og+k*6+3,none⟩=some (.int .u32 (o.s.id:Int)):=ey 3 _ rfl
   have y4:wr.cell? ⟨g,og+k*6+4,none⟩=some (.int .i64 o.lo):=ey 4 _ rfl
   have y5:wr.cell? ⟨g,og+k*6+5,none⟩=some (.int .i64 o.hi):=ey 5 _ rfl
   have b1:(k:Int)<(n:Int):=by omega
   have hcs:=cs_le hH.inv
   have hFl:=hH.is.lt
   have HD:=Lib.hid (fun (w9:World) (hu:Upd [] wr w9)=>doneC (hH.quiet hu) o hoi (by omega))
   unfold opVS at HD
   have HH:=Lib.hid (And.intro ht (And.intro hB (And.intro hwk (And.intro hcs hFl))))
   clear ho hoi ey hH ht hB hwk hcs hFl
   go_upto_region 6 with fail
   obtain ⟨Wx,hWx,hux,hqx⟩:=one_newC wr #[.int .u8 (o.u:Int),.int .i64 o.s.lo,.int .i64 o.s.hi,.int .u32 (o.s.id:Int),.int .i64 o.lo,.int .i64 o.hi] 72
   rw [←hWx]
   obtain ⟨qx,hqq⟩:∃k,wr.heap.size=k:=⟨_,rfl⟩
   rw [hqq] at hqx ⊢
   have z0:Wx.cell? ⟨qx,0,none⟩=some (.int .u8 (o.u:Int)):=hqx.cell 0
   have z1:Wx.cell? ⟨qx,1,none⟩=some (.int .i64 o.s.lo):=hqx.cell 1
   have z2:Wx.cell? ⟨qx,2,none⟩=some (.int .i64 o.s.hi):=hqx.cell 2
   have z3:Wx.cell? ⟨qx,3,none⟩=some (.int .u32 (o.s.id:Int)):=hqx.cell 3
   have z4:Wx.cell? ⟨qx,4,none⟩=some (.int .i64 o.lo):=hqx.cell 4
   have z5:Wx.cell? ⟨qx,5,none⟩=some (.int .i64 o.hi):=hqx.cell 5
   have HUX:=Lib.hid hux
   have HQX:=Lib.hid hqx
   have hqF:qx∉F:=fun hc=>by have:=HH.out.2.2.2.2 qx hc;omega
   have HQF:=Lib.hid hqF
   clear hWx hqx hux hqF hqq y0 y1 y2 y3 y4 y5
   go_wp2_with fail
   (with_reducible refine (HD.out _ HUX.out).mono ?_)
   rintro e w3 ⟨n0,rfl,S',F',hh,hup,-,haf⟩
   have HX3:=Lib.hid (HQX.out.upd hup HQF.out)
   clear z0 z1 z2 z3 z4 z5
   obtain ⟨A',D',hB',hAD'⟩:=haf.bd A D HH.out.2.1 (by have h1:=HH.out.2.2.2.1;have h2:=HH.out.1;omega)
   obtain ⟨did,hdid⟩:∃b,didL (lvs S) o=b:=⟨_,rfl⟩
   rw [hdid] at hAD' ⊢
   have ht':=haf.t
   have hwk':=haf.wk
   rw [HH.out.2.2.1] at hwk'
   have hht:=HH.out.1
   have hcs':=cs_le hh.inv
   obtain ⟨m3,hm3⟩:∃m3,A'+D'=m3:=⟨_,rfl⟩
   obtain ⟨p3,hp3⟩:∃p3,p+n0=p3:=⟨_,rfl⟩
   rw [hp3] at hwk'
   have hadd:=HAD.out
   have hm3k:m3≤k+1:=by cases did<;>simp at hAD'<;>omega
   have hm3d:(if did then m+1 else m)=m3:=by cases did<;>simp at hAD' ⊢<;>omega
   obtain ⟨nl,hnl⟩:∃x,(lvs S').length=x:=⟨_,rfl⟩
   obtain ⟨st,hst⟩:∃x,S'.H.cs.length=x:=⟨_,rfl⟩
   have hb2:=bd_two hB'
   have hbe:=bd_end hB' (by omega)
   rw [hm3] at hbe
   have hvl:(live S'.H.al S'.H.cs).length=nl:=hnl
   rw [hvl,hst] at hb2
   rw [hwk'] at hbe
   have hbm:=bnd_most (S:=S') (by rw [hnl,hst];exact hb2.2)
   rw [hnl] at hbm
   obtain ⟨N2,hN2⟩:∃x,nl+2=x:=⟨_,rfl⟩
   obtain ⟨N1,hN1⟩:∃x,m3+1=x:=⟨_,rfl⟩
   rw [hN2] at hbm
   obtain ⟨G,hG⟩:∃x,lg N2=x:=⟨_,rfl⟩
   obtain ⟨G1,hG1⟩:∃x,lg N1=x:=⟨_,rfl⟩
   have hG1b:bitsN m3=G1:=by rw [←hG1,←hN1];rfl
   rw [hG1b] at hbe
   rw [hG] at hbm
   have hG9:G≤9:=by rw [←hG];exact bitsN_le _ 9 (by omega)
   have hG19:G1≤9:=by rw [←hG1];exact bitsN_le _ 9 (by omega)
   obtain ⟨gg,hgg⟩:∃x,16*G*G=x:=⟨_,rfl⟩
   rw [hgg] at hbm
   have hggb:gg≤16*9*9:=by rw [←hgg];exact Nat.mul_le_mul (by omega) hG9
   obtain ⟨mo,hmo⟩:∃x,gg+16=x:=⟨_,rfl⟩
   rw [hmo] at hbm
   obtain ⟨pm,hpm⟩:∃pm,m3*(G1+2)=pm:=⟨_,rfl⟩
   rw [hpm] at hbe
   have hpmb:pm≤251*11:=by rw [←hpm];exact Nat.mul_le_mul (by omega) (by omega)
   have hgv:Value.int .i64 (wrap64 (16*(G:Int)*(G:Int)))=Value.int .i64 (gg:Int):=by
    have e:(16*(G:Int)*(G:Int))=(gg:Int):=by rw [←hgg];push_cast;rfl
    rw [e,wrap64_natB gg (by omega)]
   have hpv:Value.int .i64 (wrap64 ((m3:Int)*((G1:Int)+2)))=Value.int .i64 (pm:Int):=by
    have e:((m3:Int)*((G1:Int)+2))=(pm:Int):=by rw [←hpm];push_cast;rfl
    rw [e,wrap64_natB pm (by omega)]
   have hmov:Value.int .i64 ((gg:Int)+16)=Value.int .i64 (mo:Int):=by congr 1;omega
   have hN1v:Value.int .i64 ((m3:Int)+1)=Value.int .i64 (N1:Int):=by congr 1;omega
   have hN2v:Value.int .i64 ((nl:Int)+2)=Value.int .i64 (N2:Int):=by congr 1;omega
   have hp3v:Value.int .i64 ((p:Int)+(n0:Int))=Value.int .i64 (p3:Int):=by congr 1;omega
   have hwq:((p3:Int) != (p3:Int))=false:=by simp
   have hmv:did=true→Value.int .i64 ((m:Int)+1)=Value.int .i64 (m3:Int):=fun e=>by rw [e] at hm3d;simp at hm3d;congr 1;omega
   have hme:did=false→m=m3:=fun e=>by rw [e] at hm3d;simpa using hm3d
   obtain ⟨hs1,hs2⟩:=hb2
   obtain ⟨hm1,hm2⟩:=hbm
   have hnl251:nl≤251:=by omega
   have hmo2:mo≤2000:=by omega
   have hp3b:p3≤3000:=by omega
   have hpb:p≤3000:=by omega
   have hn0b:n0≤3000:=by omega
   have hst2:st≤502:=by omega
   have hm3b:m3≤250:=by omega
   have hN1b:N1≤251:=by omega
   have hN2b:N2≤253:=by omega
   have hlen:=fun (w9:World) (hu:Upd [] w3 w9)=>lenP _ F' S' w9 (hh.is.upd hu (by simp)) hh.inv
   have hsto:=fun (w9:World) (hu:Upd [] w3 w9)=>storedP _ F' S' w9 (hh.is.upd hu (by simp))
   have hwrk:=fun (w9:World) (hu:Upd [] w3 w9)=>workP _ F' S' w9 (hh.is.upd hu (by simp))
   have hsta:=fun (w9:World) (hu:Upd [] w3 w9)=>stabP _ F' S' o.lo w9 (hh.is.upd hu (by simp)) hh.inv (by omega)
   have hcou:=fun (w9:World) (hu:Upd [] w3 w9)=>countP _ F' S' o.lo w9 (hh.is.upd hu (by simp)) hh.inv (by omega)
   have hmee:=fun (w9:World) (hu:Upd [] w3 w9)=>meetP _ F' S' o.lo o.hi w9 (hh.is.upd hu (by simp)) hh.inv (by omega)
   rw [hnl] at hlen
   rw [hst] at hsto
   rw [hwk'] at hwrk
   have hl1:=stabL_len (lvs S') o.lo
   have hl3:=meetL_len (lvs S') o.lo o.hi
   rw [hnl] at hl1 hl3
   generalize stabL (lvs S') o.lo=L1 at hsta hcou hl1
   generalize meetL (lvs S') o.lo o.hi=L3 at hmee hl3
   obtain ⟨n1,hn1⟩:∃x,L1.length=x:=⟨_,rfl⟩
   obtain ⟨n3,hn3⟩:∃x,L3.length=x:=⟨_,rfl⟩
   unfold AskPost StabPost at hsta hmee
   rw [hn1] at hsta hcou hl1
   rw [hn3] at hmee hl3
   have HLE:=Lib.hid hlen
   have HST:=Lib.hid hsto
   have HWR:=Lib.hid hwrk
   have HSA:=Lib.hid hsta
   have HCO:=Lib.hid hcou
   have HME:=Lib.hid hmee
   have HLG:=Lib.hid (And.intro hG hG1)
   have HM1:=Lib.hid hm1
   have HM2:=Lib.hid hm2
   have HRE:=Lib.hid (And.intro hh (And.intro ht' (And.intro hB' (And.intro hwk' (And.intro hm3 hht)))))
   clear hlen hsto hwrk hsta hcou hmee hG hG1 hm1 hm2 hh ht' hB' hwk' hm3 hht hup haf hdid hAD' hadd hvl hnl hst hn1 hn3 hN1 hN2 hG1b hgg hmo hpm hp3 hcs' hm3d
   go_upto_if 36 with fail
   go_cut [4] (fun s4 wc=>s4=.int .i64 (m3:Int)∧w3=wc)
   case first=>
    cases did
    ·have e:=hme rfl
     subst e
     clear hme hmv
     go_wp2_with fail
     go_meet
     case rel=>exact ⟨rfl,rfl⟩
    ·have e:=hmv rfl
     clear hme hmv
     go_wp2_with fail
     go_meet
     case rel=>exact ⟨by go_num,rfl⟩
   case rest=>
    obtain ⟨rfl,rfl⟩:=hcut
    clear hme hmv
    have U3:=Lib.hid (Upd.refl [] w3)
    obtain ⟨z4,z5⟩:=(And.intro (HX3.out.cell 4) (HX3.out.cell 5):_∧_)
    go_wp2_with fail
    (with_reducible refine (HLE.out _ (Upd.refl [] w3)).mono ?_)
    rintro e w4 ⟨rfl,rfl⟩
    go_wp2_with fail
    (with_reducible refine (logC N2 _ (by omega)).mono ?_)
    rintro e w4 ⟨rfl,rfl⟩
    rw [HLG.out.1]
    have x4:w3.cell? ⟨qx,4,none⟩=some (.int .i64 o.lo):=HX3.out.cell 4
    go_wp2_with fail
    (with_reducible refine (HSA.out _ (Upd.refl [] w3)).mono ?_)
    rintro e w4 ⟨t1,⟨A4,C4,rfl,-,u4⟩,ha1,ha2⟩
    have hu4:=Lib.hid u4
    have c1:n1≤t1:=ha1
    have c2:t1≤mo+8*n1:=by have:=HM1.out;omega
    have x4:w4.cell? ⟨qx,4,none⟩=some (.int .i64 o.lo):=(HX3.out.upd0 u4).cell 4
    clear u4 ha1 ha2
    go_wp2_with fail
    (with_reducible refine (HCO.out _ hu4.out).mono ?_)
    rintro e w5 ⟨t2,rfl,ha2,u5⟩
    have hu5:=Lib.hid (hu4.out.trans u5)
    have c3:t2≤mo:=by have:=HM2.out;omega
    have x4:w5.cell? ⟨qx,4,none⟩=some (.int .i64 o.lo):=(HX3.out.upd0 hu5.out).cell 4
    have x5:w5.cell? ⟨qx,5,none⟩=some (.int .i64 o.hi):=(HX3.out.upd0 hu5.out).cell 5
    clear u5 ha2
    go_wp2_with fail
    (with_reducible refine (HME.out _ hu5.out).mono ?_)
    rintro e w6 ⟨t3,⟨A6,C6,rfl,-,u6⟩,ha1,ha2⟩
    have hu6:=Lib.hid (hu5.out.trans u6)
    have c4:n3≤t3:=ha1
    have c5:t3≤mo+8*n3:=by have:=HM1.out;omega
    have t20:(0:Int)≤(t2:Int):=Int.natCast_nonneg _
    clear u6 ha1 ha2 x4 x5 z4 z5
    go_wp2_with fail
    (with_reducible refine (HWR.out _ hu6.out).mono ?_)
    rintro e w7 ⟨rfl,rfl⟩
    go_wp2_with fail
    (with_reducible refine (logC N1 _ (by omega)).mono ?_)
    rintro e w7 ⟨rfl,rfl⟩
    rw [HLG.out.2]
    go_wp2_with fail
    (with_reducible refine (HST.out _ hu6.out).mono ?_)
    rintro e w7 ⟨rfl,rfl⟩
    go_wp2_with fail
    (with_reducible refine (HST.out _ hu6.out).mono ?_)
    rintro e w7 ⟨rfl,rfl⟩
    go_wp2_with fail
    go_roundg (n - (k+1))
    case measure=>have:=HK.out;omega
    case rel=>
     obtain ⟨r1,r2,r3,r4,r5,r6⟩:=HRE.out
     exact ⟨k+1,S',F',A',D',m3,p3,by have:=HK.out;omega,by go_num,rfl,rfl,r5,by omega,r1.quiet hu6.out,by omega,r3,r4⟩
  ·have HU:=Lib.hid hH.upd
   clear hH ht hB hwk
   go_wp2_with fail
   (with_reducible refine (HA.out _).mono ?_)
   rintro e w2 ⟨rfl,u2⟩
   have HU2:=Lib.hid (HU.out.trans u2)
   clear u2
   go_wp2_with fail
   go_ret
   exact ⟨rfl,HU2.out⟩
end Go.Proofs.YtkbaaonchdeneaaGreat.PSp
