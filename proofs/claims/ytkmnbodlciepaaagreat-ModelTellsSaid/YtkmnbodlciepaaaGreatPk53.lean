/- The document's model: Do. Printed by mkrefmi.py. -/
import Derived.Test.YtkmnbodlciepaaaGreatPk33
import Derived.Test.YtkmnbodlciepaaaGreatPk40
import Derived.Test.YtkmnbodlciepaaaGreatPk51
import Derived.Test.YtkmnbodlciepaaaGreatPk50
import Derived.Test.YtkmnbodlciepaaaGreatPk52
set_option maxHeartbeats 16000000
set_option maxRecDepth 100000
namespace Go.Proofs.YtkmnbodlciepaaaGreat
open Go.RowKit
theorem area_alike {l:List Bx} (hb:∀b∈l,b.in64):wideZ (cellsI 0 0 l allB)=wideV (areaN l):=by
 rw [cells_area,←areaN_R hb]
 exact wideZ_nat (areaN_W hb)
theorem rimN_W {l:List Bx} (hb:∀b∈l,b.in64) (hl:l.length<1000):W128 (rimN l):=by
 have hX:∀x∈sqz (linX l),-9223372036854775808≤x∧x≤9223372036854775807:=fun x hx=>linX_in hb x (sqz_mem hx)
 have hY:∀x∈sqz (linY l),-9223372036854775808≤x∧x≤9223372036854775807:=fun x hx=>linY_in hb x (sqz_mem hx)
 have h1:(sqz (linX l)).length≤2000000:=Nat.le_trans (sqz_len _) (by have:=linX_len l;omega)
 have h2:(sqz (linY l)).length≤2000000:=Nat.le_trans (sqz_len _) (by have:=linY_len l;omega)
 have:=rim_W (l:=l) hX hY h1 h2 (sqz (linX l)).length 0 (Nat.le_refl _) (Nat.zero_le _)
 exact this.mono (Nat.le_add_right _ _)
theorem rim_alike {l:List Bx} (hb:∀b∈l,b.in64) (hl:l.length<1000):wideZ (rimD l+rimD l)=wideV (rimN l):=by
 have h:=rimN_D hb
 rw [←wideZ_nat (rimN_W hb hl),h]
 unfold rimD
 congr 1
 omega
theorem See.updRep {α:Type} {K:Kind α} {w w':World} {v:Value} {l:List α} {q:Nat} (j:Nat) (hK:∀x,∃n,(K.enc x)[j]? = some (.int .u32 n)) (h:See K w v l) (hq:RpAt w q repZ) (hu:Upd [q] w w'):See K w' v l:=by
 refine h.upd hu fun hn k hk _ hc=>?_
 rcases l with _ | ⟨x,l⟩
 ·simp at hn
 ·obtain ⟨A,C,rfl⟩:=h.form
  obtain ⟨b,o,rfl,_,_,hcell⟩:=See.at h (k:=0) (x:=x) rfl
  simp only [blk,List.mem_singleton] at hk hc
  subst hk
  subst hc
  obtain ⟨n,hn⟩:=hK x
  have:=hcell j _ hn
  rw [hq.cell] at this
  generalize o+0*K.sz+j=i at this
  rcases i with _ | _ | _ | _ | _ | _ | i<;>simp [repZ] at this
theorem RMd.updQ {w w':World} {r q:Nat} {m:Md} {AP AS AB:Option Addr} {CP CS CB:Nat} (h:RMd w r m AP CP AS CS AB CB) (hq:RpAt w q repZ) (hu:Upd [q] w w') (hr:r≠q):RMd w' r m AP CP AS CS AB CB:=
 ⟨h.head.upd hu (by simp;exact hr),h.ps.updRep 2 (fun x=>⟨_,rfl⟩) hq hu,h.ss.updRep 2 (fun x=>⟨_,rfl⟩) hq hu,h.bs.updRep 4 (fun x=>⟨_,rfl⟩) hq hu,h.np,h.ns,h.nb⟩
theorem RDoPost.updQ {w w1 w2:World} {r q:Nat} {R:Md×RepP} {v:Value} (g:RDoPost w r R (.returned v) w1) (hqw:w.heap.size≤q) (hq:RpAt w1 q repZ) (hu:Upd [q] w1 w2) (hr:r<w.heap.size):RDoPost w r R (.returned v) w2:=by
 obtain ⟨⟨v',e',hv⟩,⟨AP,CP,AS,CS,AB,CB,hm⟩,hup⟩:=g
 cases e'
 obtain ⟨A,C,hi,lo,h1,h2,h3⟩:=hv
 exact ⟨⟨v,rfl,A,C,hi,lo,h1,h2.updRep 0 (fun x=>⟨_,rfl⟩) hq hu,h3⟩,⟨AP,CP,AS,CS,AB,CB,hm.updQ hq hu (by omega)⟩,hup.trans' hu (fun k hk=>.inr (by simp at hk;omega))⟩
def whichM (m:Md) (o:OpP):List Nat:=
 if o.code≤14 then namesM Pt.id m.ps (askP m.ps o) else
 if o.code≤17 then namesM Sp.id m.ss (fun s=>if o.code=17 then meetB s o.a o.b else stabBM s.lo s.hi o.a) else
 namesM Bx.id m.bs (fun b=>inBM b o.a o.b)
theorem do_which {A R:List Bx→Nat} {m:Md} {o:OpP} (h7:7≤o.code) (h20:o.code≤20) (h18:o.code≠18) (h19:o.code≠19) :
 doM A R m o=(m,if o.code=8∨o.code=12∨o.code=16 then cntR (whichM m o).length else if o.code=10 then yesR (decide (0<(whichM m o).length)) else idsR (whichM m o)):=by
 obtain ⟨k,a,b,c,d,i⟩:=o
 dsimp only at h7 h20 h18 h19
 unfold doM pointM otherM whichM
 dsimp only
 rw [if_neg (by omega),if_neg (by omega)]
 have:k=7∨k=8∨k=9∨k=10∨k=11∨k=12∨k=13∨k=14∨k=15∨k=16∨k=17∨k=20:=by omega
 rcases this with rfl | rfl | rfl | rfl | rfl | rfl | rfl | rfl | rfl | rfl | rfl | rfl<;>simp
theorem rwhichC {w:World} {r:Nat} {m:Md} {AP AS AB:Option Addr} {CP CS CB:Nat} (h:RMd w r m AP CP AS CS AB CB) (h64:m.in64) (hp:m.ps.length<1000000) (hs:m.ss.length<1000000) (hb:m.bs.length<1000000) (o:OpP) (h7:7≤o.code) (h20:o.code≤20) (h18:o.code≠18) (h19:o.code≠19) :
 Calls Tryz.prog 30 #[.pointer (some ⟨r,0,none⟩),opV o] w (NamesPostR w (whichM m o)):=by
 unfold whichM
 by_cases h14:o.code≤14
 ·rw [if_pos h14];exact rwhich1 h hp h64.ps o h7 h14
 ·rw [if_neg h14]
  by_cases h17:o.code≤17
  ·rw [if_pos h17];exact rwhich2 h hs o (by omega) h17
  ·rw [if_neg h17];exact rwhich3 h hb o (by omega)
theorem rcomeC {w:World} {r:Nat} {m:Md} {AP AS AB:Option Addr} {CP CS CB:Nat} (h:RMd w r m AP CP AS CS AB CB) (hok:m.ok) (hp:m.ps.length<100000) (hs:m.ss.length<100000) (hb:m.bs.length<100000) (hroom:m.room<4611686018427387904) (o:OpP) (h1:1≤o.code) (h3:o.code≤3) :
 Calls Tryz.prog 26 #[.pointer (some ⟨r,0,none⟩),opV o] w (RDoPost w r (changeM m o)):=by
 obtain ⟨k,a,b,c,d,i⟩:=o
 dsimp only at h1 h3
 have hk:k=1∨k=2∨k=3:=by omega
 rcases hk with rfl | rfl | rfl
 ·exact rcome1 h hok hp hroom a b c d i
 ·exact rcome2 h hok hs hroom a b c d i
 ·exact rcome3 h hok hb hroom a b c d i
theorem rdoC {w:World} {r:Nat} {m:Md} {AP AS AB:Option Addr} {CP CS CB:Nat} (h:RMd w r m AP CP AS CS AB CB) (hok:m.ok) (h64:m.in64) (hp:m.ps.length<100000) (hs:m.ss.length<100000) (hb:m.bs.length<400) (hroom:m.room<4611686018427387904) (o:OpP) :
 Calls Tryz.prog 7 #[.pointer (some ⟨r,0,none⟩),opV o] w (RDoPost w r (doM areaN rimN m o)):=by
 have hco:=fun (W:World) (hu:Upd [] w W)=>rcomeC (h.upd0 hu) hok hp hs (by omega) hroom o
 have hl1:=fun (W:World) (hu:Upd [] w W)=>rlose1 (h.upd0 hu) hok hp o.id
 have hl2:=fun (W:World) (hu:Upd [] w W)=>rlose2 (h.upd0 hu) hok hs o.id
 have hl3:=fun (W:World) (hu:Upd [] w W)=>rlose3 (h.upd0 hu) hok (by omega) o.id
 have hwh:=fun (W:World) (hu:Upd [] w W)=>rwhichC (h.upd0 hu) h64 (by omega) (by omega) (by omega) o
 have har:=fun (W:World) (hu:Upd [] w W)=>rareaC (.slice AB m.bs.length CB) m.bs W (h.bs.upd0 hu) hb h64.bs
 have hri:=fun (W:World) (hu:Upd [] w W)=>rrimC (.slice AB m.bs.length CB) m.bs W (h.bs.upd0 hu) hb h64.bs
 rw [area_alike h64.bs] at har
 rw [rim_alike h64.bs (by omega)] at hri
 obtain ⟨eA,hEA⟩:∃e:Int,(entE m.bs:Int)=e:=⟨_,rfl⟩
 obtain ⟨eR,hER⟩:∃e:Int,(entE m.bs:Int)+(entE (m.bs.map tuI):Int)=e:=⟨_,rfl⟩
 rw [hER] at hri
 rw [hEA] at har
 unfold wideV at har hri
 obtain ⟨ah,hah⟩:∃x:Nat,areaN m.bs / 18446744073709551616=x:=⟨_,rfl⟩
 obtain ⟨al,hal⟩:∃x:Nat,areaN m.bs % 18446744073709551616=x:=⟨_,rfl⟩
 obtain ⟨rh,hrh⟩:∃x:Nat,rimN m.bs / 18446744073709551616=x:=⟨_,rfl⟩
 obtain ⟨rl,hrl⟩:∃x:Nat,rimN m.bs % 18446744073709551616=x:=⟨_,rfl⟩
 rw [hah,hal] at har
 rw [hrh,hrl] at hri
 have hrepA:=fun w9=>repAt_wide w9 (areaN m.bs) (areaN_lt h64.bs)
 have hrepR:=fun w9=>repAt_wide w9 (rimN m.bs) (rimN_lt h64.bs (by omega))
 rw [hah,hal] at hrepA
 rw [hrh,hrl] at hrepR
 have HREPA:=Lib.hid hrepA
 have HREPR:=Lib.hid hrepR
 have hcb:=h.cells.2.2.2
 obtain ⟨nb,hnb⟩:∃n,m.bs.length=n:=⟨_,rfl⟩
 rw [hnb] at har hri hcb
 have HCB:=Lib.hid hcb
 have HG:=Lib.hid h
 have HL:=Lib.hid (lt_of_block h.head)
 obtain ⟨IDS,hids⟩:∃L,whichM m o=L:=⟨_,rfl⟩
 have hdw:=fun h7 h20 h18 h19=>do_which (A:=areaN) (R:=rimN) (m:=m) (o:=o) h7 h20 h18 h19
 rw [hids] at hwh hdw
 obtain ⟨oc,oa,ob,occ,od,oi⟩:=o
 unfold opV at hco hwh ⊢
 dsimp only at hco hl1 hl2 hl3 hwh hdw ⊢
 obtain ⟨RES,hRES⟩:∃R,doM areaN rimN m ⟨oc,oa,ob,occ,od,oi⟩=R:=⟨_,rfl⟩
 rw [hRES] at hdw ⊢
 have HRES:=Lib.hid hRES
 obtain ⟨c,hc⟩:∃c:Int,(oc:Int)=c:=⟨_,rfl⟩
 rw [hc] at hco hwh ⊢
 have HC:=Lib.hid hc
 have hc0:0≤c:=by omega
 have HCO:=Lib.hid hco
 have HL1:=Lib.hid hl1
 have HL2:=Lib.hid hl2
 have HL3:=Lib.hid hl3
 have HWH:=Lib.hid hwh
 have HDW:=Lib.hid hdw
 have HAR:=Lib.hid har
 have HRI:=Lib.hid hri
 clear hco hl1 hl2 hl3 hwh hdw har hri hRES hc hids hrepA hrepR hcb hah hal hrh hrl hEA hER hnb h hok h64 hp hs hb hroom
 obtain ⟨W,hW,hu,hop,hrp⟩:=two_new w #[.int .u8 c,.int .i64 oa,.int .i64 ob,.int .i64 occ,.int .i64 od,.int .u32 (oi:Int)] repZ 43 39
 have hrp:RpAt W (w.heap.size+1) repZ:=hrp
 have HW:=Lib.hid hW
 have HU:=Lib.hid hu
 have HOP:=Lib.hid hop
 have HRP0:=Lib.hid hrp
 clear hW hu hop hrp
 obtain ⟨q,hq⟩:∃q,w.heap.size+1=q:=⟨_,rfl⟩
 obtain ⟨qo,hqo⟩:∃q,w.heap.size=q:=⟨_,rfl⟩
 have HQ:=Lib.hid (And.intro hq hqo)
 rw [hq] at HRP0
 rw [hqo] at HOP
 clear hq hqo
 go_enter Tryz.func7,Tryz.ntmps7
 go_upto_region 1 with fail
 rw [←HW.out,HQ.out.1,HQ.out.2]
 clear HW
 obtain ⟨o0,o1,o2,o3,o4,o5⟩:=HOP.out.cells6
 by_cases h0:c=0
 ·have d0:(c==0)=true:=by rw [beq_iff_eq];exact h0
  have hr:=HRES.out
  unfold doM at hr
  rw [if_pos (by have:=HC.out;dsimp only;omega)] at hr
  have HR:=Lib.hid hr
  clear hr
  go_upto_region 2 with fail
  go_wp2_with fail
  (with_reducible refine (rwrong 260 _).mono ?_)
  rintro e w8 ⟨rfl,hu8⟩
  have HU8:=Lib.hid hu8
  clear hu8 o0 o1 o2 o3 o4 o5
  have HRP:=Lib.hid (HRP0.out.upd HU8.out (by simp))
  have f0:(w8).frozen? ⟨q,0,none⟩=false:=HRP.out.frozen 0
  have f1:(w8).frozen? ⟨q,1,none⟩=false:=HRP.out.frozen 1
  have f2:(w8).frozen? ⟨q,2,none⟩=false:=HRP.out.frozen 2
  have f3:(w8).frozen? ⟨q,3,none⟩=false:=HRP.out.frozen 3
  have f4:(w8).frozen? ⟨q,4,none⟩=false:=HRP.out.frozen 4
  have f5:(w8).frozen? ⟨q,5,none⟩=false:=HRP.out.frozen 5
  have c0:(w8).cell? ⟨q,0,none⟩=some (.int .i64 0):=HRP.out.cell 0
  have c1:(w8).cell? ⟨q,1,none⟩=some (.slice none 0 0):=HRP.out.cell 1
  have c2:(w8).cell? ⟨q,2,none⟩=some (.int .i64 0):=HRP.out.cell 2
  have c3:(w8).cell? ⟨q,3,none⟩=some (.bool false):=HRP.out.cell 3
  have c4:(w8).cell? ⟨q,4,none⟩=some (.int .u64 0):=HRP.out.cell 4
  have c5:(w8).cell? ⟨q,5,none⟩=some (.int .u64 0):=HRP.out.cell 5
  have HP:=Lib.hid (And.intro (HRP.out.put (.int .i64 260) (.slice none 0 0) (.int .i64 0) (.bool false) (.int .u64 0) (.int .u64 0)) (upd_put (q:=q) (Upd.refl [q] (w8)) (.inl (by simp)) (.int .i64 260) (.slice none 0 0) (.int .i64 0) (.bool false) (.int .u64 0) (.int .u64 0)))
  go_wp2_with fail
  have y0:=HP.out.1.cell 0
  have y1:=HP.out.1.cell 1
  have y2:=HP.out.1.cell 2
  have y3:=HP.out.1.cell 3
  have y4:=HP.out.1.cell 4
  have y5:=HP.out.1.cell 5
  simp only [List.getElem?_toArray,List.getElem?_cons_zero,List.getElem?_cons_succ] at y0 y1 y2 y3 y4 y5
  refine bodyPost_ret (v:=repV 260 0 false (.slice none 0 0) 0 0) ?_ rfl ?_
  ·simp [repV,results,Tryz.results7,go_sem,y0,y1,y2,y3,y4,y5]
  ·exact RDoPost.updQ (w1:=w8) (by rw [←HR.out];exact ⟨⟨_,rfl,repAt_err _ 260⟩,⟨_,_,_,_,_,_,HG.out.upd0 (HU.out.trans HU8.out)⟩,(HU.out.trans HU8.out).mono (by simp)⟩) (by have:=HQ.out;omega) HRP.out HP.out.2 HL.out
 have d0:(c==0)=false:=by rw [beq_eq_false_iff_ne];exact h0
 by_cases h20:20<c
 ·have d20:decide (20<c)=true:=decide_eq_true h20
  have hr:=HRES.out
  unfold doM at hr
  rw [if_pos (by have:=HC.out;dsimp only;omega)] at hr
  have HR:=Lib.hid hr
  clear hr
  go_upto_region 2 with fail
  go_wp2_with fail
  (with_reducible refine (rwrong 260 _).mono ?_)
  rintro e w8 ⟨rfl,hu8⟩
  have HU8:=Lib.hid hu8
  clear hu8 o0 o1 o2 o3 o4 o5
  have HRP:=Lib.hid (HRP0.out.upd HU8.out (by simp))
  have f0:(w8).frozen? ⟨q,0,none⟩=false:=HRP.out.frozen 0
  have f1:(w8).frozen? ⟨q,1,none⟩=false:=HRP.out.frozen 1
  have f2:(w8).frozen? ⟨q,2,none⟩=false:=HRP.out.frozen 2
  have f3:(w8).frozen? ⟨q,3,none⟩=false:=HRP.out.frozen 3
  have f4:(w8).frozen? ⟨q,4,none⟩=false:=HRP.out.frozen 4
  have f5:(w8).frozen? ⟨q,5,none⟩=false:=HRP.out.frozen 5
  have c0:(w8).cell? ⟨q,0,none⟩=some (.int .i64 0):=HRP.out.cell 0
  have c1:(w8).cell? ⟨q,1,none⟩=some (.slice none 0 0):=HRP.out.cell 1
  have c2:(w8).cell? ⟨q,2,none⟩=some (.int .i64 0):=HRP.out.cell 2
  have c3:(w8).cell? ⟨q,3,none⟩=some (.bool false):=HRP.out.cell 3
  have c4:(w8).cell? ⟨q,4,none⟩=some (.int .u64 0):=HRP.out.cell 4
  have c5:(w8).cell? ⟨q,5,none⟩=some (.int .u64 0):=HRP.out.cell 5
  have HP:=Lib.hid (And.intro (HRP.out.put (.int .i64 260) (.slice none 0 0) (.int .i64 0) (.bool false) (.int .u64 0) (.int .u64 0)) (upd_put (q:=q) (Upd.refl [q] (w8)) (.inl (by simp)) (.int .i64 260) (.slice none 0 0) (.int .i64 0) (.bool false) (.int .u64 0) (.int .u64 0)))
  go_wp2_with fail
  have y0:=HP.out.1.cell 0
  have y1:=HP.out.1.cell 1
  have y2:=HP.out.1.cell 2
  have y3:=HP.out.1.cell 3
  have y4:=HP.out.1.cell 4
  have y5:=HP.out.1.cell 5
  simp only [List.getElem?_toArray,List.getElem?_cons_zero,List.getElem?_cons_succ] at y0 y1 y2 y3 y4 y5
  refine bodyPost_ret (v:=repV 260 0 false (.slice none 0 0) 0 0) ?_ rfl ?_
  ·simp [repV,results,Tryz.results7,go_sem,y0,y1,y2,y3,y4,y5]
  ·exact RDoPost.updQ (w1:=w8) (by rw [←HR.out];exact ⟨⟨_,rfl,repAt_err _ 260⟩,⟨_,_,_,_,_,_,HG.out.upd0 (HU.out.trans HU8.out)⟩,(HU.out.trans HU8.out).mono (by simp)⟩) (by have:=HQ.out;omega) HRP.out HP.out.2 HL.out
 have d20:decide (20<c)=false:=decide_eq_false h20
 by_cases h3:c≤3
 ·have d3:decide (c≤3)=true:=decide_eq_true h3
  have hr:=HRES.out
  unfold doM at hr
  rw [if_neg (by have:=HC.out;dsimp only;omega),if_pos (by have:=HC.out;dsimp only;omega)] at hr
  have hcall:=HCO.out _ HU.out (by have:=HC.out;omega) (by have:=HC.out;omega)
  rw [hr] at hcall
  obtain ⟨m2,z⟩:=RES
  have HCALL:=Lib.hid hcall
  clear hr hcall
  go_upto_region 4 with fail
  go_wp2_with fail
  (with_reducible refine HCALL.out.mono ?_)
  intro e w8 hpo
  obtain ⟨⟨v,rfl,hre⟩,hmp,hup⟩:=hpo
  have HV:=Lib.hid (And.intro hre (And.intro hmp hup))
  clear hre hmp hup
  clear o0 o1 o2 o3 o4 o5
  obtain ⟨Av,Cv,hv,lv,hve,hrest⟩:=HV.out.1
  clear hrest
  unfold repV at hve
  subst hve
  have HRP:=Lib.hid (RpAt.upd HRP0.out HV.out.2.2 (by have:=HL.out;have:=HQ.out;simp;omega))
  have f0:(w8).frozen? ⟨q,0,none⟩=false:=HRP.out.frozen 0
  have f1:(w8).frozen? ⟨q,1,none⟩=false:=HRP.out.frozen 1
  have f2:(w8).frozen? ⟨q,2,none⟩=false:=HRP.out.frozen 2
  have f3:(w8).frozen? ⟨q,3,none⟩=false:=HRP.out.frozen 3
  have f4:(w8).frozen? ⟨q,4,none⟩=false:=HRP.out.frozen 4
  have f5:(w8).frozen? ⟨q,5,none⟩=false:=HRP.out.frozen 5
  have c0:(w8).cell? ⟨q,0,none⟩=some (.int .i64 0):=HRP.out.cell 0
  have c1:(w8).cell? ⟨q,1,none⟩=some (.slice none 0 0):=HRP.out.cell 1
  have c2:(w8).cell? ⟨q,2,none⟩=some (.int .i64 0):=HRP.out.cell 2
  have c3:(w8).cell? ⟨q,3,none⟩=some (.bool false):=HRP.out.cell 3
  have c4:(w8).cell? ⟨q,4,none⟩=some (.int .u64 0):=HRP.out.cell 4
  have c5:(w8).cell? ⟨q,5,none⟩=some (.int .u64 0):=HRP.out.cell 5
  have HP:=Lib.hid (And.intro (HRP.out.put (.int .i64 (z.err:Int)) (.slice Av z.ids.length Cv) (.int .i64 (z.cnt:Int)) (.bool z.yes) (.int .u64 (hv:Int)) (.int .u64 (lv:Int))) (upd_put (q:=q) (Upd.refl [q] (w8)) (.inl (by simp)) (.int .i64 (z.err:Int)) (.slice Av z.ids.length Cv) (.int .i64 (z.cnt:Int)) (.bool z.yes) (.int .u64 (hv:Int)) (.int .u64 (lv:Int))))
  go_wp2_with fail
  have y0:=HP.out.1.cell 0
  have y1:=HP.out.1.cell 1
  have y2:=HP.out.1.cell 2
  have y3:=HP.out.1.cell 3
  have y4:=HP.out.1.cell 4
  have y5:=HP.out.1.cell 5
  simp only [List.getElem?_toArray,List.getElem?_cons_zero,List.getElem?_cons_succ] at y0 y1 y2 y3 y4 y5
  refine bodyPost_ret (v:=repV z.err z.cnt z.yes (.slice Av z.ids.length Cv) hv lv) ?_ rfl ?_
  ·simp [repV,results,Tryz.results7,go_sem,y0,y1,y2,y3,y4,y5]
  ·exact RDoPost.updQ (w1:=w8) ⟨⟨_,rfl,HV.out.1⟩,HV.out.2.1,(HU.out.mono (by simp)).trans HV.out.2.2⟩ (by have:=HQ.out;omega) HRP.out HP.out.2 HL.out
 have d3:decide (c≤3)=false:=decide_eq_false h3
 by_cases h6:c≤6
 ·have d6:decide (c≤6)=true:=decide_eq_true h6
  have hk:c=4∨c=5∨c=6:=by omega
  obtain ⟨m2,z⟩:=RES
  rcases hk with rfl | rfl | rfl
  ·obtain rfl:oc=4:=by have:=HC.out;omega
   have hr:=HRES.out
   unfold doM changeM at hr
   dsimp only at hr
   rw [if_neg (by omega),if_pos (by omega),if_neg (by omega),if_neg (by omega),if_neg (by omega),if_pos rfl] at hr
   have hcall:=HL1.out _ HU.out
   rw [hr] at hcall
   have HCALL:=Lib.hid hcall
   clear hr hcall
   go_upto_region 6 with fail
   go_wp2_with fail
   (with_reducible refine HCALL.out.mono ?_)
   intro e w8 hpo
   obtain ⟨⟨v,rfl,hre⟩,hmp,hup⟩:=hpo
   have HV:=Lib.hid (And.intro hre (And.intro hmp hup))
   clear hre hmp hup
   clear o0 o1 o2 o3 o4 o5
   obtain ⟨Av,Cv,hv,lv,hve,hrest⟩:=HV.out.1
   clear hrest
   unfold repV at hve
   subst hve
   have HRP:=Lib.hid (RpAt.upd HRP0.out HV.out.2.2 (by have:=HL.out;have:=HQ.out;simp;omega))
   have f0:(w8).frozen? ⟨q,0,none⟩=false:=HRP.out.frozen 0
   have f1:(w8).frozen? ⟨q,1,none⟩=false:=HRP.out.frozen 1
   have f2:(w8).frozen? ⟨q,2,none⟩=false:=HRP.out.frozen 2
   have f3:(w8).frozen? ⟨q,3,none⟩=false:=HRP.out.frozen 3
   have f4:(w8).frozen? ⟨q,4,none⟩=false:=HRP.out.frozen 4
   have f5:(w8).frozen? ⟨q,5,none⟩=false:=HRP.out.frozen 5
   have c0:(w8).cell? ⟨q,0,none⟩=some (.int .i64 0):=HRP.out.cell 0
   have c1:(w8).cell? ⟨q,1,none⟩=some (.slice none 0 0):=HRP.out.cell 1
   have c2:(w8).cell? ⟨q,2,none⟩=some (.int .i64 0):=HRP.out.cell 2
   have c3:(w8).cell? ⟨q,3,none⟩=some (.bool false):=HRP.out.cell 3
   have c4:(w8).cell? ⟨q,4,none⟩=some (.int .u64 0):=HRP.out.cell 4
   have c5:(w8).cell? ⟨q,5,none⟩=some (.int .u64 0):=HRP.out.cell 5
   have HP:=Lib.hid (And.intro (HRP.out.put (.int .i64 (z.err:Int)) (.slice Av z.ids.length Cv) (.int .i64 (z.cnt:Int)) (.bool z.yes) (.int .u64 (hv:Int)) (.int .u64 (lv:Int))) (upd_put (q:=q) (Upd.refl [q] (w8)) (.inl (by simp)) (.int .i64 (z.err:Int)) (.slice Av z.ids.length Cv) (.int .i64 (z.cnt:Int)) (.bool z.yes) (.int .u64 (hv:Int)) (.int .u64 (lv:Int))))
   go_wp2_with fail
   have y0:=HP.out.1.cell 0
   have y1:=HP.out.1.cell 1
   have y2:=HP.out.1.cell 2
   have y3:=HP.out.1.cell 3
   have y4:=HP.out.1.cell 4
   have y5:=HP.out.1.cell 5
   simp only [List.getElem?_toArray,List.getElem?_cons_zero,List.getElem?_cons_succ] at y0 y1 y2 y3 y4 y5
   refine bodyPost_ret (v:=repV z.err z.cnt z.yes (.slice Av z.ids.length Cv) hv lv) ?_ rfl ?_
   ·simp [repV,results,Tryz.results7,go_sem,y0,y1,y2,y3,y4,y5]
   ·exact RDoPost.updQ (w1:=w8) ⟨⟨_,rfl,HV.out.1⟩,HV.out.2.1,(HU.out.mono (by simp)).trans HV.out.2.2⟩ (by have:=HQ.out;omega) HRP.out HP.out.2 HL.out
  ·obtain rfl:oc=5:=by have:=HC.out;omega
   have hr:=HRES.out
   unfold doM changeM at hr
   dsimp only at hr
   rw [if_neg (by omega),if_pos (by omega),if_neg (by omega),if_neg (by omega),if_neg (by omega),if_neg (by omega),if_pos rfl] at hr
   have hcall:=HL2.out _ HU.out
   rw [hr] at hcall
   have HCALL:=Lib.hid hcall
   clear hr hcall
   go_upto_region 6 with fail
   go_wp2_with fail
   (with_reducible refine HCALL.out.mono ?_)
   intro e w8 hpo
   obtain ⟨⟨v,rfl,hre⟩,hmp,hup⟩:=hpo
   have HV:=Lib.hid (And.intro hre (And.intro hmp hup))
   clear hre hmp hup
   clear o0 o1 o2 o3 o4 o5
   obtain ⟨Av,Cv,hv,lv,hve,hrest⟩:=HV.out.1
   clear hrest
   unfold repV at hve
   subst hve
   have HRP:=Lib.hid (RpAt.upd HRP0.out HV.out.2.2 (by have:=HL.out;have:=HQ.out;simp;omega))
   have f0:(w8).frozen? ⟨q,0,none⟩=false:=HRP.out.frozen 0
   have f1:(w8).frozen? ⟨q,1,none⟩=false:=HRP.out.frozen 1
   have f2:(w8).frozen? ⟨q,2,none⟩=false:=HRP.out.frozen 2
   have f3:(w8).frozen? ⟨q,3,none⟩=false:=HRP.out.frozen 3
   have f4:(w8).frozen? ⟨q,4,none⟩=false:=HRP.out.frozen 4
   have f5:(w8).frozen? ⟨q,5,none⟩=false:=HRP.out.frozen 5
   have c0:(w8).cell? ⟨q,0,none⟩=some (.int .i64 0):=HRP.out.cell 0
   have c1:(w8).cell? ⟨q,1,none⟩=some (.slice none 0 0):=HRP.out.cell 1
   have c2:(w8).cell? ⟨q,2,none⟩=some (.int .i64 0):=HRP.out.cell 2
   have c3:(w8).cell? ⟨q,3,none⟩=some (.bool false):=HRP.out.cell 3
   have c4:(w8).cell? ⟨q,4,none⟩=some (.int .u64 0):=HRP.out.cell 4
   have c5:(w8).cell? ⟨q,5,none⟩=some (.int .u64 0):=HRP.out.cell 5
   have HP:=Lib.hid (And.intro (HRP.out.put (.int .i64 (z.err:Int)) (.slice Av z.ids.length Cv) (.int .i64 (z.cnt:Int)) (.bool z.yes) (.int .u64 (hv:Int)) (.int .u64 (lv:Int))) (upd_put (q:=q) (Upd.refl [q] (w8)) (.inl (by simp)) (.int .i64 (z.err:Int)) (.slice Av z.ids.length Cv) (.int .i64 (z.cnt:Int)) (.bool z.yes) (.int .u64 (hv:Int)) (.int .u64 (lv:Int))))
   go_wp2_with fail
   have y0:=HP.out.1.cell 0
   have y1:=HP.out.1.cell 1
   have y2:=HP.out.1.cell 2
   have y3:=HP.out.1.cell 3
   have y4:=HP.out.1.cell 4
   have y5:=HP.out.1.cell 5
   simp only [List.getElem?_toArray,List.getElem?_cons_zero,List.getElem?_cons_succ] at y0 y1 y2 y3 y4 y5
   refine bodyPost_ret (v:=repV z.err z.cnt z.yes (.slice Av z.ids.length Cv) hv lv) ?_ rfl ?_
   ·simp [repV,results,Tryz.results7,go_sem,y0,y1,y2,y3,y4,y5]
   ·exact RDoPost.updQ (w1:=w8) ⟨⟨_,rfl,HV.out.1⟩,HV.out.2.1,(HU.out.mono (by simp)).trans HV.out.2.2⟩ (by have:=HQ.out;omega) HRP.out HP.out.2 HL.out
  ·obtain rfl:oc=6:=by have:=HC.out;omega
   have hr:=HRES.out
   unfold doM changeM at hr
   dsimp only at hr
   rw [if_neg (by omega),if_pos (by omega),if_neg (by omega),if_neg (by omega),if_neg (by omega),if_neg (by omega),if_neg (by omega)] at hr
   have hcall:=HL3.out _ HU.out
   rw [hr] at hcall
   have HCALL:=Lib.hid hcall
   clear hr hcall
   go_upto_region 6 with fail
   go_wp2_with fail
   (with_reducible refine HCALL.out.mono ?_)
   intro e w8 hpo
   obtain ⟨⟨v,rfl,hre⟩,hmp,hup⟩:=hpo
   have HV:=Lib.hid (And.intro hre (And.intro hmp hup))
   clear hre hmp hup
   clear o0 o1 o2 o3 o4 o5
   obtain ⟨Av,Cv,hv,lv,hve,hrest⟩:=HV.out.1
   clear hrest
   unfold repV at hve
   subst hve
   have HRP:=Lib.hid (RpAt.upd HRP0.out HV.out.2.2 (by have:=HL.out;have:=HQ.out;simp;omega))
   have f0:(w8).frozen? ⟨q,0,none⟩=false:=HRP.out.frozen 0
   have f1:(w8).frozen? ⟨q,1,none⟩=false:=HRP.out.frozen 1
   have f2:(w8).frozen? ⟨q,2,none⟩=false:=HRP.out.frozen 2
   have f3:(w8).frozen? ⟨q,3,none⟩=false:=HRP.out.frozen 3
   have f4:(w8).frozen? ⟨q,4,none⟩=false:=HRP.out.frozen 4
   have f5:(w8).frozen? ⟨q,5,none⟩=false:=HRP.out.frozen 5
   have c0:(w8).cell? ⟨q,0,none⟩=some (.int .i64 0):=HRP.out.cell 0
   have c1:(w8).cell? ⟨q,1,none⟩=some (.slice none 0 0):=HRP.out.cell 1
   have c2:(w8).cell? ⟨q,2,none⟩=some (.int .i64 0):=HRP.out.cell 2
   have c3:(w8).cell? ⟨q,3,none⟩=some (.bool false):=HRP.out.cell 3
   have c4:(w8).cell? ⟨q,4,none⟩=some (.int .u64 0):=HRP.out.cell 4
   have c5:(w8).cell? ⟨q,5,none⟩=some (.int .u64 0):=HRP.out.cell 5
   have HP:=Lib.hid (And.intro (HRP.out.put (.int .i64 (z.err:Int)) (.slice Av z.ids.length Cv) (.int .i64 (z.cnt:Int)) (.bool z.yes) (.int .u64 (hv:Int)) (.int .u64 (lv:Int))) (upd_put (q:=q) (Upd.refl [q] (w8)) (.inl (by simp)) (.int .i64 (z.err:Int)) (.slice Av z.ids.length Cv) (.int .i64 (z.cnt:Int)) (.bool z.yes) (.int .u64 (hv:Int)) (.int .u64 (lv:Int))))
   go_wp2_with fail
   have y0:=HP.out.1.cell 0
   have y1:=HP.out.1.cell 1
   have y2:=HP.out.1.cell 2
   have y3:=HP.out.1.cell 3
   have y4:=HP.out.1.cell 4
   have y5:=HP.out.1.cell 5
   simp only [List.getElem?_toArray,List.getElem?_cons_zero,List.getElem?_cons_succ] at y0 y1 y2 y3 y4 y5
   refine bodyPost_ret (v:=repV z.err z.cnt z.yes (.slice Av z.ids.length Cv) hv lv) ?_ rfl ?_
   ·simp [repV,results,Tryz.results7,go_sem,y0,y1,y2,y3,y4,y5]
   ·exact RDoPost.updQ (w1:=w8) ⟨⟨_,rfl,HV.out.1⟩,HV.out.2.1,(HU.out.mono (by simp)).trans HV.out.2.2⟩ (by have:=HQ.out;omega) HRP.out HP.out.2 HL.out
 have d6:decide (c≤6)=false:=decide_eq_false h6
 by_cases h18:c=18
 ·have d18:(c==18)=true:=by rw [beq_iff_eq];exact h18
  have hr:=HRES.out
  unfold doM otherM at hr
  dsimp only at hr
  rw [if_neg (by have:=HC.out;omega),if_neg (by have:=HC.out;omega),if_neg (by have:=HC.out;omega),if_neg (by have:=HC.out;omega),if_neg (by have:=HC.out;omega),if_neg (by have:=HC.out;omega),if_pos (by have:=HC.out;omega)] at hr
  have HR:=Lib.hid hr
  clear hr
  have cb:=(HU.out.cell (World.block_lt_of_cell? _ _ HCB.out) (by simp)).trans HCB.out
  go_upto_region 8 with fail
  go_wp2_with fail
  (with_reducible refine (HAR.out _ HU.out).mono ?_)
  rintro e w8 ⟨rfl,hu8⟩
  obtain ⟨W9,hW9,hu9,hz9⟩:=one_new w8 #[.int .u64 (ah:Int),.int .u64 (al:Int)] 37
  have HW9:=Lib.hid hW9
  have HU9:=Lib.hid (hu8.trans hu9)
  clear hu8 hu9 hW9 cb o0 o1 o2 o3 o4 o5
  go_upto_region 9 with fail
  rw [←HW9.out]
  clear HW9
  generalize w8.heap.size=q9 at hz9 ⊢
  have z0:=hz9.cell 0
  have z1:=hz9.cell 1
  simp only [List.getElem?_toArray,List.getElem?_cons_zero,List.getElem?_cons_succ] at z0 z1
  clear hz9
  have HRP:=Lib.hid (HRP0.out.upd HU9.out (by simp))
  have f0:(W9).frozen? ⟨q,0,none⟩=false:=HRP.out.frozen 0
  have f1:(W9).frozen? ⟨q,1,none⟩=false:=HRP.out.frozen 1
  have f2:(W9).frozen? ⟨q,2,none⟩=false:=HRP.out.frozen 2
  have f3:(W9).frozen? ⟨q,3,none⟩=false:=HRP.out.frozen 3
  have f4:(W9).frozen? ⟨q,4,none⟩=false:=HRP.out.frozen 4
  have f5:(W9).frozen? ⟨q,5,none⟩=false:=HRP.out.frozen 5
  have c0:(W9).cell? ⟨q,0,none⟩=some (.int .i64 0):=HRP.out.cell 0
  have c1:(W9).cell? ⟨q,1,none⟩=some (.slice none 0 0):=HRP.out.cell 1
  have c2:(W9).cell? ⟨q,2,none⟩=some (.int .i64 0):=HRP.out.cell 2
  have c3:(W9).cell? ⟨q,3,none⟩=some (.bool false):=HRP.out.cell 3
  have c4:(W9).cell? ⟨q,4,none⟩=some (.int .u64 0):=HRP.out.cell 4
  have c5:(W9).cell? ⟨q,5,none⟩=some (.int .u64 0):=HRP.out.cell 5
  have HP:=Lib.hid (And.intro (HRP.out.put (.int .i64 0) (.slice none 0 0) (.int .i64 0) (.bool false) (.int .u64 (ah:Int)) (.int .u64 (al:Int))) (upd_put (q:=q) (Upd.refl [q] (W9)) (.inl (by simp)) (.int .i64 0) (.slice none 0 0) (.int .i64 0) (.bool false) (.int .u64 (ah:Int)) (.int .u64 (al:Int))))
  go_wp2_with fail
  have y0:=HP.out.1.cell 0
  have y1:=HP.out.1.cell 1
  have y2:=HP.out.1.cell 2
  have y3:=HP.out.1.cell 3
  have y4:=HP.out.1.cell 4
  have y5:=HP.out.1.cell 5
  simp only [List.getElem?_toArray,List.getElem?_cons_zero,List.getElem?_cons_succ] at y0 y1 y2 y3 y4 y5
  refine bodyPost_ret (v:=repV 0 0 false (.slice none 0 0) ah al) ?_ rfl ?_
  ·simp [repV,results,Tryz.results7,go_sem,y0,y1,y2,y3,y4,y5]
  ·exact RDoPost.updQ (w1:=W9) (by rw [←HR.out];exact ⟨⟨_,rfl,HREPA.out _⟩,⟨_,_,_,_,_,_,HG.out.upd0 (HU.out.trans HU9.out)⟩,(HU.out.trans HU9.out).mono (by simp)⟩) (by have:=HQ.out;omega) HRP.out HP.out.2 HL.out
 have d18:(c==18)=false:=by rw [beq_eq_false_iff_ne];exact h18
 by_cases h19:c=19
 ·have d19:(c==19)=true:=by rw [beq_iff_eq];exact h19
  have hr:=HRES.out
  unfold doM otherM at hr
  dsimp only at hr
  rw [if_neg (by have:=HC.out;omega),if_neg (by have:=HC.out;omega),if_neg (by have:=HC.out;omega),if_neg (by have:=HC.out;omega),if_neg (by have:=HC.out;omega),if_neg (by have:=HC.out;omega),if_neg (by have:=HC.out;omega),if_pos (by have:=HC.out;omega)] at hr
  have HR:=Lib.hid hr
  clear hr
  have cb:=(HU.out.cell (World.block_lt_of_cell? _ _ HCB.out) (by simp)).trans HCB.out
  go_upto_region 11 with fail
  go_wp2_with fail
  (with_reducible refine (HRI.out _ HU.out).mono ?_)
  rintro e w8 ⟨rfl,hu8⟩
  obtain ⟨W9,hW9,hu9,hz9⟩:=one_new w8 #[.int .u64 (rh:Int),.int .u64 (rl:Int)] 37
  have HW9:=Lib.hid hW9
  have HU9:=Lib.hid (hu8.trans hu9)
  clear hu8 hu9 hW9 cb o0 o1 o2 o3 o4 o5
  go_upto_region 12 with fail
  rw [←HW9.out]
  clear HW9
  generalize w8.heap.size=q9 at hz9 ⊢
  have z0:=hz9.cell 0
  have z1:=hz9.cell 1
  simp only [List.getElem?_toArray,List.getElem?_cons_zero,List.getElem?_cons_succ] at z0 z1
  clear hz9
  have HRP:=Lib.hid (HRP0.out.upd HU9.out (by simp))
  have f0:(W9).frozen? ⟨q,0,none⟩=false:=HRP.out.frozen 0
  have f1:(W9).frozen? ⟨q,1,none⟩=false:=HRP.out.frozen 1
  have f2:(W9).frozen? ⟨q,2,none⟩=false:=HRP.out.frozen 2
  have f3:(W9).frozen? ⟨q,3,none⟩=false:=HRP.out.frozen 3
  have f4:(W9).frozen? ⟨q,4,none⟩=false:=HRP.out.frozen 4
  have f5:(W9).frozen? ⟨q,5,none⟩=false:=HRP.out.frozen 5
  have c0:(W9).cell? ⟨q,0,none⟩=some (.int .i64 0):=HRP.out.cell 0
  have c1:(W9).cell? ⟨q,1,none⟩=some (.slice none 0 0):=HRP.out.cell 1
  have c2:(W9).cell? ⟨q,2,none⟩=some (.int .i64 0):=HRP.out.cell 2
  have c3:(W9).cell? ⟨q,3,none⟩=some (.bool false):=HRP.out.cell 3
  have c4:(W9).cell? ⟨q,4,none⟩=some (.int .u64 0):=HRP.out.cell 4
  have c5:(W9).cell? ⟨q,5,none⟩=some (.int .u64 0):=HRP.out.cell 5
  have HP:=Lib.hid (And.intro (HRP.out.put (.int .i64 0) (.slice none 0 0) (.int .i64 0) (.bool false) (.int .u64 (rh:Int)) (.int .u64 (rl:Int))) (upd_put (q:=q) (Upd.refl [q] (W9)) (.inl (by simp)) (.int .i64 0) (.slice none 0 0) (.int .i64 0) (.bool false) (.int .u64 (rh:Int)) (.int .u64 (rl:Int))))
  go_wp2_with fail
  have y0:=HP.out.1.cell 0
  have y1:=HP.out.1.cell 1
  have y2:=HP.out.1.cell 2
  have y3:=HP.out.1.cell 3
  have y4:=HP.out.1.cell 4
  have y5:=HP.out.1.cell 5
  simp only [List.getElem?_toArray,List.getElem?_cons_zero,List.getElem?_cons_succ] at y0 y1 y2 y3 y4 y5
  refine bodyPost_ret (v:=repV 0 0 false (.slice none 0 0) rh rl) ?_ rfl ?_
  ·simp [repV,results,Tryz.results7,go_sem,y0,y1,y2,y3,y4,y5]
  ·exact RDoPost.updQ (w1:=W9) (by rw [←HR.out];exact ⟨⟨_,rfl,HREPR.out _⟩,⟨_,_,_,_,_,_,HG.out.upd0 (HU.out.trans HU9.out)⟩,(HU.out.trans HU9.out).mono (by simp)⟩) (by have:=HQ.out;omega) HRP.out HP.out.2 HL.out
 have d19:(c==19)=false:=by rw [beq_eq_false_iff_ne];exact h19
 have hr:=HDW.out (by have:=HC.out;omega) (by have:=HC.out;omega) (by have:=HC.out;omega) (by have:=HC.out;omega)
 have hcall:=HWH.out _ HU.out (by have:=HC.out;omega) (by have:=HC.out;omega) (by have:=HC.out;omega) (by have:=HC.out;omega)
 have HCALL:=Lib.hid hcall
 have HR0:=Lib.hid hr
 clear hr hcall
 go_upto_region 13 with fail
 go_wp2_with fail
 (with_reducible refine HCALL.out.mono ?_)
 intro e w8 hpo
 obtain ⟨A8,C8,rfl,hse,hup⟩:=hpo
 obtain ⟨nI,hnI⟩:∃n,IDS.length=n:=⟨_,rfl⟩
 have hse0:=hse
 rw [hnI] at hse ⊢
 have HV:=Lib.hid (And.intro hse0 hup)
 have HNI:=Lib.hid hnI
 have nI0:(0:Int)≤(nI:Int):=Int.natCast_nonneg _
 clear o0 o1 o2 o3 o4 o5 hse hse0 hup hnI
 obtain ⟨o0,o1,o2,o3,o4,o5⟩:=(HOP.out.upd HV.out.2 (by simp)).cells6
 have HRP:=Lib.hid (HRP0.out.upd HV.out.2 (by simp))
 by_cases h8:c=8∨c=12∨c=16
 ·have hr:=HR0.out
  rw [if_pos (by have:=HC.out;omega),HNI.out] at hr
  have HR:=Lib.hid hr
  clear hr
  rcases h8 with rfl | rfl | rfl
  all_goals
   clear d0 d20 d3 d6 d18 d19
   have f0:(w8).frozen? ⟨q,0,none⟩=false:=HRP.out.frozen 0
   have f1:(w8).frozen? ⟨q,1,none⟩=false:=HRP.out.frozen 1
   have f2:(w8).frozen? ⟨q,2,none⟩=false:=HRP.out.frozen 2
   have f3:(w8).frozen? ⟨q,3,none⟩=false:=HRP.out.frozen 3
   have f4:(w8).frozen? ⟨q,4,none⟩=false:=HRP.out.frozen 4
   have f5:(w8).frozen? ⟨q,5,none⟩=false:=HRP.out.frozen 5
   have c0:(w8).cell? ⟨q,0,none⟩=some (.int .i64 0):=HRP.out.cell 0
   have c1:(w8).cell? ⟨q,1,none⟩=some (.slice none 0 0):=HRP.out.cell 1
   have c2:(w8).cell? ⟨q,2,none⟩=some (.int .i64 0):=HRP.out.cell 2
   have c3:(w8).cell? ⟨q,3,none⟩=some (.bool false):=HRP.out.cell 3
   have c4:(w8).cell? ⟨q,4,none⟩=some (.int .u64 0):=HRP.out.cell 4
   have c5:(w8).cell? ⟨q,5,none⟩=some (.int .u64 0):=HRP.out.cell 5
   have HP:=Lib.hid (And.intro (HRP.out.put (.int .i64 0) (.slice none 0 0) (.int .i64 (nI:Int)) (.bool false) (.int .u64 0) (.int .u64 0)) (upd_put (q:=q) (Upd.refl [q] (w8)) (.inl (by simp)) (.int .i64 0) (.slice none 0 0) (.int .i64 (nI:Int)) (.bool false) (.int .u64 0) (.int .u64 0)))
   go_wp2_with fail
   have y0:=HP.out.1.cell 0
   have y1:=HP.out.1.cell 1
   have y2:=HP.out.1.cell 2
   have y3:=HP.out.1.cell 3
   have y4:=HP.out.1.cell 4
   have y5:=HP.out.1.cell 5
   simp only [List.getElem?_toArray,List.getElem?_cons_zero,List.getElem?_cons_succ] at y0 y1 y2 y3 y4 y5
   refine bodyPost_ret (v:=repV 0 nI false (.slice none 0 0) 0 0) ?_ rfl ?_
   ·simp [repV,results,Tryz.results7,go_sem,y0,y1,y2,y3,y4,y5]
   ·exact RDoPost.updQ (w1:=w8) (by rw [HR.out];exact ⟨⟨_,rfl,repAt_cnt _ _⟩,⟨_,_,_,_,_,_,HG.out.upd0 (HU.out.trans HV.out.2)⟩,(HU.out.trans HV.out.2).mono (by simp)⟩) (by have:=HQ.out;omega) HRP.out HP.out.2 HL.out
 ·by_cases h10:c=10
  ·have hr:=HR0.out
   rw [if_neg (by have:=HC.out;omega),if_pos (by have:=HC.out;omega),HNI.out] at hr
   subst h10
   clear d0 d20 d3 d6 d18 d19 h8
   obtain ⟨b,hb⟩:∃b,decide (0<nI)=b:=⟨_,rfl⟩
   rw [hb] at hr
   have HR:=Lib.hid hr
   clear hr
   have f0:(w8).frozen? ⟨q,0,none⟩=false:=HRP.out.frozen 0
   have f1:(w8).frozen? ⟨q,1,none⟩=false:=HRP.out.frozen 1
   have f2:(w8).frozen? ⟨q,2,none⟩=false:=HRP.out.frozen 2
   have f3:(w8).frozen? ⟨q,3,none⟩=false:=HRP.out.frozen 3
   have f4:(w8).frozen? ⟨q,4,none⟩=false:=HRP.out.frozen 4
   have f5:(w8).frozen? ⟨q,5,none⟩=false:=HRP.out.frozen 5
   have c0:(w8).cell? ⟨q,0,none⟩=some (.int .i64 0):=HRP.out.cell 0
   have c1:(w8).cell? ⟨q,1,none⟩=some (.slice none 0 0):=HRP.out.cell 1
   have c2:(w8).cell? ⟨q,2,none⟩=some (.int .i64 0):=HRP.out.cell 2
   have c3:(w8).cell? ⟨q,3,none⟩=some (.bool false):=HRP.out.cell 3
   have c4:(w8).cell? ⟨q,4,none⟩=some (.int .u64 0):=HRP.out.cell 4
   have c5:(w8).cell? ⟨q,5,none⟩=some (.int .u64 0):=HRP.out.cell 5
   have HP:=Lib.hid (And.intro (HRP.out.put (.int .i64 0) (.slice none 0 0) (.int .i64 0) (.bool b) (.int .u64 0) (.int .u64 0)) (upd_put (q:=q) (Upd.refl [q] (w8)) (.inl (by simp)) (.int .i64 0) (.slice none 0 0) (.int .i64 0) (.bool b) (.int .u64 0) (.int .u64 0)))
   go_wp2_with fail
   have y0:=HP.out.1.cell 0
   have y1:=HP.out.1.cell 1
   have y2:=HP.out.1.cell 2
   have y3:=HP.out.1.cell 3
   have y4:=HP.out.1.cell 4
   have y5:=HP.out.1.cell 5
   simp only [List.getElem?_toArray,List.getElem?_cons_zero,List.getElem?_cons_succ] at y0 y1 y2 y3 y4 y5
   refine bodyPost_ret (v:=repV 0 0 b (.slice none 0 0) 0 0) ?_ rfl ?_
   ·simp [repV,results,Tryz.results7,go_sem,y0,y1,y2,y3,y4,y5]
   ·exact RDoPost.updQ (w1:=w8) (by rw [HR.out];exact ⟨⟨_,rfl,repAt_yes _ _⟩,⟨_,_,_,_,_,_,HG.out.upd0 (HU.out.trans HV.out.2)⟩,(HU.out.trans HV.out.2).mono (by simp)⟩) (by have:=HQ.out;omega) HRP.out HP.out.2 HL.out
  ·have hr:=HR0.out
   rw [if_neg (by have:=HC.out;omega),if_neg (by have:=HC.out;omega)] at hr
   have HR:=Lib.hid hr
   have t8:(c==8)=false:=by rw [beq_eq_false_iff_ne];omega
   have t12:(c==12)=false:=by rw [beq_eq_false_iff_ne];omega
   have t16:(c==16)=false:=by rw [beq_eq_false_iff_ne];omega
   have t10:(c==10)=false:=by rw [beq_eq_false_iff_ne];omega
   clear hr h8 h10
   have f0:(w8).frozen? ⟨q,0,none⟩=false:=HRP.out.frozen 0
   have f1:(w8).frozen? ⟨q,1,none⟩=false:=HRP.out.frozen 1
   have f2:(w8).frozen? ⟨q,2,none⟩=false:=HRP.out.frozen 2
   have f3:(w8).frozen? ⟨q,3,none⟩=false:=HRP.out.frozen 3
   have f4:(w8).frozen? ⟨q,4,none⟩=false:=HRP.out.frozen 4
   have f5:(w8).frozen? ⟨q,5,none⟩=false:=HRP.out.frozen 5
   have c0:(w8).cell? ⟨q,0,none⟩=some (.int .i64 0):=HRP.out.cell 0
   have c1:(w8).cell? ⟨q,1,none⟩=some (.slice none 0 0):=HRP.out.cell 1
   have c2:(w8).cell? ⟨q,2,none⟩=some (.int .i64 0):=HRP.out.cell 2
   have c3:(w8).cell? ⟨q,3,none⟩=some (.bool false):=HRP.out.cell 3
   have c4:(w8).cell? ⟨q,4,none⟩=some (.int .u64 0):=HRP.out.cell 4
   have c5:(w8).cell? ⟨q,5,none⟩=some (.int .u64 0):=HRP.out.cell 5
   have HP:=Lib.hid (And.intro (HRP.out.put (.int .i64 0) (.slice A8 nI C8) (.int .i64 0) (.bool false) (.int .u64 0) (.int .u64 0)) (upd_put (q:=q) (Upd.refl [q] (w8)) (.inl (by simp)) (.int .i64 0) (.slice A8 nI C8) (.int .i64 0) (.bool false) (.int .u64 0) (.int .u64 0)))
   go_wp2_with fail
   have y0:=HP.out.1.cell 0
   have y1:=HP.out.1.cell 1
   have y2:=HP.out.1.cell 2
   have y3:=HP.out.1.cell 3
   have y4:=HP.out.1.cell 4
   have y5:=HP.out.1.cell 5
   simp only [List.getElem?_toArray,List.getElem?_cons_zero,List.getElem?_cons_succ] at y0 y1 y2 y3 y4 y5
   refine bodyPost_ret (v:=repV 0 0 false (.slice A8 nI C8) 0 0) ?_ rfl ?_
   ·simp [repV,results,Tryz.results7,go_sem,y0,y1,y2,y3,y4,y5]
   ·exact RDoPost.updQ (w1:=w8) (by rw [HR.out];exact ⟨⟨_,rfl,(by rw [←HNI.out];exact repAt_ids _ _ _ _ HV.out.1)⟩,⟨_,_,_,_,_,_,HG.out.upd0 (HU.out.trans HV.out.2)⟩,(HU.out.trans HV.out.2).mono (by simp)⟩) (by have:=HQ.out;omega) HRP.out HP.out.2 HL.out
end Go.Proofs.YtkmnbodlciepaaaGreat
