/- gridironlaw26.ModelOthers: the walk. Printed by mkothers.py. -/
import Derived.Test.YtkmnbodlciepaaaGreatPk27
import Derived.Test.YtkmnbodlciepaaaGreatPk16
import Derived.Test.YtkmnbodlciepaaaGreatPk28
import Derived.Test.YtkmnbodlciepaaaGreatPk35
import Derived.Test.YtkmnbodlciepaaaGreatPk53
import Derived.Test.YtkmnbodlciepaaaGreatPk17
import Derived.Test.YtkmnbodlciepaaaGreatPk5
set_option maxHeartbeats 16000000
set_option maxRecDepth 100000
namespace Go.Proofs.YtkmnbodlciepaaaGreat
open Go.RowKit
def cntO {α:Type} (p:α→Bool) (l:List α) (k:Nat):Nat:=(l.take k).countP p
theorem cntO_step {α:Type} {p:α→Bool} {l:List α} {k:Nat} {q:α} (h:l[k]? = some q):cntO p l (k+1)=cntO p l k+if p q=true then 1 else 0:=by
 obtain ⟨h1,h2⟩:=List.getElem?_eq_some_iff.1 h
 unfold cntO
 rw [List.take_succ_eq_append_getElem h1,h2,List.countP_append,List.countP_singleton]
theorem cntO_all {α:Type} (key:α→Nat) (p:α→Bool) (l:List α) {k:Nat} (h:l.length≤k):cntO p l k=(namesM key l p).length:=by
 unfold cntO namesM
 rw [List.take_of_length_le h,List.length_map,List.countP_eq_length_filter]
theorem cntO_le {α:Type} (key:α→Nat) (p:α→Bool) (l:List α) (k:Nat):cntO p l k≤(namesM key l p).length:=by
 unfold cntO namesM
 rw [List.length_map,←List.countP_eq_length_filter]
 exact (List.take_sublist k l).countP_le
theorem in_namesO {α:Type} {key:α→Nat} {p:α→Bool} {l:List α} (h:Asc key l) {q:α} (hq:q∈l):decide (key q∈namesM key l p)=p q:=by
 cases hp:p q with
 |true=>exact decide_eq_true ((mem_namesM h p hq).2 hp)
 |false=>exact decide_eq_false fun hc=>by rw [(mem_namesM h p hq).1 hc] at hp;cases hp
def stabO (a:Int) (s:Sp):Bool:=stabBM s.lo s.hi a
def meetO (a b:Int) (s:Sp):Bool:=decide (max s.lo a≤min s.hi b)
def atO (a b:Int) (q:Bx):Bool:=inBM q a b
theorem do_stab {A R:List Bx→Nat} (m:Md) (a:Int):(doM A R m ⟨15,a,0,0,0,0⟩).2=idsR (namesM Sp.id m.ss (stabO a)):=by
 rw [do_other ⟨by simp,by simp⟩];rfl
theorem do_meet {A R:List Bx→Nat} (m:Md) (a b:Int):(doM A R m ⟨17,a,b,0,0,0⟩).2=idsR (namesM Sp.id m.ss (meetO a b)):=by
 rw [do_other ⟨by simp,by simp⟩];rfl
theorem do_at {A R:List Bx→Nat} (m:Md) (a b:Int):(doM A R m ⟨20,a,b,0,0,0⟩).2=idsR (namesM Bx.id m.bs (atO a b)):=by
 rw [do_other ⟨by simp,by simp⟩];rfl
theorem do_area {A R:List Bx→Nat} (m:Md):(doM A R m ⟨18,0,0,0,0,0⟩).2=wideR (A m.bs):=by
 rw [do_other ⟨by simp,by simp⟩];rfl
theorem do_rim {A R:List Bx→Nat} (m:Md):(doM A R m ⟨19,0,0,0,0,0⟩).2=wideR (R m.bs):=by
 rw [do_other ⟨by simp,by simp⟩];rfl
theorem repAt_idsO {w:World} {v:Value} {l:List Nat} (h:RepAt w v (idsR l)):∃A C,v=.agg #[.int .i64 0,.slice A l.length C,.int .i64 0,.bool false,.int .u64 0,.int .u64 0]∧See KU w (.slice A l.length C) l:=by
 obtain ⟨A,C,hi,lo,h1,h2,_,_,h5⟩:=h
 have e:hi=0∧lo=0:=by
  have:(0:Nat)=hi*18446744073709551616+lo:=h5
  omega
 obtain ⟨rfl,rfl⟩:=e
 exact ⟨A,C,h1,h2⟩
theorem repAt_wideP {w:World} {v:Value} {n h l:Nat} (e:h=n / 18446744073709551616∧l=n % 18446744073709551616) (hr:RepAt w v (wideR n)):∃A C,v=.agg #[.int .i64 0,.slice A 0 C,.int .i64 0,.bool false,.int .u64 (h:Int),.int .u64 (l:Int)]:=by
 obtain ⟨A,C,hi,lo,h1,-,-,h4,h5⟩:=hr
 have h5':n=hi*18446744073709551616+lo:=h5
 have:hi=h∧lo=l:=by omega
 obtain ⟨rfl,rfl⟩:=this
 exact ⟨A,C,h1⟩
theorem wide_same26 (a b:Int) (w:World):(binOp .eql 37 (.agg #[.int .u64 a,.int .u64 b]) (.agg #[.int .u64 a,.int .u64 b])).run Tryz.prog w=.ok (.bool true) w:=by
 rw [run_eql_struct,run_equalIn_agg _ _ _ _ _ (by kernel_rfl) (by kernel_rfl)]
 go_simp
theorem modelOthers_walk (v:Value) (L:List OpP) (o:OpP) (w:World) (hs:See KOp w v L) (hl:L.length<9223372036854775808) (hin:∀o∈L,o.in64) (ho:o.in64) :
 Calls Tryz.prog 4 #[v,opV o] w fun e w'=>e=.returned (.bool true)∧Upd [] w w':=by
 obtain ⟨A',C',rfl⟩:=hs.form
 obtain ⟨n,hn⟩:∃n,L.length=n:=⟨_,rfl⟩
 have haf:=fun (w9:World) (hu:Upd [] w w9)=>afterC ar26 255 (by decide) (.slice A' L.length C') L w9 (hs.upd0 hu) hl hin
 rw [hn,show ((255:Nat):Int)=255 from rfl] at haf
 rw [hn]
 obtain ⟨M,hM⟩:∃M,runM areaN rimN ⟨1+255,[],[],[]⟩ (L.take 60)=M:=⟨_,rfl⟩
 simp only [hM] at haf
 have HAF:=Lib.hid haf
 have HO:=Lib.hid ho
 clear hs hl hin haf hn hM ho
 obtain ⟨oc,oa,ob,occ,od,oi⟩:=o
 unfold opV
 dsimp only
 have HU0:=Lib.hid (show Upd [] w (w.alloc (.cells #[.int .u8 (oc:Int),.int .i64 oa,.int .i64 ob,.int .i64 occ,.int .i64 od,.int .u32 (oi:Int)] 43)) from (Upd.refl _ _).alloc _)
 have HC0:=Lib.hid (op_new w #[.int .u8 (oc:Int),.int .i64 oa,.int .i64 ob,.int .i64 occ,.int .i64 od,.int .u32 (oi:Int)])
 go_enter Tryz.func4,Tryz.ntmps4
 go_upto_region 1 with fail
 generalize (w.alloc (.cells #[.int .u8 (oc:Int),.int .i64 oa,.int .i64 ob,.int .i64 occ,.int .i64 od,.int .u32 (oi:Int)] 43))=W0 at HU0 HC0 ⊢
 obtain ⟨qo,hqo⟩:∃q,w.heap.size=q:=⟨_,rfl⟩
 rw [hqo] at HC0 ⊢
 clear hqo
 go_wp2_with fail
 (with_reducible refine (HAF.out _ HU0.out).mono ?_)
 rintro e w1 ⟨h,p,s,x,rfl,hm1,hu1,g1,g2,g3,g4⟩
 have hq1:qo<W0.heap.size:=(HC0.out).lt rfl
 have HB:=Lib.hid (show (qo∉[p,s,x])∧w.heap.size≤p∧w.heap.size≤s∧w.heap.size≤x by
  have h4:=HU0.out.size
  simp only [List.mem_cons,List.not_mem_nil,or_false]
  omega)
 have HM1:=Lib.hid hm1
 have HCo:=Lib.hid (HC0.out.upd0 hu1)
 have HU1:=Lib.hid (HU0.out.trans hu1)
 clear hm1 hu1 g1 g2 g3 g4 hq1 HC0 HU0 HAF
 have o1:=HCo.out 1 _ rfl
 have hO:=HO.out.1
 dsimp only at hO
 obtain ⟨l,hlM⟩:∃l,M.ss=l:=⟨_,rfl⟩
 obtain ⟨lb,hlB⟩:∃l,M.bs=l:=⟨_,rfl⟩
 have hd:=doAsk ar26 HM1.out (by decide) ⟨15,oa,0,0,0,0⟩ ⟨⟨hO.1,by show z64 0;decide,by show z64 0;decide,by show z64 0;decide⟩,by show (0:Nat)<_;decide,by show (15:Nat)<_;decide⟩ (by show 7≤15;decide)
 rw [do_stab,hlM] at hd
 have HD:=Lib.hid (show Calls Tryz.prog 9 #[.pointer (some ⟨h,0,none⟩),.agg #[.int .u8 15,.int .i64 oa,.int .i64 0,.int .i64 0,.int .i64 0,.int .u32 0]] w1 _ from hd)
 clear hd
 go_wp2_with fail
 (with_reducible refine HD.out.mono ?_)
 rintro e w2 ⟨⟨u,rfl,hre⟩,hmm,hup⟩
 obtain ⟨A1,C1,rfl,hsee⟩:=repAt_idsO hre
 obtain ⟨n1,hn1⟩:∃k,(namesM Sp.id l (stabO oa)).length=k:=⟨_,rfl⟩
 rw [hn1] at hsee ⊢
 have H2:=Lib.hid (And.intro hmm (And.intro hup (And.intro hsee (HCo.out.upd hup HB.out.1))))
 have HN1:=Lib.hid hn1
 have hfd:=fun w=>rep_field1 0 A1 n1 C1 0 false 0 0 w
 clear hre hmm hup hsee hn1 HD o1
 have hd:=doAsk ar26 H2.out.1 (by decide) ⟨17,oa,ob,0,0,0⟩ ⟨⟨hO.1,hO.2.1,by show z64 0;decide,by show z64 0;decide⟩,by show (0:Nat)<_;decide,by show (17:Nat)<_;decide⟩ (by show 7≤17;decide)
 rw [do_meet,hlM] at hd
 have HD:=Lib.hid (show Calls Tryz.prog 9 #[.pointer (some ⟨h,0,none⟩),.agg #[.int .u8 17,.int .i64 oa,.int .i64 ob,.int .i64 0,.int .i64 0,.int .u32 0]] w2 _ from hd)
 clear hd
 go_upto_region 5 with fail
 clear hfd
 have o1:=H2.out.2.2.2 1 _ rfl
 have o2:=H2.out.2.2.2 2 _ rfl
 go_wp2_with fail
 (with_reducible refine HD.out.mono ?_)
 rintro e w3 ⟨⟨u,rfl,hre⟩,hmm,hup⟩
 obtain ⟨A2,C2,rfl,hsee⟩:=repAt_idsO hre
 obtain ⟨n2,hn2⟩:∃k,(namesM Sp.id l (meetO oa ob)).length=k:=⟨_,rfl⟩
 rw [hn2] at hsee ⊢
 have H3:=Lib.hid (And.intro hmm (And.intro (H2.out.2.1.trans hup) (And.intro (H2.out.2.2.1.updM (by decide) H2.out.1.at' hup) (And.intro hsee (H2.out.2.2.2.upd hup HB.out.1)))))
 have HN2:=Lib.hid hn2
 have hfd:=fun w=>rep_field1 0 A2 n2 C2 0 false 0 0 w
 clear hre hmm hup hsee hn2 HD o1 o2
 have hd:=doAsk ar26 H3.out.1 (by decide) ⟨20,oa,ob,0,0,0⟩ ⟨⟨hO.1,hO.2.1,by show z64 0;decide,by show z64 0;decide⟩,by show (0:Nat)<_;decide,by show (20:Nat)<_;decide⟩ (by show 7≤20;decide)
 rw [do_at,hlB] at hd
 have HD:=Lib.hid (show Calls Tryz.prog 9 #[.pointer (some ⟨h,0,none⟩),.agg #[.int .u8 20,.int .i64 oa,.int .i64 ob,.int .i64 0,.int .i64 0,.int .u32 0]] w3 _ from hd)
 clear hd
 go_upto_region 6 with fail
 clear hfd
 have o1:=H3.out.2.2.2.2 1 _ rfl
 have o2:=H3.out.2.2.2.2 2 _ rfl
 go_wp2_with fail
 (with_reducible refine HD.out.mono ?_)
 rintro e w4 ⟨⟨u,rfl,hre⟩,hmm,hup⟩
 obtain ⟨A3,C3,rfl,hsee⟩:=repAt_idsO hre
 obtain ⟨n3,hn3⟩:∃k,(namesM Bx.id lb (atO oa ob)).length=k:=⟨_,rfl⟩
 rw [hn3] at hsee ⊢
 have H4:=Lib.hid (And.intro hmm (And.intro (H3.out.2.1.trans hup) (And.intro (H3.out.2.2.1.updM (by decide) H3.out.1.at' hup) (And.intro (H3.out.2.2.2.1.updM (by decide) H3.out.1.at' hup) (And.intro hsee (H3.out.2.2.2.2.upd hup HB.out.1))))))
 have HN3:=Lib.hid hn3
 have hfd:=fun w=>rep_field1 0 A3 n3 C3 0 false 0 0 w
 clear hre hmm hup hsee hn3 HD o1 o2 H2 H3 HCo HM1
 have hsm:=H4.out.1.small
 rw [hlM,hlB] at hsm
 have n1b:(n1:Int)<100:=by have:=HN1.out;have:=names_len Sp.id l (stabO oa);omega
 have n2b:(n2:Int)<100:=by have:=HN2.out;have:=names_len Sp.id l (meetO oa ob);omega
 have n3b:(n3:Int)<100:=by have:=HN3.out;have:=names_len Bx.id lb (atO oa ob);omega
 have n1a:(0:Int)≤(n1:Int):=Int.natCast_nonneg _
 have n2a:(0:Int)≤(n2:Int):=Int.natCast_nonneg _
 have n3a:(0:Int)≤(n3:Int):=Int.natCast_nonneg _
 have hpt:=theSpans H4.out.1.at' (show M.ss.length<1000000 by rw [hlM];omega)
 obtain ⟨n0,hn0⟩:∃n,l.length=n:=⟨_,rfl⟩
 obtain ⟨nb,hnb⟩:∃n,lb.length=n:=⟨_,rfl⟩
 rw [hlM,hn0] at hpt
 have HPT:=Lib.hid hpt
 have HN0:=Lib.hid hn0
 have HNB:=Lib.hid hnb
 have HASC:=Lib.hid (show Asc Sp.id l∧Asc Bx.id lb∧∀b∈lb,b.in64 by
  have h1:=H4.out.1.at'.ok.ss
  have h2:=H4.out.1.at'.ok.bs
  have h3:=H4.out.1.in64.bs
  rw [hlM] at h1
  rw [hlB] at h2 h3
  exact ⟨h1,h2,h3⟩)
 have HBL:=Lib.hid (show M.bs.length<1000000 by rw [hlB];omega)
 have q0:(0:Int)≤(n0:Int):=Int.natCast_nonneg _
 have q1:(n0:Int)<100:=by omega
 have q2:(0:Int)≤(nb:Int):=Int.natCast_nonneg _
 have q3:(nb:Int)<100:=by omega
 clear hpt hsm hn0 hnb
 go_upto_region 8 with fail
 clear hfd
 go_wp2_with fail
 (with_reducible refine HPT.out.mono ?_)
 rintro e w5 ⟨Ap,Cp,rfl,hrow,hu5⟩
 have HP:=Lib.hid (And.intro (See.of_row hrow) (And.intro (H4.out.1.upd0 hu5) (And.intro (H4.out.2.1.trans (hu5.mono (by simp))) (And.intro (H4.out.2.2.1.upd0 hu5) (And.intro (H4.out.2.2.2.1.upd0 hu5) (And.intro (H4.out.2.2.2.2.1.upd0 hu5) (H4.out.2.2.2.2.2.upd0 hu5)))))))
 clear hrow hu5 H4 HPT
 go_wp2_with fail
 go_loopg [9,55] n0 (fun m s9 s55 wr=>∃(i:Nat) (z:Int),m+i=n0∧s55=.int .i64 (i:Int)∧s9=.int .i64 z∧z=(n1:Int)+n2+n3 - (cntO (stabO oa) l i+cntO (meetO oa ob) l i:Nat)∧Upd [] w5 wr)
 case atStart=>exact ⟨0,_,rfl,rfl,rfl,by simp [cntO],Upd.refl _ _⟩
 case round=>
  obtain ⟨i,z,hi,rfl,rfl,hz,hu⟩:=hrel
  have HI:=Lib.hid (And.intro hi (And.intro hz hu))
  have i0:(0:Int)≤(i:Int):=Int.natCast_nonneg _
  have i3:(i:Int)<2000:=by omega
  by_cases hlt:i<n0
  ·have i1:(i:Int)<(n0:Int):=by omega
   obtain ⟨sp,hsp⟩:∃y,l[i]? = some y:=⟨_,List.getElem?_eq_getElem (by rw [HN0.out];exact hlt)⟩
   obtain ⟨gp,op,hA,-,-,c0,c1,c2⟩:=KSp.at (HP.out.1.upd0 hu) hsp
   subst hA
   have HLT:=Lib.hid (And.intro hlt (And.intro hsp (List.mem_of_getElem? hsp)))
   have zb : -10≤z∧z<3000:=by
    have h1:=cntO_le Sp.id (stabO oa) l i
    have h2:=cntO_le Sp.id (meetO oa ob) l i
    have h3:=HN1.out
    have h4:=HN2.out
    omega
   obtain ⟨z0,z1⟩:=zb
   clear hi hz hu hlt hsp
   go_upto_region 11 with fail
   have HE:=Lib.hid (show HpC (wr.alloc (.cells #[.int .i64 sp.lo,.int .i64 sp.hi,.int .u32 (sp.id:Int)] 54)) wr.heap.size #[.int .i64 sp.lo,.int .i64 sp.hi,.int .u32 (sp.id:Int)] 54 from heap_alloc_new wr _)
   have HU:=Lib.hid (HI.out.2.2.alloc (.cells #[.int .i64 sp.lo,.int .i64 sp.hi,.int .u32 (sp.id:Int)] 54))
   clear c0 c1 c2
   generalize (wr.alloc (.cells #[.int .i64 sp.lo,.int .i64 sp.hi,.int .u32 (sp.id:Int)] 54))=wa at HE HU ⊢
   generalize wr.heap.size=qp at HE ⊢
   have hc4:=in_namesO (p:=stabO oa) HASC.out.1 HLT.out.2.2
   have hc3:=in_namesO (p:=meetO oa ob) HASC.out.1 HLT.out.2.2
   have hw4:=fun w9 (hu:Upd [] wa w9)=>withC (.slice A1 n1 C1) _ sp.id w9 ((HP.out.2.2.2.1.upd0 HU.out).upd0 hu) (by have:=HN1.out;omega)
   have hw3:=fun w9 (hu:Upd [] wa w9)=>withC (.slice A2 n2 C2) _ sp.id w9 ((HP.out.2.2.2.2.1.upd0 HU.out).upd0 hu) (by have:=HN2.out;omega)
   rw [hc4] at hw4
   rw [hc3] at hw3
   obtain ⟨b4,hb4⟩:∃b,stabO oa sp=b:=⟨_,rfl⟩
   obtain ⟨b3,hb3⟩:∃b,meetO oa ob sp=b:=⟨_,rfl⟩
   simp only [hb4] at hw4
   simp only [hb3] at hw3
   have HW4:=Lib.hid hw4
   have HW3:=Lib.hid hw3
   have HBB:=Lib.hid (And.intro hb4 hb3)
   clear hc4 hc3 hw4 hw3
   go_cut [80] (fun s80 we=>s80=.bool false∧Upd [] wa we)
   case first=>
    have hst:=fun w9=>stabCM sp.lo sp.hi oa (sp.id:Int) w9
    have hmt:=fun w9=>meetC sp.lo sp.hi (sp.id:Int) oa ob w9
    unfold stabO at hb4
    unfold meetO at hb3
    simp only [hb4] at hst
    simp only [hb3] at hmt
    have HST:=Lib.hid hst
    have HMT:=Lib.hid hmt
    have p0:=HE.out.cell 0
    have p1:=HE.out.cell 1
    have p2:=HE.out.cell 2
    have hop:=HP.out.2.2.2.2.2.2.upd0 HU.out
    have o1:=hop 1 _ rfl
    have o2:=hop 2 _ rfl
    simp only [List.getElem?_toArray,List.getElem?_cons_zero,List.getElem?_cons_succ] at p0 p1 p2
    have tr:∀{a:Addr} {v:Value},wa.cell? a=some v→∀z:QW wa,z.w.cell? a=some v:=fun hv z=>(z.up.cell (World.block_lt_of_cell? _ _ hv) (by simp)).trans hv
    have cp0:=tr p0
    have cp1:=tr p1
    have cp2:=tr p2
    have co1:=tr o1
    have co2:=tr o2
    have e4:(b4==b4)=true:=by simp
    have e3:(b3==b3)=true:=by simp
    clear p0 p1 p2 hop o1 o2 tr hst hmt hb4 hb3
    refine wp_region_quietU (by kernel_rfl) (by kernel_rfl) ?_
    repeat (go_big_quiet_step (first | (with_reducible exact Calls.quietU (HMT.out _)) | (with_reducible exact Calls.quietU (HST.out _)) | (with_reducible exact Calls.quietU ((HW4.out _ (QW.up _)).mono fun _ _ hh=>⟨hh.1,hh.2 ▸ Upd.refl _ _⟩)) | (with_reducible exact Calls.quietU ((HW3.out _ (QW.up _)).mono fun _ _ hh=>⟨hh.1,hh.2 ▸ Upd.refl _ _⟩))))
    refine wpQuiet_nil ?_
    intro _ hw'
    obtain ⟨⟨wq,hwq⟩,hw''⟩:=hw'
    dsimp only at hw''
    subst hw''
    clear cp0 cp1 cp2 co1 co2
    go_wp2_with fail
    go_meet
    case rel=>exact ⟨rfl,hwq⟩
   obtain ⟨rfl,huc⟩:=hcut
   obtain ⟨wc1,rfl⟩:∃W:World,W=wc:=⟨_,rfl⟩
   have HUc:=Lib.hid huc
   have HEc:=Lib.hid (HE.out.upd huc (by simp))
   clear huc hb4 hb3
   go_upto_if 80 with fail
   go_step
   go_step
   go_step
   go_step
   go_step
   go_cut [9] (fun s9 we=>s9=.int .i64 (bif b4 then z - 1 else z)∧wc1=we)
   case first=>
    have p2:=HEc.out.cell 2
    simp only [List.getElem?_toArray,List.getElem?_cons_zero,List.getElem?_cons_succ] at p2
    cases b4 with
    |true=>
     go_wp2_with fail
     (with_reducible refine (HW4.out _ HUc.out).mono ?_)
     rintro e w9 ⟨rfl,rfl⟩
     go_wp2_with fail
     go_meet
     case rel=>exact ⟨rfl,rfl⟩
    |false=>
     go_wp2_with fail
     (with_reducible refine (HW4.out _ HUc.out).mono ?_)
     rintro e w9 ⟨rfl,rfl⟩
     go_wp2_with fail
     go_meet
     case rel=>exact ⟨rfl,rfl⟩
   obtain ⟨rfl,rfl⟩:=hcut
   obtain ⟨y4,hy4⟩:∃y,(bif b4 then z - 1 else z)=y:=⟨_,rfl⟩
   have hy4b : -20≤y4∧y4<3000:=by rw [←hy4];cases b4<;>simp<;>omega
   obtain ⟨y40,y41⟩:=hy4b
   rw [hy4]
   have HY4:=Lib.hid hy4
   clear hy4
   go_step
   go_step
   have p2:=HEc.out.cell 2
   simp only [List.getElem?_toArray,List.getElem?_cons_zero,List.getElem?_cons_succ] at p2
   cases b3 with
   |true=>
    go_wp2_with fail
    (with_reducible refine (HW3.out _ HUc.out).mono ?_)
    rintro e w9 ⟨rfl,rfl⟩
    go_wp2_with fail
    go_roundg (n0 - (i+1))
    case measure=>have:=HI.out.1;have:=HLT.out.1;omega
    case rel=>
     refine ⟨i+1,y4 - 1,by have:=HI.out.1;have:=HLT.out.1;omega,by go_num,rfl,?_,HU.out.trans HUc.out⟩
     rw [cntO_step HLT.out.2.1,cntO_step HLT.out.2.1,HBB.out.1,HBB.out.2,←HY4.out,HI.out.2.1]
     cases b4<;>simp<;>omega
   |false=>
    go_wp2_with fail
    (with_reducible refine (HW3.out _ HUc.out).mono ?_)
    rintro e w9 ⟨rfl,rfl⟩
    go_wp2_with fail
    go_roundg (n0 - (i+1))
    case measure=>have:=HI.out.1;have:=HLT.out.1;omega
    case rel=>
     refine ⟨i+1,y4,by have:=HI.out.1;have:=HLT.out.1;omega,by go_num,rfl,?_,HU.out.trans HUc.out⟩
     rw [cntO_step HLT.out.2.1,cntO_step HLT.out.2.1,HBB.out.1,HBB.out.2,←HY4.out,HI.out.2.1]
     cases b4<;>simp<;>omega
  ·have hz0:z=(n3:Int):=by
    rw [hz,cntO_all Sp.id _ _ (by have:=HN0.out;omega),cntO_all Sp.id _ _ (by have:=HN0.out;omega),HN1.out,HN2.out]
    omega
   subst hz0
   have HM6:=Lib.hid (HP.out.2.1.upd0 hu)
   have hbx:=theBoxes HM6.out.at' HBL.out
   rw [hlB,HNB.out] at hbx
   have HBX:=Lib.hid hbx
   have H6:=Lib.hid (And.intro (HP.out.2.2.1.trans (hu.mono (by simp))) (And.intro (HP.out.2.2.2.2.2.1.upd0 hu) (HP.out.2.2.2.2.2.2.upd0 hu)))
   obtain ⟨wk,rfl⟩:∃W:World,W=wr:=⟨_,rfl⟩
   clear hbx hi hz hu HP HI
   go_upto_region 18 with fail
   clear hlt i0 i3
   go_wp2_with fail
   (with_reducible refine HBX.out.mono ?_)
   rintro e w7 ⟨Aq,Cq,rfl,hrow,hu7⟩
   have H7:=Lib.hid (And.intro (See.of_row hrow) (And.intro (HM6.out.upd0 hu7) (And.intro (H6.out.1.trans (hu7.mono (by simp))) (And.intro (H6.out.2.1.upd0 hu7) (H6.out.2.2.upd0 hu7)))))
   clear hrow hu7 H6 HM6 HBX
   go_wp2_with fail
   obtain ⟨gO,rfl⟩:∃gO:Nat,gO=gk:=⟨_,rfl⟩
   go_loopg [9,97] nb (fun m s9 s97 wr=>∃(i:Nat) (z:Int),m+i=nb∧s97=.int .i64 (i:Int)∧s9=.int .i64 z∧z=(n3:Int) - (cntO (atO oa ob) lb i:Nat)∧Upd [] w7 wr)
   case atStart=>exact ⟨0,_,rfl,rfl,rfl,by simp [cntO],Upd.refl _ _⟩
   case round=>
    obtain ⟨i,z,hi,rfl,rfl,hz,hu⟩:=hrel
    have HI:=Lib.hid (And.intro hi (And.intro hz hu))
    have i0:(0:Int)≤(i:Int):=Int.natCast_nonneg _
    have i3:(i:Int)<2000:=by omega
    by_cases hlt:i<nb
    ·have i1:(i:Int)<(nb:Int):=by omega
     obtain ⟨bb,hbb⟩:∃y,lb[i]? = some y:=⟨_,List.getElem?_eq_getElem (by rw [HNB.out];exact hlt)⟩
     obtain ⟨gp,op,hA,-,-,c0,c1,c2,c3,c4⟩:=KBx.at (H7.out.1.upd0 hu) hbb
     subst hA
     have HLT:=Lib.hid (And.intro hlt (And.intro hbb (List.mem_of_getElem? hbb)))
     have zb : -10≤z∧z<3000:=by
      have h1:=cntO_le Bx.id (atO oa ob) lb i
      have h3:=HN3.out
      omega
     obtain ⟨z0,z1⟩:=zb
     clear hi hz hu hlt hbb
     go_upto_region 21 with fail
     have HE:=Lib.hid (show HpC (wr.alloc (.cells #[.int .i64 bb.x1,.int .i64 bb.x2,.int .i64 bb.y1,.int .i64 bb.y2,.int .u32 (bb.id:Int)] 59)) wr.heap.size #[.int .i64 bb.x1,.int .i64 bb.x2,.int .i64 bb.y1,.int .i64 bb.y2,.int .u32 (bb.id:Int)] 59 from heap_alloc_new wr _)
     have HU:=Lib.hid (HI.out.2.2.alloc (.cells #[.int .i64 bb.x1,.int .i64 bb.x2,.int .i64 bb.y1,.int .i64 bb.y2,.int .u32 (bb.id:Int)] 59))
     clear c0 c1 c2 c3 c4
     generalize (wr.alloc (.cells #[.int .i64 bb.x1,.int .i64 bb.x2,.int .i64 bb.y1,.int .i64 bb.y2,.int .u32 (bb.id:Int)] 59))=wa at HE HU ⊢
     generalize wr.heap.size=qp at HE ⊢
     have hc4:=in_namesO (p:=atO oa ob) HASC.out.2.1 HLT.out.2.2
     have hw4:=fun w9 (hu:Upd [] wa w9)=>withC (.slice A3 n3 C3) _ bb.id w9 ((H7.out.2.2.2.1.upd0 HU.out).upd0 hu) (by have:=HN3.out;omega)
     rw [hc4] at hw4
     obtain ⟨b4,hb4⟩:∃b,atO oa ob bb=b:=⟨_,rfl⟩
     simp only [hb4] at hw4
     have HW4:=Lib.hid hw4
     have HBB:=Lib.hid hb4
     clear hc4 hw4
     go_cut [112] (fun s112 we=>s112=.bool false∧Upd [] wa we)
     case first=>
      have hin:=fun w9=>inCM bb oa ob 0 w9
      unfold atO at hb4
      simp only [hb4] at hin
      unfold bxV at hin
      have HIN:=Lib.hid hin
      have p0:=HE.out.cell 0
      have p1:=HE.out.cell 1
      have p2:=HE.out.cell 2
      have p3:=HE.out.cell 3
      have p4:=HE.out.cell 4
      have hop:=H7.out.2.2.2.2.upd0 HU.out
      have o1:=hop 1 _ rfl
      have o2:=hop 2 _ rfl
      simp only [List.getElem?_toArray,List.getElem?_cons_zero,List.getElem?_cons_succ] at p0 p1 p2 p3 p4
      have tr:∀{a:Addr} {v:Value},wa.cell? a=some v→∀z:QW wa,z.w.cell? a=some v:=fun hv z=>(z.up.cell (World.block_lt_of_cell? _ _ hv) (by simp)).trans hv
      have cp0:=tr p0
      have cp1:=tr p1
      have cp2:=tr p2
      have cp3:=tr p3
      have cp4:=tr p4
      have co1:=tr o1
      have co2:=tr o2
      have e4:(b4==b4)=true:=by simp
      clear p0 p1 p2 p3 p4 hop o1 o2 tr hin hb4
      refine wp_region_quietU (by kernel_rfl) (by kernel_rfl) ?_
      repeat (go_big_quiet_step (first | (with_reducible exact Calls.quietU (HIN.out _)) | (with_reducible exact Calls.quietU ((HW4.out _ (QW.up _)).mono fun _ _ hh=>⟨hh.1,hh.2 ▸ Upd.refl _ _⟩))))
      refine wpQuiet_nil ?_
      intro _ hw'
      obtain ⟨⟨wq,hwq⟩,hw''⟩:=hw'
      dsimp only at hw''
      subst hw''
      clear cp0 cp1 cp2 cp3 cp4 co1 co2
      go_wp2_with fail
      go_meet
      case rel=>exact ⟨rfl,hwq⟩
     obtain ⟨rfl,huc⟩:=hcut
     obtain ⟨wc1,rfl⟩:∃W:World,W=wc:=⟨_,rfl⟩
     have HUc:=Lib.hid huc
     have HEc:=Lib.hid (HE.out.upd huc (by simp))
     clear huc hb4
     go_upto_if 112 with fail
     go_step
     go_step
     go_step
     go_step
     have p2:=HEc.out.cell 4
     simp only [List.getElem?_toArray,List.getElem?_cons_zero,List.getElem?_cons_succ] at p2
     cases b4 with
     |true=>
      go_wp2_with fail
      (with_reducible refine (HW4.out _ HUc.out).mono ?_)
      rintro e w9 ⟨rfl,rfl⟩
      go_wp2_with fail
      go_roundg (nb - (i+1))
      case measure=>have:=HI.out.1;have:=HLT.out.1;omega
      case rel=>
       refine ⟨i+1,z - 1,by have:=HI.out.1;have:=HLT.out.1;omega,by go_num,rfl,?_,HU.out.trans HUc.out⟩
       rw [cntO_step HLT.out.2.1,HBB.out,HI.out.2.1]
       simp<;>omega
     |false=>
      go_wp2_with fail
      (with_reducible refine (HW4.out _ HUc.out).mono ?_)
      rintro e w9 ⟨rfl,rfl⟩
      go_wp2_with fail
      go_roundg (nb - (i+1))
      case measure=>have:=HI.out.1;have:=HLT.out.1;omega
      case rel=>
       refine ⟨i+1,z,by have:=HI.out.1;have:=HLT.out.1;omega,by go_num,rfl,?_,HU.out.trans HUc.out⟩
       rw [cntO_step HLT.out.2.1,HBB.out,HI.out.2.1]
       simp<;>omega
    ·have hz0:z=0:=by
      rw [hz,cntO_all Bx.id _ _ (by have:=HNB.out;omega),HN3.out]
      omega
     subst hz0
     have HM8:=Lib.hid (H7.out.2.1.upd0 hu)
     have hbx:=fun w9 (hu9:Upd [] wr w9)=>theBoxes (HM8.out.upd0 hu9).at' HBL.out
     simp only [hlB,HNB.out] at hbx
     have HBX:=Lib.hid hbx
     have H8:=Lib.hid (H7.out.2.2.1.trans (hu.mono (by simp)))
     obtain ⟨ah,al,av,ae1,ae2⟩:=wideV_open (areaA lb).toNat
     obtain ⟨rh,rl,rv,re1,re2⟩:=wideV_open (rimA lb).toNat
     obtain ⟨E,hE⟩:∃E:Nat,areaE lb=E:=⟨_,rfl⟩
     obtain ⟨Rn,hR⟩:∃R:Nat,rimE lb=R:=⟨_,rfl⟩
     have HW:=Lib.hid (show (ah=areaN M.bs / 18446744073709551616∧al=areaN M.bs % 18446744073709551616)∧(rh=rimN M.bs / 18446744073709551616∧rl=rimN M.bs % 18446744073709551616) by
      rw [hlB,areaN_A HASC.out.2.2,rimN_A HASC.out.2.2]
      exact ⟨⟨ae1,ae2⟩,re1,re2⟩)
     have HA:=Lib.hid (show ∀A C W,See KBx W (.slice A nb C) lb→Calls Tryz.prog 21 #[.slice A nb C] W fun e w'=>e=.returned (.tuple #[.agg #[.int .u64 (ah:Int),.int .u64 (al:Int)],.int .i64 (E:Int)])∧Upd [] W w' from fun A C W hs=>by
      have:=areaAll (.slice A nb C) lb W hs (by have:=HNB.out;omega) HASC.out.2.2
      unfold AreaPost at this
      rw [hE,av] at this
      exact this)
     have HR:=Lib.hid (show ∀A C W,See KBx W (.slice A nb C) lb→Calls Tryz.prog 22 #[.slice A nb C] W fun e w'=>e=.returned (.tuple #[.agg #[.int .u64 (rh:Int),.int .u64 (rl:Int)],.int .i64 (Rn:Int)])∧Upd [] W w' from fun A C W hs=>by
      have:=rimAll (.slice A nb C) lb W hs (by have:=HNB.out;omega) HASC.out.2.2
      unfold RimPost at this
      rw [hR,rv] at this
      exact this)
     obtain ⟨gb,tg⟩:∃g,decide (0<nb)=g:=⟨_,rfl⟩
     have HGB:=Lib.hid (show gb=false→ah=0∧al=0 from fun hg=>by
      have h0:nb=0:=by
       subst hg
       have:=of_decide_eq_false tg
       omega
      have h1:lb = []:=List.eq_nil_of_length_eq_zero (by rw [HNB.out];exact h0)
      have h2:=HW.out.1
      rw [hlB,h1,areaN_nil] at h2
      exact ⟨by rw [h2.1],by rw [h2.2]⟩)
     have HN:=Lib.hid (show ∀W,Upd [p,s,x] wr W→Upd [] w W from fun W hW=>HU1.out.trans' (H8.out.trans hW) (fun y hy=>.inr (by have:=HB.out;simp only [List.mem_cons,List.not_mem_nil,or_false] at hy;omega)))
     obtain ⟨wf,rfl⟩:∃W:World,W=wr:=⟨_,rfl⟩
     clear hbx hi hz hu H7 HI ae1 ae2 re1 re2 av rv hE hR
     go_upto_region 26 with fail
     clear hlt i0 i3
     go_wp2_with fail
     (with_reducible refine (HBX.out wf (Upd.refl _ _)).mono ?_)
     rintro e w8 ⟨Ar,Cr,rfl,hrow,hu8⟩
     have HRA:=Lib.hid (See.of_row hrow)
     have HU8:=Lib.hid hu8
     clear hrow hu8
     go_wp2_with fail
     (with_reducible refine (HA.out _ _ _ HRA.out).mono ?_)
     rintro e w9 ⟨rfl,hu9⟩
     have HN1':=Lib.hid (heap_alloc_new w9 (.cells #[.int .u64 (ah:Int),.int .u64 (al:Int)] 37))
     have HV1:=Lib.hid (show Upd [] wf (w9.alloc (.cells #[.int .u64 (ah:Int),.int .u64 (al:Int)] 37)) from (HU8.out.trans hu9).alloc _)
     have hu9':=hu9
     clear hu9
     have HQn:=Lib.hid (show w9.heap.size∉[p,s,x] by
      have h1:=HM8.out.at'.ps.lt
      have h2:=HM8.out.at'.ss.lt
      have h3:=HM8.out.at'.bs.lt
      have h4:=(HU8.out.trans hu9').size
      simp only [List.mem_cons,List.not_mem_nil,or_false]
      omega)
     clear hu9'
     go_upto_region 27 with fail
     generalize w9.alloc (.cells #[.int .u64 (ah:Int),.int .u64 (al:Int)] 37)=wg at HN1' HV1 ⊢
     generalize w9.heap.size=qn at HN1' HQn ⊢
     go_wp2_with fail
     (with_reducible refine (HBX.out wg HV1.out).mono ?_)
     rintro e wh ⟨As,Cs,rfl,hrow,huh⟩
     have HRB:=Lib.hid (See.of_row hrow)
     have HUh:=Lib.hid huh
     clear hrow huh
     go_wp2_with fail
     (with_reducible refine (HR.out _ _ _ HRB.out).mono ?_)
     rintro e wi ⟨rfl,hui⟩
     have HN2':=Lib.hid (heap_alloc_new wi (.cells #[.int .u64 (rh:Int),.int .u64 (rl:Int)] 37))
     have HV2:=Lib.hid (show Upd [] wg (wi.alloc (.cells #[.int .u64 (rh:Int),.int .u64 (rl:Int)] 37)) from (HUh.out.trans hui).alloc _)
     have hqk:wi.heap.size∉[p,s,x]:=by
      have h1:=HM8.out.at'.ps.lt
      have h2:=HM8.out.at'.ss.lt
      have h3:=HM8.out.at'.bs.lt
      have h4:=(HV1.out.trans (HUh.out.trans hui)).size
      simp only [List.mem_cons,List.not_mem_nil,or_false]
      omega
     clear hui
     go_upto_region 28 with fail
     generalize wi.alloc (.cells #[.int .u64 (rh:Int),.int .u64 (rl:Int)] 37)=Wg at HN2' HV2 ⊢
     generalize wi.heap.size=qk at HN2' hqk ⊢
     have HMg:=Lib.hid ((HM8.out.upd0 HV1.out).upd0 HV2.out)
     have HZ:=Lib.hid (show ∀W,Upd [p,s,x] Wg W→Upd [] w W from fun W hW=>HN.out W (((HV1.out.trans HV2.out).mono (by simp)).trans hW))
     have HNn:=Lib.hid (show HpC Wg qn #[.int .u64 (ah:Int),.int .u64 (al:Int)] 37 from (show HpC wg qn _ _ from HN1'.out).upd HV2.out (by simp))
     have HNk:=Lib.hid (show HpC Wg qk #[.int .u64 (rh:Int),.int .u64 (rl:Int)] 37 from HN2'.out)
     have HQ:=Lib.hid (And.intro HQn.out hqk)
     clear hqk
     have n0':=HNn.out.cell 0
     have n1':=HNn.out.cell 1
     have k0:=HNk.out.cell 0
     have k1:=HNk.out.cell 1
     simp only [List.getElem?_toArray,List.getElem?_cons_zero,List.getElem?_cons_succ] at n0' n1' k0 k1
     have HWS:=fun w=>wide_same26 (ah:Int) (al:Int) w
     have HWR:=fun w=>wide_same26 (rh:Int) (rl:Int) w
     obtain ⟨Wd,hWd⟩:∃Wd,Wd=Wg.drew:=⟨_,rfl⟩
     have HD0:=Lib.hid (show Upd [p,s,x] Wg Wd by rw [hWd];exact (Upd.refl _ _).drew)
     have HMd:=Lib.hid (show MM Wd h p s x M 60 from HMg.out.upd0 (by rw [hWd];exact (Upd.refl _ _).drew))
     refine GoT.start [] (fun w'=>Upd [p,s,x] Wg w') (by kernel_rfl) ?_ fun hS=>?_
     ·exact (Upd.refl _ Wg).drew
     rw [←hWd] at hS ⊢
     clear hWd
     refine' GoT.mv (i:=0) (oi:=⟨some 132,_,_,_,_,_⟩) rfl (by rfl) ?y28_0 ?_
     case y28_0=>intro w;go_simp<;>with_reducible rfl
     simp only [Act.put,sA,sZ,sS]
     refine' GoT.mv (i:=1) (oi:=⟨some 133,_,_,_,_,_⟩) rfl (by rfl) ?y28_1 ?_
     case y28_1=>intro w;go_simp<;>with_reducible rfl
     simp only [Act.put,sA,sZ,sS]
     refine' GoT.mv (i:=2) (oi:=⟨some 134,_,_,_,_,_⟩) rfl (by rfl) ?y28_2 ?_
     case y28_2=>intro w;go_simp<;>with_reducible rfl
     simp only [Act.put,sA,sZ,sS]
     refine' GoT.mv (i:=3) (oi:=⟨some 135,_,_,_,_,_⟩) rfl (by rfl) ?y28_3 ?_
     case y28_3=>intro w;go_simp<;>with_reducible rfl
     simp only [Act.put,sA,sZ,sS]
     refine' GoT.mv (i:=4) (oi:=⟨some 136,_,_,_,_,_⟩) rfl (by rfl) ?y28_4 ?_
     case y28_4=>intro w;go_simp<;>with_reducible rfl
     simp only [Act.put,sA,sZ,sS]
     refine' GoT.tk 1 (i:=7) (oi:=⟨some 139,_,_,_,_,_⟩) rfl (by rfl) ?y28_7 ?_
     case y28_7=>intro w hSw;have e0:=(hSw.cell (World.block_lt_of_cell? _ _ n0') HQ.out.1).trans n0';have e1:=(hSw.cell (World.block_lt_of_cell? _ _ n1') HQ.out.1).trans n1';go_simp<;>with_reducible rfl
     simp only [Act.put,sA,sZ,sS]
     refine GoT.one (i:=5) (o:=⟨some 137,_,_,_,_,_⟩) rfl (by kernel_rfl) fun K hK=>?_
     have hd:=doAsk ar26 HMd.out (by decide) ⟨18,0,0,0,0,0⟩ ⟨⟨by show z64 0;decide,by show z64 0;decide,by show z64 0;decide,by show z64 0;decide⟩,by show (0:Nat)<_;decide,by show (18:Nat)<_;decide⟩ (by show 7≤18;decide)
     rw [do_area] at hd
     have HC:=Lib.hid (show Calls Tryz.prog 9 #[.pointer (some ⟨h,0,none⟩),.agg #[.int .u8 18,.int .i64 0,.int .i64 0,.int .i64 0,.int .i64 0,.int .u32 0]] Wd _ from hd)
     clear hd
     go_simp
     go_at_call 9
     (with_reducible refine HC.out.mono ?_)
     rintro e wa ⟨⟨u,rfl,hre⟩,hmm,hup⟩
     refine hK.out _ _ (fun _ h=>h.trans hup) ?_
     obtain ⟨Ax,Cx,rfl⟩:=repAt_wideP HW.out.1 hre
     have HMa:=Lib.hid hmm
     have HUa:=Lib.hid (HD0.out.trans hup)
     have hfx:=fun w=>rep_field4 0 Ax 0 Cx 0 false (ah:Int) (al:Int) w
     clear hre hmm hup
     clear hK K
     try simp only [Act.put,sA,sZ,sS]
     refine' GoT.mv (i:=6) (oi:=⟨some 138,_,_,_,_,_⟩) rfl (by rfl) ?y28_6 ?_
     case y28_6=>intro w;go_simp<;>with_reducible rfl
     simp only [Act.put,sA,sZ,sS]
     refine' GoT.mv (i:=8) (oi:=⟨some 140,_,_,_,_,_⟩) rfl (by rfl) ?y28_8 ?_
     case y28_8=>intro w;go_simp<;>with_reducible rfl
     simp only [Act.put,sA,sZ,sS]
     refine' GoT.mv (i:=9) (oi:=⟨some 141,_,_,_,_,_⟩) rfl (by rfl) ?y28_9 ?_
     case y28_9=>intro w;go_simp<;>with_reducible rfl
     simp only [Act.put,sA,sZ,sS]
     refine' GoT.mv (i:=10) (oi:=⟨some 142,_,_,_,_,_⟩) rfl (by rfl) ?y28_10 ?_
     case y28_10=>intro w;go_simp<;>with_reducible rfl
     simp only [Act.put,sA,sZ,sS]
     refine' GoT.mv (i:=11) (oi:=⟨some 143,_,_,_,_,_⟩) rfl (by rfl) ?y28_11 ?_
     case y28_11=>intro w;go_simp<;>with_reducible rfl
     simp only [Act.put,sA,sZ,sS]
     refine' GoT.mv (i:=12) (oi:=⟨some 144,_,_,_,_,_⟩) rfl (by rfl) ?y28_12 ?_
     case y28_12=>intro w;go_simp<;>with_reducible rfl
     simp only [Act.put,sA,sZ,sS]
     refine' GoT.tk 1 (i:=15) (oi:=⟨some 147,_,_,_,_,_⟩) rfl (by rfl) ?y28_15 ?_
     case y28_15=>intro w hSw;have e0:=(hSw.cell (World.block_lt_of_cell? _ _ k0) HQ.out.2).trans k0;have e1:=(hSw.cell (World.block_lt_of_cell? _ _ k1) HQ.out.2).trans k1;go_simp<;>with_reducible rfl
     simp only [Act.put,sA,sZ,sS]
     refine GoT.one (i:=13) (o:=⟨some 145,_,_,_,_,_⟩) rfl (by kernel_rfl) fun K hK=>?_
     have hd:=doAsk ar26 HMa.out (by decide) ⟨19,0,0,0,0,0⟩ ⟨⟨by show z64 0;decide,by show z64 0;decide,by show z64 0;decide,by show z64 0;decide⟩,by show (0:Nat)<_;decide,by show (19:Nat)<_;decide⟩ (by show 7≤19;decide)
     rw [do_rim] at hd
     have HC:=Lib.hid (show Calls Tryz.prog 9 #[.pointer (some ⟨h,0,none⟩),.agg #[.int .u8 19,.int .i64 0,.int .i64 0,.int .i64 0,.int .i64 0,.int .u32 0]] wa _ from hd)
     clear hd
     go_simp
     go_at_call 9
     (with_reducible refine HC.out.mono ?_)
     rintro e wb ⟨⟨u,rfl,hre⟩,hmm,hup⟩
     refine hK.out _ _ (fun _ h=>h.trans hup) ?_
     obtain ⟨Ay,Cy,rfl⟩:=repAt_wideP HW.out.2 hre
     have HMb:=Lib.hid hmm
     have HUb:=Lib.hid (HUa.out.trans hup)
     have hfy:=fun w=>rep_field4 0 Ay 0 Cy 0 false (rh:Int) (rl:Int) w
     clear hre hmm hup
     clear hK K
     try simp only [Act.put,sA,sZ,sS]
     refine' GoT.mv (i:=14) (oi:=⟨some 146,_,_,_,_,_⟩) rfl (by rfl) ?y28_14 ?_
     case y28_14=>intro w;go_simp<;>with_reducible rfl
     simp only [Act.put,sA,sZ,sS]
     refine' GoT.mv (i:=16) (oi:=⟨some 148,_,_,_,_,_⟩) rfl (by rfl) ?y28_16 ?_
     case y28_16=>intro w;go_simp<;>with_reducible rfl
     simp only [Act.put,sA,sZ,sS]
     refine' GoT.mv (i:=17) (oi:=⟨some 149,_,_,_,_,_⟩) rfl (by rfl) ?y28_17 ?_
     case y28_17=>intro w;go_simp<;>with_reducible rfl
     simp only [Act.put,sA,sZ,sS]
     refine' GoT.mv (i:=18) (oi:=⟨some 150,_,_,_,_,_⟩) rfl (by rfl) ?y28_18 ?_
     case y28_18=>intro w;go_simp<;>with_reducible rfl
     simp only [Act.put,sA,sZ,sS]
     refine' GoT.mv (i:=19) (oi:=⟨some 151,_,_,_,_,_⟩) rfl (by rfl) ?y28_19 ?_
     case y28_19=>intro w;go_simp<;>with_reducible rfl
     simp only [Act.put,sA,sZ,sS]
     refine GoT.one (i:=20) (o:=⟨some 152,_,_,_,_,_⟩) rfl (by kernel_rfl) fun K hK=>?_
     have hd:=theBoxes HMb.out.at' HBL.out
     rw [hlB,HNB.out] at hd
     have HC:=Lib.hid hd
     clear hd
     go_simp
     go_at_call 15
     (with_reducible refine HC.out.mono ?_)
     rintro e wc ⟨Az,Cz,rfl,-,uc⟩
     refine hK.out _ _ (fun _ h=>h.trans (uc.mono (by simp))) ?_
     have HUc:=Lib.hid (HUb.out.trans (uc.mono (by simp)))
     clear uc
     clear hK K
     try simp only [Act.put,sA,sZ,sS]
     refine' GoT.mv (i:=21) (oi:=⟨some 153,_,_,_,_,_⟩) rfl (by rfl) ?y28_21 ?_
     case y28_21=>intro w;go_simp<;>with_reducible rfl
     simp only [Act.put,sA,sZ,sS]
     refine' GoT.mv (i:=22) (oi:=⟨some 154,_,_,_,_,_⟩) rfl (by rfl) ?y28_22 ?_
     case y28_22=>intro w;go_simp<;>with_reducible rfl
     simp only [Act.put,sA,sZ,sS]
     refine' GoT.mv (i:=23) (oi:=⟨some 155,_,_,_,_,_⟩) rfl (by rfl) ?y28_23 ?_
     case y28_23=>intro w;go_simp<;>with_reducible rfl
     simp only [Act.put,sA,sZ,sS]
     cases gb with
     |true=>
      refine' GoT.take 1 (i:=24) (oi:=⟨some 156,_,_,_,_,_⟩) (v:=_) rfl (by kernel_rfl) (by kernel_rfl) (by kernel_rfl) (by kernel_rfl) (fun _ _ _ h=>h) (Or.inr ⟨by rfl,rfl⟩) (by assumption) ?r28x_24
      simp only [Act.put,sA,sZ,sS]
      refine GoT.one (i:=25) (o:=⟨some 157,_,_,_,_,_⟩) rfl (by kernel_rfl) fun K hK=>?_
      split
      ·rename_i hc;exact absurd (show false=true from hc) Bool.false_ne_true
      refine hK.out _ _ (fun _ h=>h) ?_
      have HUw:=HUc
      clear hK K
      try simp only [Act.put,sA,sZ,sS]
      refine' GoT.move (i:=26) (oi:=⟨some 158,_,_,_,_,_⟩) (v:=_) rfl (by kernel_rfl) (by kernel_rfl) (by kernel_rfl) (fun _ _ _ h=>h) (Or.inr ⟨by rfl,rfl⟩) ?r28x_26
      simp only [Act.put,sA,sZ,sS]
      refine' GoT.mv (i:=27) (oi:=⟨some 159,_,_,_,_,_⟩) rfl (by rfl) ?y28x_27 ?_
      case y28x_27=>intro w;go_simp<;>with_reducible rfl
      simp only [Act.put,sA,sZ,sS]
      refine' GoT.mv (i:=28) (oi:=⟨some 160,_,_,_,_,_⟩) rfl (by rfl) ?y28x_28 ?_
      case y28x_28=>intro w;go_simp<;>with_reducible rfl
      simp only [Act.put,sA,sZ,sS]
      refine' GoT.mv (i:=29) (oi:=⟨some 161,_,_,_,_,_⟩) rfl (by rfl) ?y28x_29 ?_
      case y28x_29=>intro w;go_simp<;>with_reducible rfl
      simp only [Act.put,sA,sZ,sS]
      refine GoT.one (i:=30) (o:=⟨some 162,_,_,_,_,_⟩) rfl (by kernel_rfl) fun K hK=>?_
      have HC:=Lib.hid (awake26 ar26 wc)
      go_simp
      go_at_call 6
      (with_reducible refine HC.out.mono ?_)
      rintro e we ⟨rfl,ue⟩
      refine hK.out _ _ (fun _ h=>h.trans (ue.mono (by simp))) ?_
      have HUe:=Lib.hid (HUw.out.trans (ue.mono (by simp)))
      clear ue
      clear hK K
      try simp only [Act.put,sA,sZ,sS]
      refine' GoT.mv (i:=31) (oi:=⟨some 163,_,_,_,_,_⟩) rfl (by rfl) ?y28x_31 ?_
      case y28x_31=>intro w;go_simp<;>with_reducible rfl
      simp only [Act.put,sA,sZ,sS]
      refine' GoT.mv (i:=32) (oi:=⟨some 4,_,_,_,_,_⟩) rfl (by rfl) ?y28x_32 ?_
      case y28x_32=>intro w;go_simp<;>with_reducible rfl
      simp only [Act.put,sA,sZ,sS]
      refine GoT.done (by kernel_rfl) ?_
      go_wp2_with fail
      go_ret
      exact ⟨rfl,HZ.out _ HUe.out⟩
     |false=>
      obtain ⟨rfl,rfl⟩:=HGB.out rfl
      refine' GoT.tk 1 (i:=24) (oi:=⟨some 156,_,_,_,_,_⟩) rfl (by rfl) ?y28_24 ?_
      case y28_24=>intro w hSw;have e0:=(hSw.cell (World.block_lt_of_cell? _ _ n0') HQ.out.1).trans n0';have e1:=(hSw.cell (World.block_lt_of_cell? _ _ n1') HQ.out.1).trans n1';go_simp<;>with_reducible rfl
      simp only [Act.put,sA,sZ,sS]
      refine GoT.one (i:=25) (o:=⟨some 157,_,_,_,_,_⟩) rfl (by kernel_rfl) fun K hK=>?_
      have HC:=Lib.hid (show Calls Tryz.prog 23 #[.int .u64 0] wc fun e w'=>e=.returned (.agg #[.int .u64 0,.int .u64 0])∧Upd [] wc w' from wOfC 0 (by decide) wc)
      go_simp
      go_at_call 23
      (with_reducible refine HC.out.mono ?_)
      rintro e wd ⟨rfl,ud⟩
      refine hK.out _ _ (fun _ h=>h.trans (ud.mono (by simp))) ?_
      have HUw:=Lib.hid (HUc.out.trans (ud.mono (by simp)))
      clear ud
      clear hK K
      try simp only [Act.put,sA,sZ,sS]
      refine' GoT.mv (i:=26) (oi:=⟨some 158,_,_,_,_,_⟩) rfl (by rfl) ?y28_26 ?_
      case y28_26=>intro w;go_simp<;>with_reducible rfl
      simp only [Act.put,sA,sZ,sS]
      refine' GoT.mv (i:=27) (oi:=⟨some 159,_,_,_,_,_⟩) rfl (by rfl) ?y28_27 ?_
      case y28_27=>intro w;go_simp<;>with_reducible rfl
      simp only [Act.put,sA,sZ,sS]
      refine' GoT.mv (i:=28) (oi:=⟨some 160,_,_,_,_,_⟩) rfl (by rfl) ?y28_28 ?_
      case y28_28=>intro w;go_simp<;>with_reducible rfl
      simp only [Act.put,sA,sZ,sS]
      refine' GoT.mv (i:=29) (oi:=⟨some 161,_,_,_,_,_⟩) rfl (by rfl) ?y28_29 ?_
      case y28_29=>intro w;go_simp<;>with_reducible rfl
      simp only [Act.put,sA,sZ,sS]
      refine GoT.one (i:=30) (o:=⟨some 162,_,_,_,_,_⟩) rfl (by kernel_rfl) fun K hK=>?_
      have HC:=Lib.hid (awake26 ar26 wd)
      go_simp
      go_at_call 6
      (with_reducible refine HC.out.mono ?_)
      rintro e we ⟨rfl,ue⟩
      refine hK.out _ _ (fun _ h=>h.trans (ue.mono (by simp))) ?_
      have HUe:=Lib.hid (HUw.out.trans (ue.mono (by simp)))
      clear ue
      clear hK K
      try simp only [Act.put,sA,sZ,sS]
      refine' GoT.mv (i:=31) (oi:=⟨some 163,_,_,_,_,_⟩) rfl (by rfl) ?y28_31 ?_
      case y28_31=>intro w;go_simp<;>with_reducible rfl
      simp only [Act.put,sA,sZ,sS]
      refine' GoT.mv (i:=32) (oi:=⟨some 4,_,_,_,_,_⟩) rfl (by rfl) ?y28_32 ?_
      case y28_32=>intro w;go_simp<;>with_reducible rfl
      simp only [Act.put,sA,sZ,sS]
      refine GoT.done (by kernel_rfl) ?_
      go_wp2_with fail
      go_ret
      exact ⟨rfl,HZ.out _ HUe.out⟩
end Go.Proofs.YtkmnbodlciepaaaGreat
