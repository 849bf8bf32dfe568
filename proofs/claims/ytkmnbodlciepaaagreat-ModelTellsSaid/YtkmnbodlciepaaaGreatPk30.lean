/- The document's model: something goes. Printed by mkrefmd.py. -/
import Derived.Test.YtkmnbodlciepaaaGreatPk29
set_option maxHeartbeats 16000000
set_option maxRecDepth 100000
namespace Go.Proofs.YtkmnbodlciepaaaGreat
open Go.RowKit
theorem rlose1 {w:World} {r:Nat} {m:Md} {AP AS AB:Option Addr} {CP CS CB:Nat} (h:RMd w r m AP CP AS CS AB CB) (hok:m.ok) (hl:m.ps.length<100000) (oi:Nat) :
 Calls Tryz.prog 27 #[.pointer (some ⟨r,0,none⟩),.int .u8 1,.int .u32 (oi:Int)] w (RDoPost w r (({ m with ps:=(loseM Pt.id m.ps oi).1 }:Md),(loseM Pt.id m.ps oi).2)):=by
 obtain ⟨i0,hi,hz0,hz1,hz2⟩:=info_parts info_point
 obtain ⟨RR,hR⟩:∃RR,loseM Pt.id m.ps oi=RR:=⟨_,rfl⟩
 rw [hR]
 unfold loseM at hR
 have HRS:=Lib.hid hR
 have HOK:=Lib.hid hok
 have hu:Upd [] w (w.alloc (.cells repZ 39)):=(Upd.refl _ _).alloc _
 have hrp:RpAt (w.alloc (.cells repZ 39)) w.heap.size repZ:=heap_alloc_new w _
 have HU:=Lib.hid hu
 have HM:=Lib.hid (h.upd0 hu)
 have HM0:=Lib.hid h
 have HRP:=Lib.hid hrp
 have HL:=Lib.hid (And.intro hl (show r<w.heap.size from lt_of_block h.head))
 clear hR hok h hu hrp hl
 go_enter Tryz.func27,Tryz.ntmps27
 go_upto_region 1 with fail
 generalize (w.alloc (.cells repZ 39))=W at HU HM HRP ⊢
 obtain ⟨qr,hqr⟩:∃q,w.heap.size=q:=⟨_,rfl⟩
 rw [hqr] at HRP ⊢
 have HQ:=Lib.hid (show w.heap.size≤qr∧r<w.heap.size∧r≠qr from ⟨by omega,HL.out.2,by have:=HL.out.2;omega⟩)
 clear hqr
 obtain ⟨L,hL⟩:∃L,m.ps.map Pt.id=L:=⟨_,rfl⟩
 obtain ⟨n,hn⟩:∃n,m.ps.length=n:=⟨_,rfl⟩
 have hLn:L.length=n:=by rw [←hL,List.length_map,hn]
 have hnm:=rnames1 HM.out (by have:=HL.out.1;omega)
 unfold RowPostM at hnm
 rw [hL,hLn] at hnm
 have HNM:=Lib.hid hnm
 have HN:=Lib.hid (And.intro hL (And.intro hn hLn))
 have n0:(0:Int)≤(n:Int):=Int.natCast_nonneg _
 have n1:(n:Int)<100000:=by have:=HL.out.1;omega
 clear hnm hL hn hLn
 go_wp2_with fail
 (with_reducible refine HNM.out.mono ?_)
 rintro e w2 ⟨Ai,Ci,rfl,hrow,hu2⟩
 have hpl:=rplace (.slice Ai n Ci) L oi w2 (See.of_row hrow) (by have:=HN.out.2.2;omega)
 have HPL:=Lib.hid hpl
 have H2:=Lib.hid hu2
 clear hpl hrow hu2
 go_wp2_with fail
 (with_reducible refine HPL.out.mono ?_)
 rintro e w3 ⟨k,b,rfl,hp,hu3⟩
 have HU3:=Lib.hid (HU.out.trans (H2.out.trans hu3))
 have HM3:=Lib.hid ((HM.out.upd0 H2.out).upd0 hu3)
 have HRP3:=Lib.hid ((HRP.out.upd H2.out (by simp)).upd hu3 (by simp))
 have hp':=hp
 rw [←HN.out.1] at hp'
 have hfd:=place_find HOK.out.ps hp'
 have HP:=Lib.hid (And.intro hp' hfd)
 clear hp hp' hfd hu3 HPL HNM
 cases b with
 |false=>
  have hres:=HRS.out
  rw [if_neg (by rw [HP.out.2];simp)] at hres
  subst hres
  go_wp2_with fail
  (with_reducible refine (rwrong 263 _).mono ?_)
  rintro e w8 ⟨rfl,u8⟩
  have HU8:=Lib.hid (HU3.out.trans u8)
  have HRP8:=Lib.hid (HRP3.out.upd u8 (by simp))
  clear u8
  have hrp:=HRP8.out
  have f0:(w8).frozen? ⟨qr,0,none⟩=false:=hrp.frozen 0
  have f1:(w8).frozen? ⟨qr,1,none⟩=false:=hrp.frozen 1
  have f2:(w8).frozen? ⟨qr,2,none⟩=false:=hrp.frozen 2
  have f3:(w8).frozen? ⟨qr,3,none⟩=false:=hrp.frozen 3
  have f4:(w8).frozen? ⟨qr,4,none⟩=false:=hrp.frozen 4
  have f5:(w8).frozen? ⟨qr,5,none⟩=false:=hrp.frozen 5
  have c0:=hrp.cell 0
  have c1:=hrp.cell 1
  have c2:=hrp.cell 2
  have c3:=hrp.cell 3
  have c4:=hrp.cell 4
  have c5:=hrp.cell 5
  simp only [List.getElem?_toArray,List.getElem?_cons_zero,List.getElem?_cons_succ] at c0 c1 c2 c3 c4 c5
  have HP:=Lib.hid (And.intro (hrp.put (.int .i64 263) (.slice none 0 0) (.int .i64 0) (.bool false) (.int .u64 0) (.int .u64 0)) (upd_put (q:=qr) HU8.out (.inr HQ.out.1) (.int .i64 263) (.slice none 0 0) (.int .i64 0) (.bool false) (.int .u64 0) (.int .u64 0)))
  clear hrp
  go_wp2_with fail
  clear f0 c0 f1 c1 f2 c2 f3 c3 f4 c4 f5 c5
  have y0:=HP.out.1.cell 0
  have y1:=HP.out.1.cell 1
  have y2:=HP.out.1.cell 2
  have y3:=HP.out.1.cell 3
  have y4:=HP.out.1.cell 4
  have y5:=HP.out.1.cell 5
  simp only [List.getElem?_toArray,List.getElem?_cons_zero,List.getElem?_cons_succ] at y0 y1 y2 y3 y4 y5
  refine bodyPost_ret (v:=repV 263 0 false (.slice none 0 0) 0 0) ?_ rfl ⟨⟨_,rfl,repAt_err _ _⟩,⟨AP,CP,AS,CS,AB,CB,HM0.out.upd0 HP.out.2⟩,HP.out.2.mono (by simp)⟩
  simp [repV,results,Tryz.results27,go_sem,y0,y1,y2,y3,y4,y5]
 |true=>
  have hres:=HRS.out
  rw [if_pos HP.out.2] at hres
  subst hres
  obtain ⟨c0,c1,c2,c3⟩:=HM3.out.cells
  rw [HN.out.2.1] at c1
  go_upto_region 8 with fail
  have hkl:=place_lt HP.out.1
  rw [HN.out.2.1] at hkl
  have hsee:=HM3.out.ps
  unfold See at hsee
  rw [HN.out.2.1] at hsee
  obtain ⟨AT,CT,hct,hts,hbt⟩:=cut_to (P:=Tryz.prog) Tryz.underlying29 hi hz1 hsee k (by omega)
  have hXT:((KPt.all m.ps).take (k*3))=KPt.all (m.ps.take k):=(KPt.all_take m.ps k).symm
  obtain ⟨XT,hxt⟩:∃X,KPt.all (m.ps.take k)=X:=⟨_,rfl⟩
  rw [hXT,hxt] at hts
  have hone:∀u∈XT,u.oneCell'=true:=by rw [←hxt];exact KPt.all_one _
  obtain ⟨AF,CF,hcf,hfs,hbf⟩:=cut_from (P:=Tryz.prog) Tryz.underlying29 hi hz1 hsee (k+1) hkl
  have hXF:((KPt.all m.ps).drop ((k+1)*3))=KPt.all (m.ps.drop (k+1)):=(KPt.all_drop m.ps (k+1)).symm
  rw [hXF] at hfs
  have HCT:=Lib.hid hct
  have HCF:=Lib.hid (show ∀w',(Instr.slice 29 (.slice AP n CP) (some (.int .i64 ((k:Int)+1))) none none).run Tryz.prog w'=.ok (.slice AF (n - (k+1)) CF) w' from hcf)
  have HTS:=Lib.hid (And.intro hsee hts)
  have HFS:=Lib.hid hfs
  have HXT:=Lib.hid hxt
  have hkn':=Lib.hid hkl
  have k0:(0:Int)≤(k:Int):=Int.natCast_nonneg _
  have k1:(k:Int)<(n:Int):=by omega
  obtain ⟨p,hpn⟩:∃p,n - 1=p:=⟨_,rfl⟩
  have HPN:=Lib.hid hpn
  have hpi:(n:Int) - 1=(p:Int):=by omega
  clear hpn
  have hwk:IntKind.i64.wrap ((k:Int)+1)=(k:Int)+1:=by rw [IntKind.wrap_i64];omega
  clear hsee hct hts hbt hXT hxt hcf hfs hbf hXF
  obtain ⟨Wx,hWd⟩:∃Wd,Wd=w3.drew:=⟨_,rfl⟩
  have HUx:=Lib.hid (show Upd [] w3 Wx by rw [hWd];exact (Upd.refl _ _).drew)
  refine GoT.start [16,17,18,19] (fun w'=>Upd [] w3 w') (by kernel_rfl) ?_ fun hS=>?_
  ·exact (Upd.refl [] w3).drew
  rw [←hWd] at hS ⊢
  clear hWd
  refine' GoT.mv (i:=0) (oi:=⟨some 44,_,_,_,_,_⟩) rfl (by rfl) ?y8_0 ?_
  case y8_0=>intro w;go_simp<;>with_reducible rfl
  simp only [Act.put,sA,sZ,sS]
  refine' GoT.mv (i:=2) (oi:=⟨some 46,_,_,_,_,_⟩) rfl (by rfl) ?y8_2 ?_
  case y8_2=>intro w;go_simp<;>with_reducible rfl
  simp only [Act.put,sA,sZ,sS]
  refine' GoT.mv (i:=3) (oi:=⟨some 47,_,_,_,_,_⟩) rfl (by rfl) ?y8_3 ?_
  case y8_3=>intro w;go_simp<;>with_reducible rfl
  simp only [Act.put,sA,sZ,sS]
  refine' GoT.mv (i:=4) (oi:=⟨some 48,_,_,_,_,_⟩) rfl (by rfl) ?y8_4 ?_
  case y8_4=>intro w;go_simp<;>with_reducible rfl
  simp only [Act.put,sA,sZ,sS]
  refine' GoT.tk 3 (i:=5) (oi:=⟨some 49,_,_,_,_,_⟩) rfl (by rfl) ?y8_5 ?_
  case y8_5=>intro w hSw;have c1:=(hSw.cell (World.block_lt_of_cell? _ _ c1) (by simp)).trans c1;go_simp<;>with_reducible rfl
  simp only [Act.put,sA,sZ,sS]
  refine' GoT.mv (i:=6) (oi:=⟨some 50,_,_,_,_,_⟩) rfl (by rfl) ?y8_6 ?_
  case y8_6=>intro w;go_simp<;>with_reducible rfl
  simp only [Act.put,sA,sZ,sS]
  refine' GoT.mv (i:=7) (oi:=⟨some 51,_,_,_,_,_⟩) rfl (by rfl) ?y8_7 ?_
  case y8_7=>intro w;have hct:=HCT.out;go_simp<;>with_reducible rfl
  simp only [Act.put,sA,sZ,sS]
  refine' GoT.mv (i:=9) (oi:=⟨some 53,_,_,_,_,_⟩) rfl (by rfl) ?y8_9 ?_
  case y8_9=>intro w;go_simp<;>with_reducible rfl
  simp only [Act.put,sA,sZ,sS]
  refine' GoT.mv (i:=10) (oi:=⟨some 54,_,_,_,_,_⟩) rfl (by rfl) ?y8_10 ?_
  case y8_10=>intro w;go_simp<;>with_reducible rfl
  simp only [Act.put,sA,sZ,sS]
  refine' GoT.mv (i:=11) (oi:=⟨some 55,_,_,_,_,_⟩) rfl (by rfl) ?y8_11 ?_
  case y8_11=>intro w;go_simp<;>with_reducible rfl
  simp only [Act.put,sA,sZ,sS]
  refine' GoT.tk 3 (i:=12) (oi:=⟨some 56,_,_,_,_,_⟩) rfl (by rfl) ?y8_12 ?_
  case y8_12=>intro w hSw;have c1:=(hSw.cell (World.block_lt_of_cell? _ _ c1) (by simp)).trans c1;go_simp<;>with_reducible rfl
  simp only [Act.put,sA,sZ,sS]
  refine' GoT.mv (i:=13) (oi:=⟨some 57,_,_,_,_,_⟩) rfl (by rfl) ?y8_13 ?_
  case y8_13=>intro w;go_simp<;>with_reducible rfl
  simp only [Act.put,sA,sZ,sS]
  refine' GoT.mv (i:=14) (oi:=⟨some 58,_,_,_,_,_⟩) rfl (by rfl) ?y8_14 ?_
  case y8_14=>intro w;go_simp<;>with_reducible rfl
  simp only [Act.put,sA,sZ,sS]
  refine' GoT.mv (i:=15) (oi:=⟨some 59,_,_,_,_,_⟩) rfl (by rfl) ?y8_15 ?_
  case y8_15=>intro w;have hct:=HCF.out;go_simp<;>with_reducible rfl
  simp only [Act.put,sA,sZ,sS]
  refine GoT.one (i:=1) (o:=⟨some 45,_,_,_,_,_⟩) rfl (by kernel_rfl) fun K hK=>?_
  have hown:(Wx.alloc (.cells #[] 62)).ownsRow w3.heap.size 62 3 (.slice (some ⟨Wx.heap.size,0,none⟩) 0 0) 0 []:=World.ownsRow_lit Wx #[] 0 HUx.out.size (by decide) rfl
  have HUy:=Lib.hid (HUx.out.alloc (.cells #[] 62))
  go_simp
  refine hK.out _ _ (fun _ h=>h.alloc _) ?_
  clear hK K hS
  generalize Wx.alloc (.cells #[] 62)=Wy at hown HUy ⊢
  generalize Wx.heap.size=qE at hown ⊢
  have HOE:=Lib.hid hown
  clear hown HUx
  try simp only [Act.put,sA,sZ,sS]
  refine GoT.one (i:=8) (o:=⟨some 52,_,_,_,_,_⟩) rfl (by kernel_rfl) fun K hK=>?_
  rw [if_pos (by simp [Region.wanted])]
  refine wp_app _ _ _ 29 (by rfl) w3.heap.size 62 i0 (.agg #[.int .i64 0,.int .i64 0,.int .u32 0]) 3 24 Tryz.underlying29 hi hz0 hz1 hz2 rfl (by decide) _ 0 [] (by rfl) HOE.out _ k XT (by rfl) (HTS.out.2 _ (sees_upd HTS.out.1 HUy.out (by simp))) hone (by unfold maxLen;omega) (by omega) HUy.out.size ?_
  intro AA CA Wz HP
  have hge:=own_ge HOE.out
  have hpo:Wz.ownsRow w3.heap.size 62 3 (.slice AA k CA) k XT:=by have:=HP.own;rw [Nat.zero_add] at this;exact this
  have HUz:=Lib.hid (HUy.out.trans' HP.upd (fun y hy=>.inr (hge y hy)))
  have HOA:=Lib.hid hpo
  rw [Nat.zero_add]
  refine hK.out _ _ (fun _ h=>h.trans' HP.upd (fun y hy=>.inr (hge y hy))) ?_
  clear hK K HP hge hpo HOE
  try simp only [Act.put,sA,sZ,sS]
  refine GoT.one (i:=16) (o:=⟨some 60,_,_,_,_,_⟩) rfl (by kernel_rfl) fun K hK=>?_
  rw [if_pos (by simp [Region.wanted])]
  refine wp_app _ _ _ 29 (by rfl) w3.heap.size 62 i0 (.agg #[.int .i64 0,.int .i64 0,.int .u32 0]) 3 24 Tryz.underlying29 hi hz0 hz1 hz2 rfl (by decide) (.slice AA k CA) k XT (by rfl) HOA.out (.slice AF (n - (k+1)) CF) (n - (k+1)) (KPt.all (m.ps.drop (k+1))) (by rfl) (HFS.out _ (sees_upd HTS.out.1 HUz.out (by simp))) (KPt.all_one _) (by unfold maxLen;omega) (by omega) HUz.out.size ?_
  intro AN CN W6 HP
  have hge:=own_ge HOA.out
  have hpo:W6.ownsRow w3.heap.size 62 3 (.slice AN (k+(n - (k+1))) CN) (k+(n - (k+1))) (XT++KPt.all (m.ps.drop (k+1))):=by exact HP.own
  have HU6:=Lib.hid (HUz.out.trans' HP.upd (fun y hy=>.inr (hge y hy)))
  have HON:=Lib.hid hpo
  have hN:k+(n - (k+1))=p:=by have:=hkn'.out;have:=HPN.out;omega
  refine hK.out _ _ (fun h=>(by cases h)) ?_
  clear hK K HP hge hpo HOA
  rw [hN]
  rw [hN] at HON
  clear hN
  have HM6:=Lib.hid (HM3.out.upd0 HU6.out)
  have HRP6:=Lib.hid (HRP3.out.upd HU6.out (by simp))
  have fr:=HM6.out.head.frozen 1
  obtain ⟨e0,e1,e2,e3⟩:=HM6.out.cells
  try simp only [Act.put,sA,sZ,sS]
  refine' GoT.mv (i:=17) (oi:=⟨some 61,_,_,_,_,_⟩) rfl (by rfl) ?y8_17 ?_
  case y8_17=>intro w;go_simp<;>with_reducible rfl
  simp only [Act.put,sA,sZ,sS]
  refine' GoT.mv (i:=18) (oi:=⟨some 62,_,_,_,_,_⟩) rfl (by rfl) ?y8_18 ?_
  case y8_18=>intro w;go_simp<;>with_reducible rfl
  simp only [Act.put,sA,sZ,sS]
  refine GoT.one (i:=19) (o:=⟨none,_,_,_,_,_⟩) rfl (by kernel_rfl) fun K hK=>?_
  go_simp
  refine hK.out _ _ (fun h=>(by cases h)) ?_
  clear hK K
  try simp only [Act.put,sA,sZ,sS]
  refine GoT.done (by kernel_rfl) ?_
  have hrow6:W6.ownsRow w3.heap.size 62 3 (.slice AN p CN) p (KPt.all (delA Pt.id oi m.ps)):=by
   rw [←place_del HOK.out.ps HP.out.1,KPt.all_app,HXT.out]
   exact HON.out
  have hu7:Upd [r] W6 (W6.setCell ⟨r,1,none⟩ (.slice AN p CN)):=(Upd.refl [r] W6).setCell (p:=⟨r,1,none⟩) (.inl (by simp)) _
  have hrn:r∉blk (.slice AN p CN):=fun hc=>by
   have h1:=own_ge hrow6 r hc
   have h2:=HU3.out.size
   have h3:=HQ.out.2.1
   omega
  have hlen:(delA Pt.id oi m.ps).length=p:=by
   rw [←place_del HOK.out.ps HP.out.1,List.length_append,List.length_take,List.length_drop,HN.out.2.1]
   have:=hkn'.out
   have:=HPN.out
   omega
  have HH7:=Lib.hid (show HpC (W6.setCell ⟨r,1,none⟩ (.slice AN p CN)) r #[.int .i64 (m.room:Int),.slice AN (delA Pt.id oi m.ps).length CN,.slice AS m.ss.length CS,.slice AB m.bs.length CB] 33 by
   rw [hlen]
   exact HM6.out.head.set 1 (.slice AN p CN))
  have HO7:=Lib.hid (own_upd hrow6 hu7 (fun k hk hc=>hrn (by simp at hc;rw [←hc];exact hk)))
  have HLN:=Lib.hid (And.intro hlen hrn)
  have HU7:=Lib.hid (show Upd [r] w (W6.setCell ⟨r,1,none⟩ (.slice AN p CN)) from (((HU3.out.trans HU6.out).mono (by simp)).trans hu7))
  have HRPL:=Lib.hid (show qr<w3.heap.size from lt_of_block HRP3.out)
  have HRP7:=Lib.hid (HRP6.out.upd hu7 (by have:=HQ.out;simp only [List.mem_singleton];omega))
  clear hrow6 hu7 hrn hlen e0 e1 e2 e3 fr c0 c1 c2 c3
  generalize W6.setCell ⟨r,1,none⟩ (.slice AN p CN)=W7 at HH7 HO7 HU7 HRP7 ⊢
  have hrp:=HRP7.out
  have f0:(W7).frozen? ⟨qr,0,none⟩=false:=hrp.frozen 0
  have f1:(W7).frozen? ⟨qr,1,none⟩=false:=hrp.frozen 1
  have f2:(W7).frozen? ⟨qr,2,none⟩=false:=hrp.frozen 2
  have f3:(W7).frozen? ⟨qr,3,none⟩=false:=hrp.frozen 3
  have f4:(W7).frozen? ⟨qr,4,none⟩=false:=hrp.frozen 4
  have f5:(W7).frozen? ⟨qr,5,none⟩=false:=hrp.frozen 5
  have c0:=hrp.cell 0
  have c1:=hrp.cell 1
  have c2:=hrp.cell 2
  have c3:=hrp.cell 3
  have c4:=hrp.cell 4
  have c5:=hrp.cell 5
  simp only [List.getElem?_toArray,List.getElem?_cons_zero,List.getElem?_cons_succ] at c0 c1 c2 c3 c4 c5
  have HP9:=Lib.hid (And.intro (hrp.put (.int .i64 0) (.slice none 0 0) (.int .i64 (p:Int)) (.bool false) (.int .u64 0) (.int .u64 0)) (upd_put (q:=qr) HU7.out (.inr HQ.out.1) (.int .i64 0) (.slice none 0 0) (.int .i64 (p:Int)) (.bool false) (.int .u64 0) (.int .u64 0)))
  clear hrp
  go_wp2_with fail
  clear f0 c0 f1 c1 f2 c2 f3 c3 f4 c4 f5 c5
  have y0:=HP9.out.1.cell 0
  have y1:=HP9.out.1.cell 1
  have y2:=HP9.out.1.cell 2
  have y3:=HP9.out.1.cell 3
  have y4:=HP9.out.1.cell 4
  have y5:=HP9.out.1.cell 5
  simp only [List.getElem?_toArray,List.getElem?_cons_zero,List.getElem?_cons_succ] at y0 y1 y2 y3 y4 y5
  have hp:=upd_put (q:=qr) (Upd.refl [qr] W7) (.inl (by simp)) (.int .i64 0) (.slice none 0 0) (.int .i64 (p:Int)) (.bool false) (.int .u64 0) (.int .u64 0)
  refine bodyPost_ret (v:=repV 0 p false (.slice none 0 0) 0 0) ?_ rfl ⟨⟨_,rfl,by rw [HN.out.2.1,HPN.out];exact repAt_cnt _ _⟩,⟨AN,CN,AS,CS,AB,CB,HH7.out.upd hp (by have:=HQ.out;simp only [List.mem_singleton];omega),by have:=sees_of_own (own_upd HO7.out hp (fun k hk hc=>by have h1:=own_ge HO7.out k hk;have h2:=HU3.out.size;have h3:=HRPL.out;simp at hc;omega));unfold See;rw [HLN.out.1];exact this,HM0.out.ss.upd HP9.out.2 (fun _ k hk _ hc=>HM0.out.ns (by simp at hc;rw [←hc];exact hk)),HM0.out.bs.upd HP9.out.2 (fun _ k hk _ hc=>HM0.out.nb (by simp at hc;rw [←hc];exact hk)),by rw [HLN.out.1];exact HLN.out.2,HM0.out.ns,HM0.out.nb⟩,HP9.out.2⟩
  simp [repV,results,Tryz.results27,go_sem,y0,y1,y2,y3,y4,y5]
theorem rlose2 {w:World} {r:Nat} {m:Md} {AP AS AB:Option Addr} {CP CS CB:Nat} (h:RMd w r m AP CP AS CS AB CB) (hok:m.ok) (hl:m.ss.length<100000) (oi:Nat) :
 Calls Tryz.prog 27 #[.pointer (some ⟨r,0,none⟩),.int .u8 2,.int .u32 (oi:Int)] w (RDoPost w r (({ m with ss:=(loseM Sp.id m.ss oi).1 }:Md),(loseM Sp.id m.ss oi).2)):=by
 obtain ⟨i0,hi,hz0,hz1,hz2⟩:=info_parts info_span
 obtain ⟨RR,hR⟩:∃RR,loseM Sp.id m.ss oi=RR:=⟨_,rfl⟩
 rw [hR]
 unfold loseM at hR
 have HRS:=Lib.hid hR
 have HOK:=Lib.hid hok
 have hu:Upd [] w (w.alloc (.cells repZ 39)):=(Upd.refl _ _).alloc _
 have hrp:RpAt (w.alloc (.cells repZ 39)) w.heap.size repZ:=heap_alloc_new w _
 have HU:=Lib.hid hu
 have HM:=Lib.hid (h.upd0 hu)
 have HM0:=Lib.hid h
 have HRP:=Lib.hid hrp
 have HL:=Lib.hid (And.intro hl (show r<w.heap.size from lt_of_block h.head))
 clear hR hok h hu hrp hl
 go_enter Tryz.func27,Tryz.ntmps27
 go_upto_region 1 with fail
 generalize (w.alloc (.cells repZ 39))=W at HU HM HRP ⊢
 obtain ⟨qr,hqr⟩:∃q,w.heap.size=q:=⟨_,rfl⟩
 rw [hqr] at HRP ⊢
 have HQ:=Lib.hid (show w.heap.size≤qr∧r<w.heap.size∧r≠qr from ⟨by omega,HL.out.2,by have:=HL.out.2;omega⟩)
 clear hqr
 obtain ⟨L,hL⟩:∃L,m.ss.map Sp.id=L:=⟨_,rfl⟩
 obtain ⟨n,hn⟩:∃n,m.ss.length=n:=⟨_,rfl⟩
 have hLn:L.length=n:=by rw [←hL,List.length_map,hn]
 have hnm:=rnames2 HM.out (by have:=HL.out.1;omega)
 unfold RowPostM at hnm
 rw [hL,hLn] at hnm
 have HNM:=Lib.hid hnm
 have HN:=Lib.hid (And.intro hL (And.intro hn hLn))
 have n0:(0:Int)≤(n:Int):=Int.natCast_nonneg _
 have n1:(n:Int)<100000:=by have:=HL.out.1;omega
 clear hnm hL hn hLn
 go_wp2_with fail
 (with_reducible refine HNM.out.mono ?_)
 rintro e w2 ⟨Ai,Ci,rfl,hrow,hu2⟩
 have hpl:=rplace (.slice Ai n Ci) L oi w2 (See.of_row hrow) (by have:=HN.out.2.2;omega)
 have HPL:=Lib.hid hpl
 have H2:=Lib.hid hu2
 clear hpl hrow hu2
 go_wp2_with fail
 (with_reducible refine HPL.out.mono ?_)
 rintro e w3 ⟨k,b,rfl,hp,hu3⟩
 have HU3:=Lib.hid (HU.out.trans (H2.out.trans hu3))
 have HM3:=Lib.hid ((HM.out.upd0 H2.out).upd0 hu3)
 have HRP3:=Lib.hid ((HRP.out.upd H2.out (by simp)).upd hu3 (by simp))
 have hp':=hp
 rw [←HN.out.1] at hp'
 have hfd:=place_find HOK.out.ss hp'
 have HP:=Lib.hid (And.intro hp' hfd)
 clear hp hp' hfd hu3 HPL HNM
 cases b with
 |false=>
  have hres:=HRS.out
  rw [if_neg (by rw [HP.out.2];simp)] at hres
  subst hres
  go_wp2_with fail
  (with_reducible refine (rwrong 263 _).mono ?_)
  rintro e w8 ⟨rfl,u8⟩
  have HU8:=Lib.hid (HU3.out.trans u8)
  have HRP8:=Lib.hid (HRP3.out.upd u8 (by simp))
  clear u8
  have hrp:=HRP8.out
  have f0:(w8).frozen? ⟨qr,0,none⟩=false:=hrp.frozen 0
  have f1:(w8).frozen? ⟨qr,1,none⟩=false:=hrp.frozen 1
  have f2:(w8).frozen? ⟨qr,2,none⟩=false:=hrp.frozen 2
  have f3:(w8).frozen? ⟨qr,3,none⟩=false:=hrp.frozen 3
  have f4:(w8).frozen? ⟨qr,4,none⟩=false:=hrp.frozen 4
  have f5:(w8).frozen? ⟨qr,5,none⟩=false:=hrp.frozen 5
  have c0:=hrp.cell 0
  have c1:=hrp.cell 1
  have c2:=hrp.cell 2
  have c3:=hrp.cell 3
  have c4:=hrp.cell 4
  have c5:=hrp.cell 5
  simp only [List.getElem?_toArray,List.getElem?_cons_zero,List.getElem?_cons_succ] at c0 c1 c2 c3 c4 c5
  have HP:=Lib.hid (And.intro (hrp.put (.int .i64 263) (.slice none 0 0) (.int .i64 0) (.bool false) (.int .u64 0) (.int .u64 0)) (upd_put (q:=qr) HU8.out (.inr HQ.out.1) (.int .i64 263) (.slice none 0 0) (.int .i64 0) (.bool false) (.int .u64 0) (.int .u64 0)))
  clear hrp
  go_wp2_with fail
  clear f0 c0 f1 c1 f2 c2 f3 c3 f4 c4 f5 c5
  have y0:=HP.out.1.cell 0
  have y1:=HP.out.1.cell 1
  have y2:=HP.out.1.cell 2
  have y3:=HP.out.1.cell 3
  have y4:=HP.out.1.cell 4
  have y5:=HP.out.1.cell 5
  simp only [List.getElem?_toArray,List.getElem?_cons_zero,List.getElem?_cons_succ] at y0 y1 y2 y3 y4 y5
  refine bodyPost_ret (v:=repV 263 0 false (.slice none 0 0) 0 0) ?_ rfl ⟨⟨_,rfl,repAt_err _ _⟩,⟨AP,CP,AS,CS,AB,CB,HM0.out.upd0 HP.out.2⟩,HP.out.2.mono (by simp)⟩
  simp [repV,results,Tryz.results27,go_sem,y0,y1,y2,y3,y4,y5]
 |true=>
  have hres:=HRS.out
  rw [if_pos HP.out.2] at hres
  subst hres
  obtain ⟨c0,c1,c2,c3⟩:=HM3.out.cells
  rw [HN.out.2.1] at c2
  go_upto_region 10 with fail
  have hkl:=place_lt HP.out.1
  rw [HN.out.2.1] at hkl
  have hsee:=HM3.out.ss
  unfold See at hsee
  rw [HN.out.2.1] at hsee
  obtain ⟨AT,CT,hct,hts,hbt⟩:=cut_to (P:=Tryz.prog) Tryz.underlying30 hi hz1 hsee k (by omega)
  have hXT:((KSp.all m.ss).take (k*3))=KSp.all (m.ss.take k):=(KSp.all_take m.ss k).symm
  obtain ⟨XT,hxt⟩:∃X,KSp.all (m.ss.take k)=X:=⟨_,rfl⟩
  rw [hXT,hxt] at hts
  have hone:∀u∈XT,u.oneCell'=true:=by rw [←hxt];exact KSp.all_one _
  obtain ⟨AF,CF,hcf,hfs,hbf⟩:=cut_from (P:=Tryz.prog) Tryz.underlying30 hi hz1 hsee (k+1) hkl
  have hXF:((KSp.all m.ss).drop ((k+1)*3))=KSp.all (m.ss.drop (k+1)):=(KSp.all_drop m.ss (k+1)).symm
  rw [hXF] at hfs
  have HCT:=Lib.hid hct
  have HCF:=Lib.hid (show ∀w',(Instr.slice 30 (.slice AS n CS) (some (.int .i64 ((k:Int)+1))) none none).run Tryz.prog w'=.ok (.slice AF (n - (k+1)) CF) w' from hcf)
  have HTS:=Lib.hid (And.intro hsee hts)
  have HFS:=Lib.hid hfs
  have HXT:=Lib.hid hxt
  have hkn':=Lib.hid hkl
  have k0:(0:Int)≤(k:Int):=Int.natCast_nonneg _
  have k1:(k:Int)<(n:Int):=by omega
  obtain ⟨p,hpn⟩:∃p,n - 1=p:=⟨_,rfl⟩
  have HPN:=Lib.hid hpn
  have hpi:(n:Int) - 1=(p:Int):=by omega
  clear hpn
  have hwk:IntKind.i64.wrap ((k:Int)+1)=(k:Int)+1:=by rw [IntKind.wrap_i64];omega
  clear hsee hct hts hbt hXT hxt hcf hfs hbf hXF
  obtain ⟨Wx,hWd⟩:∃Wd,Wd=w3.drew:=⟨_,rfl⟩
  have HUx:=Lib.hid (show Upd [] w3 Wx by rw [hWd];exact (Upd.refl _ _).drew)
  refine GoT.start [16,17,18,19] (fun w'=>Upd [] w3 w') (by kernel_rfl) ?_ fun hS=>?_
  ·exact (Upd.refl [] w3).drew
  rw [←hWd] at hS ⊢
  clear hWd
  refine' GoT.mv (i:=0) (oi:=⟨some 65,_,_,_,_,_⟩) rfl (by rfl) ?y10_0 ?_
  case y10_0=>intro w;go_simp<;>with_reducible rfl
  simp only [Act.put,sA,sZ,sS]
  refine' GoT.mv (i:=2) (oi:=⟨some 67,_,_,_,_,_⟩) rfl (by rfl) ?y10_2 ?_
  case y10_2=>intro w;go_simp<;>with_reducible rfl
  simp only [Act.put,sA,sZ,sS]
  refine' GoT.mv (i:=3) (oi:=⟨some 68,_,_,_,_,_⟩) rfl (by rfl) ?y10_3 ?_
  case y10_3=>intro w;go_simp<;>with_reducible rfl
  simp only [Act.put,sA,sZ,sS]
  refine' GoT.mv (i:=4) (oi:=⟨some 69,_,_,_,_,_⟩) rfl (by rfl) ?y10_4 ?_
  case y10_4=>intro w;go_simp<;>with_reducible rfl
  simp only [Act.put,sA,sZ,sS]
  refine' GoT.tk 3 (i:=5) (oi:=⟨some 70,_,_,_,_,_⟩) rfl (by rfl) ?y10_5 ?_
  case y10_5=>intro w hSw;have c2:=(hSw.cell (World.block_lt_of_cell? _ _ c2) (by simp)).trans c2;go_simp<;>with_reducible rfl
  simp only [Act.put,sA,sZ,sS]
  refine' GoT.mv (i:=6) (oi:=⟨some 71,_,_,_,_,_⟩) rfl (by rfl) ?y10_6 ?_
  case y10_6=>intro w;go_simp<;>with_reducible rfl
  simp only [Act.put,sA,sZ,sS]
  refine' GoT.mv (i:=7) (oi:=⟨some 72,_,_,_,_,_⟩) rfl (by rfl) ?y10_7 ?_
  case y10_7=>intro w;have hct:=HCT.out;go_simp<;>with_reducible rfl
  simp only [Act.put,sA,sZ,sS]
  refine' GoT.mv (i:=9) (oi:=⟨some 74,_,_,_,_,_⟩) rfl (by rfl) ?y10_9 ?_
  case y10_9=>intro w;go_simp<;>with_reducible rfl
  simp only [Act.put,sA,sZ,sS]
  refine' GoT.mv (i:=10) (oi:=⟨some 75,_,_,_,_,_⟩) rfl (by rfl) ?y10_10 ?_
  case y10_10=>intro w;go_simp<;>with_reducible rfl
  simp only [Act.put,sA,sZ,sS]
  refine' GoT.mv (i:=11) (oi:=⟨some 76,_,_,_,_,_⟩) rfl (by rfl) ?y10_11 ?_
  case y10_11=>intro w;go_simp<;>with_reducible rfl
  simp only [Act.put,sA,sZ,sS]
  refine' GoT.tk 3 (i:=12) (oi:=⟨some 77,_,_,_,_,_⟩) rfl (by rfl) ?y10_12 ?_
  case y10_12=>intro w hSw;have c2:=(hSw.cell (World.block_lt_of_cell? _ _ c2) (by simp)).trans c2;go_simp<;>with_reducible rfl
  simp only [Act.put,sA,sZ,sS]
  refine' GoT.mv (i:=13) (oi:=⟨some 78,_,_,_,_,_⟩) rfl (by rfl) ?y10_13 ?_
  case y10_13=>intro w;go_simp<;>with_reducible rfl
  simp only [Act.put,sA,sZ,sS]
  refine' GoT.mv (i:=14) (oi:=⟨some 79,_,_,_,_,_⟩) rfl (by rfl) ?y10_14 ?_
  case y10_14=>intro w;go_simp<;>with_reducible rfl
  simp only [Act.put,sA,sZ,sS]
  refine' GoT.mv (i:=15) (oi:=⟨some 80,_,_,_,_,_⟩) rfl (by rfl) ?y10_15 ?_
  case y10_15=>intro w;have hct:=HCF.out;go_simp<;>with_reducible rfl
  simp only [Act.put,sA,sZ,sS]
  refine GoT.one (i:=1) (o:=⟨some 66,_,_,_,_,_⟩) rfl (by kernel_rfl) fun K hK=>?_
  have hown:(Wx.alloc (.cells #[] 54)).ownsRow w3.heap.size 54 3 (.slice (some ⟨Wx.heap.size,0,none⟩) 0 0) 0 []:=World.ownsRow_lit Wx #[] 0 HUx.out.size (by decide) rfl
  have HUy:=Lib.hid (HUx.out.alloc (.cells #[] 54))
  go_simp
  refine hK.out _ _ (fun _ h=>h.alloc _) ?_
  clear hK K hS
  generalize Wx.alloc (.cells #[] 54)=Wy at hown HUy ⊢
  generalize Wx.heap.size=qE at hown ⊢
  have HOE:=Lib.hid hown
  clear hown HUx
  try simp only [Act.put,sA,sZ,sS]
  refine GoT.one (i:=8) (o:=⟨some 73,_,_,_,_,_⟩) rfl (by kernel_rfl) fun K hK=>?_
  rw [if_pos (by simp [Region.wanted])]
  refine wp_app _ _ _ 30 (by rfl) w3.heap.size 54 i0 (.agg #[.int .i64 0,.int .i64 0,.int .u32 0]) 3 24 Tryz.underlying30 hi hz0 hz1 hz2 rfl (by decide) _ 0 [] (by rfl) HOE.out _ k XT (by rfl) (HTS.out.2 _ (sees_upd HTS.out.1 HUy.out (by simp))) hone (by unfold maxLen;omega) (by omega) HUy.out.size ?_
  intro AA CA Wz HP
  have hge:=own_ge HOE.out
  have hpo:Wz.ownsRow w3.heap.size 54 3 (.slice AA k CA) k XT:=by have:=HP.own;rw [Nat.zero_add] at this;exact this
  have HUz:=Lib.hid (HUy.out.trans' HP.upd (fun y hy=>.inr (hge y hy)))
  have HOA:=Lib.hid hpo
  rw [Nat.zero_add]
  refine hK.out _ _ (fun _ h=>h.trans' HP.upd (fun y hy=>.inr (hge y hy))) ?_
  clear hK K HP hge hpo HOE
  try simp only [Act.put,sA,sZ,sS]
  refine GoT.one (i:=16) (o:=⟨some 81,_,_,_,_,_⟩) rfl (by kernel_rfl) fun K hK=>?_
  rw [if_pos (by simp [Region.wanted])]
  refine wp_app _ _ _ 30 (by rfl) w3.heap.size 54 i0 (.agg #[.int .i64 0,.int .i64 0,.int .u32 0]) 3 24 Tryz.underlying30 hi hz0 hz1 hz2 rfl (by decide) (.slice AA k CA) k XT (by rfl) HOA.out (.slice AF (n - (k+1)) CF) (n - (k+1)) (KSp.all (m.ss.drop (k+1))) (by rfl) (HFS.out _ (sees_upd HTS.out.1 HUz.out (by simp))) (KSp.all_one _) (by unfold maxLen;omega) (by omega) HUz.out.size ?_
  intro AN CN W6 HP
  have hge:=own_ge HOA.out
  have hpo:W6.ownsRow w3.heap.size 54 3 (.slice AN (k+(n - (k+1))) CN) (k+(n - (k+1))) (XT++KSp.all (m.ss.drop (k+1))):=by exact HP.own
  have HU6:=Lib.hid (HUz.out.trans' HP.upd (fun y hy=>.inr (hge y hy)))
  have HON:=Lib.hid hpo
  have hN:k+(n - (k+1))=p:=by have:=hkn'.out;have:=HPN.out;omega
  refine hK.out _ _ (fun h=>(by cases h)) ?_
  clear hK K HP hge hpo HOA
  rw [hN]
  rw [hN] at HON
  clear hN
  have HM6:=Lib.hid (HM3.out.upd0 HU6.out)
  have HRP6:=Lib.hid (HRP3.out.upd HU6.out (by simp))
  have fr:=HM6.out.head.frozen 2
  obtain ⟨e0,e1,e2,e3⟩:=HM6.out.cells
  try simp only [Act.put,sA,sZ,sS]
  refine' GoT.mv (i:=17) (oi:=⟨some 82,_,_,_,_,_⟩) rfl (by rfl) ?y10_17 ?_
  case y10_17=>intro w;go_simp<;>with_reducible rfl
  simp only [Act.put,sA,sZ,sS]
  refine' GoT.mv (i:=18) (oi:=⟨some 83,_,_,_,_,_⟩) rfl (by rfl) ?y10_18 ?_
  case y10_18=>intro w;go_simp<;>with_reducible rfl
  simp only [Act.put,sA,sZ,sS]
  refine GoT.one (i:=19) (o:=⟨none,_,_,_,_,_⟩) rfl (by kernel_rfl) fun K hK=>?_
  go_simp
  refine hK.out _ _ (fun h=>(by cases h)) ?_
  clear hK K
  try simp only [Act.put,sA,sZ,sS]
  refine GoT.done (by kernel_rfl) ?_
  have hrow6:W6.ownsRow w3.heap.size 54 3 (.slice AN p CN) p (KSp.all (delA Sp.id oi m.ss)):=by
   rw [←place_del HOK.out.ss HP.out.1,KSp.all_app,HXT.out]
   exact HON.out
  have hu7:Upd [r] W6 (W6.setCell ⟨r,2,none⟩ (.slice AN p CN)):=(Upd.refl [r] W6).setCell (p:=⟨r,2,none⟩) (.inl (by simp)) _
  have hrn:r∉blk (.slice AN p CN):=fun hc=>by
   have h1:=own_ge hrow6 r hc
   have h2:=HU3.out.size
   have h3:=HQ.out.2.1
   omega
  have hlen:(delA Sp.id oi m.ss).length=p:=by
   rw [←place_del HOK.out.ss HP.out.1,List.length_append,List.length_take,List.length_drop,HN.out.2.1]
   have:=hkn'.out
   have:=HPN.out
   omega
  have HH7:=Lib.hid (show HpC (W6.setCell ⟨r,2,none⟩ (.slice AN p CN)) r #[.int .i64 (m.room:Int),.slice AP m.ps.length CP,.slice AN (delA Sp.id oi m.ss).length CN,.slice AB m.bs.length CB] 33 by
   rw [hlen]
   exact HM6.out.head.set 2 (.slice AN p CN))
  have HO7:=Lib.hid (own_upd hrow6 hu7 (fun k hk hc=>hrn (by simp at hc;rw [←hc];exact hk)))
  have HLN:=Lib.hid (And.intro hlen hrn)
  have HU7:=Lib.hid (show Upd [r] w (W6.setCell ⟨r,2,none⟩ (.slice AN p CN)) from (((HU3.out.trans HU6.out).mono (by simp)).trans hu7))
  have HRPL:=Lib.hid (show qr<w3.heap.size from lt_of_block HRP3.out)
  have HRP7:=Lib.hid (HRP6.out.upd hu7 (by have:=HQ.out;simp only [List.mem_singleton];omega))
  clear hrow6 hu7 hrn hlen e0 e1 e2 e3 fr c0 c1 c2 c3
  generalize W6.setCell ⟨r,2,none⟩ (.slice AN p CN)=W7 at HH7 HO7 HU7 HRP7 ⊢
  have hrp:=HRP7.out
  have f0:(W7).frozen? ⟨qr,0,none⟩=false:=hrp.frozen 0
  have f1:(W7).frozen? ⟨qr,1,none⟩=false:=hrp.frozen 1
  have f2:(W7).frozen? ⟨qr,2,none⟩=false:=hrp.frozen 2
  have f3:(W7).frozen? ⟨qr,3,none⟩=false:=hrp.frozen 3
  have f4:(W7).frozen? ⟨qr,4,none⟩=false:=hrp.frozen 4
  have f5:(W7).frozen? ⟨qr,5,none⟩=false:=hrp.frozen 5
  have c0:=hrp.cell 0
  have c1:=hrp.cell 1
  have c2:=hrp.cell 2
  have c3:=hrp.cell 3
  have c4:=hrp.cell 4
  have c5:=hrp.cell 5
  simp only [List.getElem?_toArray,List.getElem?_cons_zero,List.getElem?_cons_succ] at c0 c1 c2 c3 c4 c5
  have HP9:=Lib.hid (And.intro (hrp.put (.int .i64 0) (.slice none 0 0) (.int .i64 (p:Int)) (.bool false) (.int .u64 0) (.int .u64 0)) (upd_put (q:=qr) HU7.out (.inr HQ.out.1) (.int .i64 0) (.slice none 0 0) (.int .i64 (p:Int)) (.bool false) (.int .u64 0) (.int .u64 0)))
  clear hrp
  go_wp2_with fail
  clear f0 c0 f1 c1 f2 c2 f3 c3 f4 c4 f5 c5
  have y0:=HP9.out.1.cell 0
  have y1:=HP9.out.1.cell 1
  have y2:=HP9.out.1.cell 2
  have y3:=HP9.out.1.cell 3
  have y4:=HP9.out.1.cell 4
  have y5:=HP9.out.1.cell 5
  simp only [List.getElem?_toArray,List.getElem?_cons_zero,List.getElem?_cons_succ] at y0 y1 y2 y3 y4 y5
  have hp:=upd_put (q:=qr) (Upd.refl [qr] W7) (.inl (by simp)) (.int .i64 0) (.slice none 0 0) (.int .i64 (p:Int)) (.bool false) (.int .u64 0) (.int .u64 0)
  refine bodyPost_ret (v:=repV 0 p false (.slice none 0 0) 0 0) ?_ rfl ⟨⟨_,rfl,by rw [HN.out.2.1,HPN.out];exact repAt_cnt _ _⟩,⟨AP,CP,AN,CN,AB,CB,HH7.out.upd hp (by have:=HQ.out;simp only [List.mem_singleton];omega),HM0.out.ps.upd HP9.out.2 (fun _ k hk _ hc=>HM0.out.np (by simp at hc;rw [←hc];exact hk)),by have:=sees_of_own (own_upd HO7.out hp (fun k hk hc=>by have h1:=own_ge HO7.out k hk;have h2:=HU3.out.size;have h3:=HRPL.out;simp at hc;omega));unfold See;rw [HLN.out.1];exact this,HM0.out.bs.upd HP9.out.2 (fun _ k hk _ hc=>HM0.out.nb (by simp at hc;rw [←hc];exact hk)),HM0.out.np,by rw [HLN.out.1];exact HLN.out.2,HM0.out.nb⟩,HP9.out.2⟩
  simp [repV,results,Tryz.results27,go_sem,y0,y1,y2,y3,y4,y5]
theorem rlose3 {w:World} {r:Nat} {m:Md} {AP AS AB:Option Addr} {CP CS CB:Nat} (h:RMd w r m AP CP AS CS AB CB) (hok:m.ok) (hl:m.bs.length<100000) (oi:Nat) :
 Calls Tryz.prog 27 #[.pointer (some ⟨r,0,none⟩),.int .u8 3,.int .u32 (oi:Int)] w (RDoPost w r (({ m with bs:=(loseM Bx.id m.bs oi).1 }:Md),(loseM Bx.id m.bs oi).2)):=by
 obtain ⟨i0,hi,hz0,hz1,hz2⟩:=info_parts info_boxK
 obtain ⟨RR,hR⟩:∃RR,loseM Bx.id m.bs oi=RR:=⟨_,rfl⟩
 rw [hR]
 unfold loseM at hR
 have HRS:=Lib.hid hR
 have HOK:=Lib.hid hok
 have hu:Upd [] w (w.alloc (.cells repZ 39)):=(Upd.refl _ _).alloc _
 have hrp:RpAt (w.alloc (.cells repZ 39)) w.heap.size repZ:=heap_alloc_new w _
 have HU:=Lib.hid hu
 have HM:=Lib.hid (h.upd0 hu)
 have HM0:=Lib.hid h
 have HRP:=Lib.hid hrp
 have HL:=Lib.hid (And.intro hl (show r<w.heap.size from lt_of_block h.head))
 clear hR hok h hu hrp hl
 go_enter Tryz.func27,Tryz.ntmps27
 go_upto_region 1 with fail
 generalize (w.alloc (.cells repZ 39))=W at HU HM HRP ⊢
 obtain ⟨qr,hqr⟩:∃q,w.heap.size=q:=⟨_,rfl⟩
 rw [hqr] at HRP ⊢
 have HQ:=Lib.hid (show w.heap.size≤qr∧r<w.heap.size∧r≠qr from ⟨by omega,HL.out.2,by have:=HL.out.2;omega⟩)
 clear hqr
 obtain ⟨L,hL⟩:∃L,m.bs.map Bx.id=L:=⟨_,rfl⟩
 obtain ⟨n,hn⟩:∃n,m.bs.length=n:=⟨_,rfl⟩
 have hLn:L.length=n:=by rw [←hL,List.length_map,hn]
 have hnm:=rnames3 HM.out (by have:=HL.out.1;omega)
 unfold RowPostM at hnm
 rw [hL,hLn] at hnm
 have HNM:=Lib.hid hnm
 have HN:=Lib.hid (And.intro hL (And.intro hn hLn))
 have n0:(0:Int)≤(n:Int):=Int.natCast_nonneg _
 have n1:(n:Int)<100000:=by have:=HL.out.1;omega
 clear hnm hL hn hLn
 go_wp2_with fail
 (with_reducible refine HNM.out.mono ?_)
 rintro e w2 ⟨Ai,Ci,rfl,hrow,hu2⟩
 have hpl:=rplace (.slice Ai n Ci) L oi w2 (See.of_row hrow) (by have:=HN.out.2.2;omega)
 have HPL:=Lib.hid hpl
 have H2:=Lib.hid hu2
 clear hpl hrow hu2
 go_wp2_with fail
 (with_reducible refine HPL.out.mono ?_)
 rintro e w3 ⟨k,b,rfl,hp,hu3⟩
 have HU3:=Lib.hid (HU.out.trans (H2.out.trans hu3))
 have HM3:=Lib.hid ((HM.out.upd0 H2.out).upd0 hu3)
 have HRP3:=Lib.hid ((HRP.out.upd H2.out (by simp)).upd hu3 (by simp))
 have hp':=hp
 rw [←HN.out.1] at hp'
 have hfd:=place_find HOK.out.bs hp'
 have HP:=Lib.hid (And.intro hp' hfd)
 clear hp hp' hfd hu3 HPL HNM
 cases b with
 |false=>
  have hres:=HRS.out
  rw [if_neg (by rw [HP.out.2];simp)] at hres
  subst hres
  go_wp2_with fail
  (with_reducible refine (rwrong 263 _).mono ?_)
  rintro e w8 ⟨rfl,u8⟩
  have HU8:=Lib.hid (HU3.out.trans u8)
  have HRP8:=Lib.hid (HRP3.out.upd u8 (by simp))
  clear u8
  have hrp:=HRP8.out
  have f0:(w8).frozen? ⟨qr,0,none⟩=false:=hrp.frozen 0
  have f1:(w8).frozen? ⟨qr,1,none⟩=false:=hrp.frozen 1
  have f2:(w8).frozen? ⟨qr,2,none⟩=false:=hrp.frozen 2
  have f3:(w8).frozen? ⟨qr,3,none⟩=false:=hrp.frozen 3
  have f4:(w8).frozen? ⟨qr,4,none⟩=false:=hrp.frozen 4
  have f5:(w8).frozen? ⟨qr,5,none⟩=false:=hrp.frozen 5
  have c0:=hrp.cell 0
  have c1:=hrp.cell 1
  have c2:=hrp.cell 2
  have c3:=hrp.cell 3
  have c4:=hrp.cell 4
  have c5:=hrp.cell 5
  simp only [List.getElem?_toArray,List.getElem?_cons_zero,List.getElem?_cons_succ] at c0 c1 c2 c3 c4 c5
  have HP:=Lib.hid (And.intro (hrp.put (.int .i64 263) (.slice none 0 0) (.int .i64 0) (.bool false) (.int .u64 0) (.int .u64 0)) (upd_put (q:=qr) HU8.out (.inr HQ.out.1) (.int .i64 263) (.slice none 0 0) (.int .i64 0) (.bool false) (.int .u64 0) (.int .u64 0)))
  clear hrp
  go_wp2_with fail
  clear f0 c0 f1 c1 f2 c2 f3 c3 f4 c4 f5 c5
  have y0:=HP.out.1.cell 0
  have y1:=HP.out.1.cell 1
  have y2:=HP.out.1.cell 2
  have y3:=HP.out.1.cell 3
  have y4:=HP.out.1.cell 4
  have y5:=HP.out.1.cell 5
  simp only [List.getElem?_toArray,List.getElem?_cons_zero,List.getElem?_cons_succ] at y0 y1 y2 y3 y4 y5
  refine bodyPost_ret (v:=repV 263 0 false (.slice none 0 0) 0 0) ?_ rfl ⟨⟨_,rfl,repAt_err _ _⟩,⟨AP,CP,AS,CS,AB,CB,HM0.out.upd0 HP.out.2⟩,HP.out.2.mono (by simp)⟩
  simp [repV,results,Tryz.results27,go_sem,y0,y1,y2,y3,y4,y5]
 |true=>
  have hres:=HRS.out
  rw [if_pos HP.out.2] at hres
  subst hres
  obtain ⟨c0,c1,c2,c3⟩:=HM3.out.cells
  rw [HN.out.2.1] at c3
  go_upto_region 6 with fail
  have hkl:=place_lt HP.out.1
  rw [HN.out.2.1] at hkl
  have hsee:=HM3.out.bs
  unfold See at hsee
  rw [HN.out.2.1] at hsee
  obtain ⟨AT,CT,hct,hts,hbt⟩:=cut_to (P:=Tryz.prog) Tryz.underlying31 hi hz1 hsee k (by omega)
  have hXT:((KBx.all m.bs).take (k*5))=KBx.all (m.bs.take k):=(KBx.all_take m.bs k).symm
  obtain ⟨XT,hxt⟩:∃X,KBx.all (m.bs.take k)=X:=⟨_,rfl⟩
  rw [hXT,hxt] at hts
  have hone:∀u∈XT,u.oneCell'=true:=by rw [←hxt];exact KBx.all_one _
  obtain ⟨AF,CF,hcf,hfs,hbf⟩:=cut_from (P:=Tryz.prog) Tryz.underlying31 hi hz1 hsee (k+1) hkl
  have hXF:((KBx.all m.bs).drop ((k+1)*5))=KBx.all (m.bs.drop (k+1)):=(KBx.all_drop m.bs (k+1)).symm
  rw [hXF] at hfs
  have HCT:=Lib.hid hct
  have HCF:=Lib.hid (show ∀w',(Instr.slice 31 (.slice AB n CB) (some (.int .i64 ((k:Int)+1))) none none).run Tryz.prog w'=.ok (.slice AF (n - (k+1)) CF) w' from hcf)
  have HTS:=Lib.hid (And.intro hsee hts)
  have HFS:=Lib.hid hfs
  have HXT:=Lib.hid hxt
  have hkn':=Lib.hid hkl
  have k0:(0:Int)≤(k:Int):=Int.natCast_nonneg _
  have k1:(k:Int)<(n:Int):=by omega
  obtain ⟨p,hpn⟩:∃p,n - 1=p:=⟨_,rfl⟩
  have HPN:=Lib.hid hpn
  have hpi:(n:Int) - 1=(p:Int):=by omega
  clear hpn
  have hwk:IntKind.i64.wrap ((k:Int)+1)=(k:Int)+1:=by rw [IntKind.wrap_i64];omega
  clear hsee hct hts hbt hXT hxt hcf hfs hbf hXF
  obtain ⟨Wx,hWd⟩:∃Wd,Wd=w3.drew:=⟨_,rfl⟩
  have HUx:=Lib.hid (show Upd [] w3 Wx by rw [hWd];exact (Upd.refl _ _).drew)
  refine GoT.start [16,17,18,19] (fun w'=>Upd [] w3 w') (by kernel_rfl) ?_ fun hS=>?_
  ·exact (Upd.refl [] w3).drew
  rw [←hWd] at hS ⊢
  clear hWd
  refine' GoT.mv (i:=0) (oi:=⟨some 23,_,_,_,_,_⟩) rfl (by rfl) ?y6_0 ?_
  case y6_0=>intro w;go_simp<;>with_reducible rfl
  simp only [Act.put,sA,sZ,sS]
  refine' GoT.mv (i:=2) (oi:=⟨some 25,_,_,_,_,_⟩) rfl (by rfl) ?y6_2 ?_
  case y6_2=>intro w;go_simp<;>with_reducible rfl
  simp only [Act.put,sA,sZ,sS]
  refine' GoT.mv (i:=3) (oi:=⟨some 26,_,_,_,_,_⟩) rfl (by rfl) ?y6_3 ?_
  case y6_3=>intro w;go_simp<;>with_reducible rfl
  simp only [Act.put,sA,sZ,sS]
  refine' GoT.mv (i:=4) (oi:=⟨some 27,_,_,_,_,_⟩) rfl (by rfl) ?y6_4 ?_
  case y6_4=>intro w;go_simp<;>with_reducible rfl
  simp only [Act.put,sA,sZ,sS]
  refine' GoT.tk 3 (i:=5) (oi:=⟨some 28,_,_,_,_,_⟩) rfl (by rfl) ?y6_5 ?_
  case y6_5=>intro w hSw;have c3:=(hSw.cell (World.block_lt_of_cell? _ _ c3) (by simp)).trans c3;go_simp<;>with_reducible rfl
  simp only [Act.put,sA,sZ,sS]
  refine' GoT.mv (i:=6) (oi:=⟨some 29,_,_,_,_,_⟩) rfl (by rfl) ?y6_6 ?_
  case y6_6=>intro w;go_simp<;>with_reducible rfl
  simp only [Act.put,sA,sZ,sS]
  refine' GoT.mv (i:=7) (oi:=⟨some 30,_,_,_,_,_⟩) rfl (by rfl) ?y6_7 ?_
  case y6_7=>intro w;have hct:=HCT.out;go_simp<;>with_reducible rfl
  simp only [Act.put,sA,sZ,sS]
  refine' GoT.mv (i:=9) (oi:=⟨some 32,_,_,_,_,_⟩) rfl (by rfl) ?y6_9 ?_
  case y6_9=>intro w;go_simp<;>with_reducible rfl
  simp only [Act.put,sA,sZ,sS]
  refine' GoT.mv (i:=10) (oi:=⟨some 33,_,_,_,_,_⟩) rfl (by rfl) ?y6_10 ?_
  case y6_10=>intro w;go_simp<;>with_reducible rfl
  simp only [Act.put,sA,sZ,sS]
  refine' GoT.mv (i:=11) (oi:=⟨some 34,_,_,_,_,_⟩) rfl (by rfl) ?y6_11 ?_
  case y6_11=>intro w;go_simp<;>with_reducible rfl
  simp only [Act.put,sA,sZ,sS]
  refine' GoT.tk 3 (i:=12) (oi:=⟨some 35,_,_,_,_,_⟩) rfl (by rfl) ?y6_12 ?_
  case y6_12=>intro w hSw;have c3:=(hSw.cell (World.block_lt_of_cell? _ _ c3) (by simp)).trans c3;go_simp<;>with_reducible rfl
  simp only [Act.put,sA,sZ,sS]
  refine' GoT.mv (i:=13) (oi:=⟨some 36,_,_,_,_,_⟩) rfl (by rfl) ?y6_13 ?_
  case y6_13=>intro w;go_simp<;>with_reducible rfl
  simp only [Act.put,sA,sZ,sS]
  refine' GoT.mv (i:=14) (oi:=⟨some 37,_,_,_,_,_⟩) rfl (by rfl) ?y6_14 ?_
  case y6_14=>intro w;go_simp<;>with_reducible rfl
  simp only [Act.put,sA,sZ,sS]
  refine' GoT.mv (i:=15) (oi:=⟨some 38,_,_,_,_,_⟩) rfl (by rfl) ?y6_15 ?_
  case y6_15=>intro w;have hct:=HCF.out;go_simp<;>with_reducible rfl
  simp only [Act.put,sA,sZ,sS]
  refine GoT.one (i:=1) (o:=⟨some 24,_,_,_,_,_⟩) rfl (by kernel_rfl) fun K hK=>?_
  have hown:(Wx.alloc (.cells #[] 59)).ownsRow w3.heap.size 59 5 (.slice (some ⟨Wx.heap.size,0,none⟩) 0 0) 0 []:=World.ownsRow_lit Wx #[] 0 HUx.out.size (by decide) rfl
  have HUy:=Lib.hid (HUx.out.alloc (.cells #[] 59))
  go_simp
  refine hK.out _ _ (fun _ h=>h.alloc _) ?_
  clear hK K hS
  generalize Wx.alloc (.cells #[] 59)=Wy at hown HUy ⊢
  generalize Wx.heap.size=qE at hown ⊢
  have HOE:=Lib.hid hown
  clear hown HUx
  try simp only [Act.put,sA,sZ,sS]
  refine GoT.one (i:=8) (o:=⟨some 31,_,_,_,_,_⟩) rfl (by kernel_rfl) fun K hK=>?_
  rw [if_pos (by simp [Region.wanted])]
  refine wp_app _ _ _ 31 (by rfl) w3.heap.size 59 i0 (.agg #[.int .i64 0,.int .i64 0,.int .i64 0,.int .i64 0,.int .u32 0]) 5 40 Tryz.underlying31 hi hz0 hz1 hz2 rfl (by decide) _ 0 [] (by rfl) HOE.out _ k XT (by rfl) (HTS.out.2 _ (sees_upd HTS.out.1 HUy.out (by simp))) hone (by unfold maxLen;omega) (by omega) HUy.out.size ?_
  intro AA CA Wz HP
  have hge:=own_ge HOE.out
  have hpo:Wz.ownsRow w3.heap.size 59 5 (.slice AA k CA) k XT:=by have:=HP.own;rw [Nat.zero_add] at this;exact this
  have HUz:=Lib.hid (HUy.out.trans' HP.upd (fun y hy=>.inr (hge y hy)))
  have HOA:=Lib.hid hpo
  rw [Nat.zero_add]
  refine hK.out _ _ (fun _ h=>h.trans' HP.upd (fun y hy=>.inr (hge y hy))) ?_
  clear hK K HP hge hpo HOE
  try simp only [Act.put,sA,sZ,sS]
  refine GoT.one (i:=16) (o:=⟨some 39,_,_,_,_,_⟩) rfl (by kernel_rfl) fun K hK=>?_
  rw [if_pos (by simp [Region.wanted])]
  refine wp_app _ _ _ 31 (by rfl) w3.heap.size 59 i0 (.agg #[.int .i64 0,.int .i64 0,.int .i64 0,.int .i64 0,.int .u32 0]) 5 40 Tryz.underlying31 hi hz0 hz1 hz2 rfl (by decide) (.slice AA k CA) k XT (by rfl) HOA.out (.slice AF (n - (k+1)) CF) (n - (k+1)) (KBx.all (m.bs.drop (k+1))) (by rfl) (HFS.out _ (sees_upd HTS.out.1 HUz.out (by simp))) (KBx.all_one _) (by unfold maxLen;omega) (by omega) HUz.out.size ?_
  intro AN CN W6 HP
  have hge:=own_ge HOA.out
  have hpo:W6.ownsRow w3.heap.size 59 5 (.slice AN (k+(n - (k+1))) CN) (k+(n - (k+1))) (XT++KBx.all (m.bs.drop (k+1))):=by exact HP.own
  have HU6:=Lib.hid (HUz.out.trans' HP.upd (fun y hy=>.inr (hge y hy)))
  have HON:=Lib.hid hpo
  have hN:k+(n - (k+1))=p:=by have:=hkn'.out;have:=HPN.out;omega
  refine hK.out _ _ (fun h=>(by cases h)) ?_
  clear hK K HP hge hpo HOA
  rw [hN]
  rw [hN] at HON
  clear hN
  have HM6:=Lib.hid (HM3.out.upd0 HU6.out)
  have HRP6:=Lib.hid (HRP3.out.upd HU6.out (by simp))
  have fr:=HM6.out.head.frozen 3
  obtain ⟨e0,e1,e2,e3⟩:=HM6.out.cells
  try simp only [Act.put,sA,sZ,sS]
  refine' GoT.mv (i:=17) (oi:=⟨some 40,_,_,_,_,_⟩) rfl (by rfl) ?y6_17 ?_
  case y6_17=>intro w;go_simp<;>with_reducible rfl
  simp only [Act.put,sA,sZ,sS]
  refine' GoT.mv (i:=18) (oi:=⟨some 41,_,_,_,_,_⟩) rfl (by rfl) ?y6_18 ?_
  case y6_18=>intro w;go_simp<;>with_reducible rfl
  simp only [Act.put,sA,sZ,sS]
  refine GoT.one (i:=19) (o:=⟨none,_,_,_,_,_⟩) rfl (by kernel_rfl) fun K hK=>?_
  go_simp
  refine hK.out _ _ (fun h=>(by cases h)) ?_
  clear hK K
  try simp only [Act.put,sA,sZ,sS]
  refine GoT.done (by kernel_rfl) ?_
  have hrow6:W6.ownsRow w3.heap.size 59 5 (.slice AN p CN) p (KBx.all (delA Bx.id oi m.bs)):=by
   rw [←place_del HOK.out.bs HP.out.1,KBx.all_app,HXT.out]
   exact HON.out
  have hu7:Upd [r] W6 (W6.setCell ⟨r,3,none⟩ (.slice AN p CN)):=(Upd.refl [r] W6).setCell (p:=⟨r,3,none⟩) (.inl (by simp)) _
  have hrn:r∉blk (.slice AN p CN):=fun hc=>by
   have h1:=own_ge hrow6 r hc
   have h2:=HU3.out.size
   have h3:=HQ.out.2.1
   omega
  have hlen:(delA Bx.id oi m.bs).length=p:=by
   rw [←place_del HOK.out.bs HP.out.1,List.length_append,List.length_take,List.length_drop,HN.out.2.1]
   have:=hkn'.out
   have:=HPN.out
   omega
  have HH7:=Lib.hid (show HpC (W6.setCell ⟨r,3,none⟩ (.slice AN p CN)) r #[.int .i64 (m.room:Int),.slice AP m.ps.length CP,.slice AS m.ss.length CS,.slice AN (delA Bx.id oi m.bs).length CN] 33 by
   rw [hlen]
   exact HM6.out.head.set 3 (.slice AN p CN))
  have HO7:=Lib.hid (own_upd hrow6 hu7 (fun k hk hc=>hrn (by simp at hc;rw [←hc];exact hk)))
  have HLN:=Lib.hid (And.intro hlen hrn)
  have HU7:=Lib.hid (show Upd [r] w (W6.setCell ⟨r,3,none⟩ (.slice AN p CN)) from (((HU3.out.trans HU6.out).mono (by simp)).trans hu7))
  have HRPL:=Lib.hid (show qr<w3.heap.size from lt_of_block HRP3.out)
  have HRP7:=Lib.hid (HRP6.out.upd hu7 (by have:=HQ.out;simp only [List.mem_singleton];omega))
  clear hrow6 hu7 hrn hlen e0 e1 e2 e3 fr c0 c1 c2 c3
  generalize W6.setCell ⟨r,3,none⟩ (.slice AN p CN)=W7 at HH7 HO7 HU7 HRP7 ⊢
  have hrp:=HRP7.out
  have f0:(W7).frozen? ⟨qr,0,none⟩=false:=hrp.frozen 0
  have f1:(W7).frozen? ⟨qr,1,none⟩=false:=hrp.frozen 1
  have f2:(W7).frozen? ⟨qr,2,none⟩=false:=hrp.frozen 2
  have f3:(W7).frozen? ⟨qr,3,none⟩=false:=hrp.frozen 3
  have f4:(W7).frozen? ⟨qr,4,none⟩=false:=hrp.frozen 4
  have f5:(W7).frozen? ⟨qr,5,none⟩=false:=hrp.frozen 5
  have c0:=hrp.cell 0
  have c1:=hrp.cell 1
  have c2:=hrp.cell 2
  have c3:=hrp.cell 3
  have c4:=hrp.cell 4
  have c5:=hrp.cell 5
  simp only [List.getElem?_toArray,List.getElem?_cons_zero,List.getElem?_cons_succ] at c0 c1 c2 c3 c4 c5
  have HP9:=Lib.hid (And.intro (hrp.put (.int .i64 0) (.slice none 0 0) (.int .i64 (p:Int)) (.bool false) (.int .u64 0) (.int .u64 0)) (upd_put (q:=qr) HU7.out (.inr HQ.out.1) (.int .i64 0) (.slice none 0 0) (.int .i64 (p:Int)) (.bool false) (.int .u64 0) (.int .u64 0)))
  clear hrp
  go_wp2_with fail
  clear f0 c0 f1 c1 f2 c2 f3 c3 f4 c4 f5 c5
  have y0:=HP9.out.1.cell 0
  have y1:=HP9.out.1.cell 1
  have y2:=HP9.out.1.cell 2
  have y3:=HP9.out.1.cell 3
  have y4:=HP9.out.1.cell 4
  have y5:=HP9.out.1.cell 5
  simp only [List.getElem?_toArray,List.getElem?_cons_zero,List.getElem?_cons_succ] at y0 y1 y2 y3 y4 y5
  have hp:=upd_put (q:=qr) (Upd.refl [qr] W7) (.inl (by simp)) (.int .i64 0) (.slice none 0 0) (.int .i64 (p:Int)) (.bool false) (.int .u64 0) (.int .u64 0)
  refine bodyPost_ret (v:=repV 0 p false (.slice none 0 0) 0 0) ?_ rfl ⟨⟨_,rfl,by rw [HN.out.2.1,HPN.out];exact repAt_cnt _ _⟩,⟨AP,CP,AS,CS,AN,CN,HH7.out.upd hp (by have:=HQ.out;simp only [List.mem_singleton];omega),HM0.out.ps.upd HP9.out.2 (fun _ k hk _ hc=>HM0.out.np (by simp at hc;rw [←hc];exact hk)),HM0.out.ss.upd HP9.out.2 (fun _ k hk _ hc=>HM0.out.ns (by simp at hc;rw [←hc];exact hk)),by have:=sees_of_own (own_upd HO7.out hp (fun k hk hc=>by have h1:=own_ge HO7.out k hk;have h2:=HU3.out.size;have h3:=HRPL.out;simp at hc;omega));unfold See;rw [HLN.out.1];exact this,HM0.out.np,HM0.out.ns,by rw [HLN.out.1];exact HLN.out.2⟩,HP9.out.2⟩
  simp [repV,results,Tryz.results27,go_sem,y0,y1,y2,y3,y4,y5]
end Go.Proofs.YtkmnbodlciepaaaGreat
