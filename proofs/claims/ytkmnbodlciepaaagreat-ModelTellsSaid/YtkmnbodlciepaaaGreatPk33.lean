/- The document's model: which. Printed by mkrefmh.py. -/
import Derived.Test.YtkmnbodlciepaaaGreatPk32
set_option maxHeartbeats 16000000
set_option maxRecDepth 100000
namespace Go.Proofs.YtkmnbodlciepaaaGreat
open Go.RowKit
def NamesPostR (w:World) (L:List Nat) (e:Ending) (w':World):Prop:=∃A C,e=.returned (.slice A L.length C)∧See KU w' (.slice A L.length C) L∧Upd [] w w'
theorem filt_next {α:Type} {key:α→Nat} {l:List α} (P:α→Bool) {i:Nat} {x:α} (hx:l[i]? = some x):namesM key (l.take (i+1)) P=namesM key (l.take i) P++(if P x=true then [key x] else []):=by
 obtain ⟨g1,g2⟩:=List.getElem?_eq_some_iff.1 hx
 unfold namesM
 rw [List.take_succ_eq_append_getElem g1,g2,List.filter_append,List.map_append]
 congr 1
 by_cases h:P x=true
 ·rw [if_pos h,List.filter_cons_of_pos h];rfl
 ·rw [if_neg h,List.filter_cons_of_neg h];rfl
theorem filt_len {α:Type} {key:α→Nat} (l:List α) (P:α→Bool) (i:Nat):(namesM key (l.take i) P).length≤i:=by
 unfold namesM
 rw [List.length_map]
 exact Nat.le_trans (List.length_filter_le _ _) (by rw [List.length_take];omega)
theorem rwhich1 {w:World} {r:Nat} {m:Md} {AP AS AB:Option Addr} {CP CS CB:Nat} (h:RMd w r m AP CP AS CS AB CB) (hl:m.ps.length<1000000) (h64:∀q∈m.ps,z64 q.x∧z64 q.y) (o:OpP) (h7:7≤o.code) (h14:o.code≤14) :
 Calls Tryz.prog 30 #[.pointer (some ⟨r,0,none⟩),opV o] w (NamesPostR w (namesM Pt.id m.ps (askP m.ps o))):=by
 obtain ⟨i0,hi,hz0,hz1,hz2⟩:=info_parts info_u32
 unfold NamesPostR opV
 obtain ⟨P,hP⟩:∃P:Pt→Bool,(askP m.ps o)=P:=⟨_,rfl⟩
 have hcon:∀W,Upd [] w W→∀x∈m.ps,Calls Tryz.prog 59 #[.pointer (some ⟨r,0,none⟩),.agg #[.int .i64 x.x,.int .i64 x.y,.int .u32 (x.id:Int)],.agg #[.int .u8 (o.code:Int),.int .i64 o.a,.int .i64 o.b,.int .i64 o.c,.int .i64 o.d,.int .u32 (o.id:Int)]] W fun e w'=>e=.returned (.bool (P x))∧Upd [] W w':=fun W hu x hx=>by
  rw [←hP]
  exact raskedC (h.upd0 hu) hl (fun q hq=>(h64 q hq).2) (h64 x hx).2 o h7 h14
 have HC:=Lib.hid hcon
 have d14:decide ((o.code:Int)≤14)=true:=decide_eq_true (by omega)
 have d15:decide ((15:Int)≤(o.code:Int))=false:=decide_eq_false (by omega)
 have d20:((o.code:Int)==20)=false:=by rw [beq_eq_false_iff_ne];omega
 rw [hP]
 clear hP hcon h64 h7 h14
 obtain ⟨ko,oa,ob,occ,od,oi⟩:=o
 dsimp only at HC d14 d15 d20 ⊢
 obtain ⟨k,hk⟩:∃k:Int,(ko:Int)=k:=⟨_,rfl⟩
 rw [hk] at HC d14 d15 d20 ⊢
 clear hk
 have HD:=Lib.hid (And.intro d14 (And.intro d15 d20))
 have H:=Lib.hid h
 obtain ⟨l,hM⟩:∃l,m.ps=l:=⟨_,rfl⟩
 obtain ⟨n1,hn⟩:∃n,m.ps.length=n:=⟨_,rfl⟩
 obtain ⟨n2,hn2⟩:∃n,m.ss.length=n:=⟨_,rfl⟩
 obtain ⟨n3,hn3⟩:∃n,m.bs.length=n:=⟨_,rfl⟩
 have HS:=Lib.hid h.ps
 have HCC:=Lib.hid h.cells
 rw [hn] at HS HCC hl
 rw [hn2,hn3] at HCC
 have HN:=Lib.hid hn
 have q0:(0:Int)≤(n1:Int):=Int.natCast_nonneg _
 have q1:(n1:Int)<1000000:=by omega
 have q2a:(0:Int)≤(n2:Int):=Int.natCast_nonneg _
 have q3a:(0:Int)≤(n3:Int):=Int.natCast_nonneg _
 clear hn hn2 hn3 hl h H
 rw [hM] at HS HN HC ⊢
 clear hM
 obtain ⟨L,hL⟩:∃L,namesM Pt.id l P=L:=⟨_,rfl⟩
 have HL:=Lib.hid hL
 rw [hL]
 clear hL
 obtain ⟨no,hno⟩:∃n,L.length=n:=⟨_,rfl⟩
 rw [hno]
 have HNO:=Lib.hid hno
 clear hno
 obtain ⟨W,hW,hu,hb⟩:=one_new w #[.int .u8 k,.int .i64 oa,.int .i64 ob,.int .i64 occ,.int .i64 od,.int .u32 (oi:Int)] 43
 have HW:=Lib.hid hW
 have HU:=Lib.hid hu
 have HB:=Lib.hid hb
 clear hW hu hb
 go_enter Tryz.func30,Tryz.ntmps30
 go_upto_region 1 with fail
 rw [←HW.out]
 clear HW
 generalize w.heap.size=qo at HB ⊢
 have hcc:W.cell? ⟨r,0,none⟩=_∧W.cell? ⟨r,1,none⟩=_∧W.cell? ⟨r,2,none⟩=_∧W.cell? ⟨r,3,none⟩=_:=⟨(HU.out.cell (World.block_lt_of_cell? _ _ HCC.out.1) (by simp)).trans HCC.out.1,(HU.out.cell (World.block_lt_of_cell? _ _ HCC.out.2.1) (by simp)).trans HCC.out.2.1,(HU.out.cell (World.block_lt_of_cell? _ _ HCC.out.2.2.1) (by simp)).trans HCC.out.2.2.1,(HU.out.cell (World.block_lt_of_cell? _ _ HCC.out.2.2.2) (by simp)).trans HCC.out.2.2.2⟩
 have HCW:=Lib.hid hcc
 clear HCC hcc
 obtain ⟨c0,c1,c2,c3⟩:=HCW.out
 obtain ⟨o0,o1,o2,o3,o4,o5⟩:=HB.out.cells6
 go_step
 go_step
 go_step
 go_step
 go_step
 go_step
 go_step
 go_step
 go_cut [5] (fun s5 we=>∃A C,s5=.slice A no C∧See KU we (.slice A no C) L∧Upd [] W we)
 case first=>
  go_wp2_with fail
  go_loopg [5,6] n1 (fun m s5 s6 wr=>∃(i j:Nat) (A:Option Addr) (C:Nat),m+i=n1∧s5=.slice A j C∧s6=.int .i64 (i:Int)∧KU.row wr W.heap.size (.slice A j C) (namesM Pt.id (l.take i) P)∧(namesM Pt.id (l.take i) P).length=j∧Upd [] W wr)
  case atStart=>exact ⟨0,0,none,0,rfl,rfl,rfl,World.ownsRow_nil _ _ _ _,rfl,Upd.refl _ _⟩
  case round=>
   obtain ⟨i,j,A2,C2,hi',rfl,rfl,hrow,hjl,hup⟩:=hrel
   have i0':(0:Int)≤(i:Int):=Int.natCast_nonneg _
   have hji:j≤i:=by rw [←hjl];exact filt_len l P i
   obtain ⟨c0,c1,c2,c3⟩:=HCW.out
   have c0:=(hup.cell (World.block_lt_of_cell? _ _ c0) (by simp)).trans c0
   have c1:=(hup.cell (World.block_lt_of_cell? _ _ c1) (by simp)).trans c1
   have c2:=(hup.cell (World.block_lt_of_cell? _ _ c2) (by simp)).trans c2
   have c3:=(hup.cell (World.block_lt_of_cell? _ _ c3) (by simp)).trans c3
   obtain ⟨o0,o1,o2,o3,o4,o5⟩:=(HB.out.upd hup (by simp)).cells6
   by_cases hlt:i<n1
   ·obtain ⟨x,hx⟩:∃x,l[i]? = some x:=⟨_,List.getElem?_eq_getElem (by rw [HN.out];exact hlt)⟩
    obtain ⟨g,o,rfl,-,-,e0,e1,e2⟩:=KPt.at (HS.out.upd0 (HU.out.trans hup)) hx
    have hrow2:=hrow
    unfold Kind.row at hrow2
    rw [hjl] at hrow2
    have b1:(i:Int)<(n1:Int):=by omega
    have b2:decide (i<n1)=true:=decide_eq_true hlt
    have hwz:=hup.size
    have hj3:(j:Int)<1000000:=by omega
    have j0':(0:Int)≤(j:Int):=Int.natCast_nonneg _
    have HX:=Lib.hid hx
    have HI:=Lib.hid (And.intro hi' (And.intro hup (And.intro hrow2 hjl)))
    clear hi' hup hrow hrow2 hjl hx hlt
    obtain ⟨d14,d15,d20⟩:=HD.out
    have E:=Lib.hid (And.intro e0 (And.intro e1 e2))
    have CX:=Lib.hid (And.intro c1 (And.intro o0 (And.intro o1 (And.intro o2 (And.intro o3 (And.intro o4 o5))))))
    have y0:∀qx:QW wr,qx.w.cell? ⟨r,1,none⟩=some (.slice (some ⟨g,o,none⟩) n1 CP):=fun qx=>(qx.up.cell (World.block_lt_of_cell? _ _ CX.out.1) (by simp)).trans CX.out.1
    have y1:∀qx:QW wr,qx.w.cell? ⟨g,o+i*3,none⟩=some (.int .i64 x.x):=fun qx=>(qx.up.cell (World.block_lt_of_cell? _ _ E.out.1) (by simp)).trans E.out.1
    have y2:∀qx:QW wr,qx.w.cell? ⟨g,o+i*3+1,none⟩=some (.int .i64 x.y):=fun qx=>(qx.up.cell (World.block_lt_of_cell? _ _ E.out.2.1) (by simp)).trans E.out.2.1
    have y3:∀qx:QW wr,qx.w.cell? ⟨g,o+i*3+2,none⟩=some (.int .u32 (x.id:Int)):=fun qx=>(qx.up.cell (World.block_lt_of_cell? _ _ E.out.2.2) (by simp)).trans E.out.2.2
    have z0:∀qx:QW wr,qx.w.cell? ⟨qo,0,none⟩=some (.int .u8 k):=fun qx=>(qx.up.cell (World.block_lt_of_cell? _ _ CX.out.2.1) (by simp)).trans CX.out.2.1
    have z1:∀qx:QW wr,qx.w.cell? ⟨qo,1,none⟩=some (.int .i64 oa):=fun qx=>(qx.up.cell (World.block_lt_of_cell? _ _ CX.out.2.2.1) (by simp)).trans CX.out.2.2.1
    have z2:∀qx:QW wr,qx.w.cell? ⟨qo,2,none⟩=some (.int .i64 ob):=fun qx=>(qx.up.cell (World.block_lt_of_cell? _ _ CX.out.2.2.2.1) (by simp)).trans CX.out.2.2.2.1
    have z3:∀qx:QW wr,qx.w.cell? ⟨qo,3,none⟩=some (.int .i64 occ):=fun qx=>(qx.up.cell (World.block_lt_of_cell? _ _ CX.out.2.2.2.2.1) (by simp)).trans CX.out.2.2.2.2.1
    have z4:∀qx:QW wr,qx.w.cell? ⟨qo,4,none⟩=some (.int .i64 od):=fun qx=>(qx.up.cell (World.block_lt_of_cell? _ _ CX.out.2.2.2.2.2.1) (by simp)).trans CX.out.2.2.2.2.2.1
    have z5:∀qx:QW wr,qx.w.cell? ⟨qo,5,none⟩=some (.int .u32 (oi:Int)):=fun qx=>(qx.up.cell (World.block_lt_of_cell? _ _ CX.out.2.2.2.2.2.2) (by simp)).trans CX.out.2.2.2.2.2.2
    have hcq:=fun qx:QW wr=>HC.out qx.w ((HU.out.trans HI.out.2.1).trans qx.up) _ (List.mem_of_getElem? HX.out)
    obtain ⟨b,hPx⟩:∃b,P x=b:=⟨_,rfl⟩
    simp only [hPx] at hcq
    have HCQ:=Lib.hid hcq
    have HPX:=Lib.hid hPx
    clear hcq hPx e0 e1 e2
    go_upto_region 5 with fail
    clear c0 c1 c2 c3 o0 o1 o2 o3 o4 o5
    refine wp_region_quietU (by kernel_rfl) (by kernel_rfl) ?_
    repeat (go_big_quiet_step (with_reducible exact Calls.quietU (HCQ.out _)))
    refine wpQuiet_nil ?_
    intro wq hw'
    obtain ⟨⟨wy,hwq⟩,hw''⟩:=hw'
    dsimp only at hw''
    subst hw''
    have HWY:=Lib.hid hwq
    have c1:=y0 ⟨wq,HWY.out⟩
    have e2:=y3 ⟨wq,HWY.out⟩
    have hPx:=HPX.out
    dsimp only at c1 e2
    clear hwq y0 y1 y2 y3 z0 z1 z2 z3 z4 z5
    cases b with
    |true=>
     have hwz2:=HWY.out.size
     go_wp2_with (at_builtin;refine wpList_app _ rfl _ _ 34 rfl W.heap.size 41 i0 (.int .u32 0) 1 4 Tryz.underlying34 hi hz0 hz1 hz2 rfl (by decide) _ j (KU.all (namesM Pt.id (l.take i) P)) rfl (own_upd HI.out.2.2.1 (HWY.out.alloc _) (by simp)) _ 1 [.int .u32 (x.id:Int)] rfl (sees_lit wq #[.int .u32 (x.id:Int)] 41 1 1 rfl (by decide)) (by simp [Value.oneCell']) (by unfold maxLen;omega) (by omega) (by simp;omega) ?_)
     intro A3 C3 W3 HP3
     have hrow3:KU.row W3 W.heap.size (.slice A3 (j+1) C3) (namesM Pt.id (l.take (i+1)) P):=by
      rw [filt_next P HX.out,if_pos hPx]
      unfold Kind.row
      rw [List.length_append,HI.out.2.2.2,KU.all_app]
      exact HP3.own
     have hlen3:(namesM Pt.id (l.take (i+1)) P).length=j+1:=by rw [filt_next P HX.out,if_pos hPx,List.length_append,HI.out.2.2.2];rfl
     have hu3:Upd [] W W3:=((HI.out.2.1.trans HWY.out).alloc _).trans' HP3.upd (fun y hy=>.inr (own_ge HI.out.2.2.1 y hy))
     have H3:=Lib.hid (And.intro hrow3 (And.intro hlen3 hu3))
     clear hwz2 hrow3 hlen3 hu3 HP3 c1 e2 hPx
     go_wp2_with fail
     go_roundg (n1 - (i+1))
     case measure=>have:=HI.out.1;omega
     case rel=>exact ⟨i+1,j+1,A3,C3,by have:=HI.out.1;omega,by go_num,by go_num,H3.out.1,H3.out.2.1,H3.out.2.2⟩
    |false=>
     have hlen3:namesM Pt.id (l.take (i+1)) P=namesM Pt.id (l.take i) P:=by rw [filt_next P HX.out,if_neg (by rw [hPx];simp),List.append_nil]
     have H3:=Lib.hid hlen3
     clear hlen3 c1 e2 hPx
     go_wp2_with fail
     go_roundg (n1 - (i+1))
     case measure=>have:=HI.out.1;omega
     case rel=>exact ⟨i+1,j,A2,C2,by have:=HI.out.1;omega,rfl,by go_num,(by rw [H3.out];unfold Kind.row;rw [HI.out.2.2.2];exact own_upd HI.out.2.2.1 HWY.out (by simp)),(by rw [H3.out];exact HI.out.2.2.2),HI.out.2.1.trans HWY.out⟩
   ·have hfin:l.take i=l:=by rw [List.take_of_length_le];rw [HN.out];omega
    rw [hfin,HL.out] at hrow hjl
    have b2:decide (i<n1)=false:=decide_eq_false hlt
    have HF:=Lib.hid (And.intro hrow (And.intro hup hjl))
    clear hrow hup hjl hfin hi' hlt
    go_wp2_with fail
    go_meet
    case rel=>
     have hj:j=no:=HF.out.2.2.symm.trans HNO.out
     refine ⟨A2,C2,by rw [hj],?_,HF.out.2.1⟩
     rw [←HNO.out]
     exact See.of_row (by rw [HNO.out,←hj];exact HF.out.1)
 obtain ⟨Ao,Co,rfl,hro,huo⟩:=hcut
 obtain ⟨wo,rfl⟩:∃W:World,W=wc:=⟨_,rfl⟩
 have HO:=Lib.hid (And.intro hro huo)
 clear hro huo
 obtain ⟨c0,c1,c2,c3⟩:=HCW.out
 have c0:=(HO.out.2.cell (World.block_lt_of_cell? _ _ c0) (by simp)).trans c0
 have c1:=(HO.out.2.cell (World.block_lt_of_cell? _ _ c1) (by simp)).trans c1
 have c2:=(HO.out.2.cell (World.block_lt_of_cell? _ _ c2) (by simp)).trans c2
 have c3:=(HO.out.2.cell (World.block_lt_of_cell? _ _ c3) (by simp)).trans c3
 obtain ⟨o0,o1,o2,o3,o4,o5⟩:=(HB.out.upd HO.out.2 (by simp)).cells6
 go_step
 go_step
 go_cut [5,7] (fun s5 s6 we=>s5=.slice Ao no Co∧wo=we)
 case first=>
  go_wp2_with fail
  go_loopg [5,7] 0 (fun m s5 s wr=>s5=.slice Ao no Co∧s=.int .i64 0∧wo=wr)
  case atStart=>exact ⟨rfl,rfl,rfl⟩
  case round=>
   obtain ⟨rfl,rfl,rfl⟩:=hrel
   by_cases hz:0<n2
   ·have d2:decide (0<n2)=true:=decide_eq_true hz
    go_wp2_with fail
    go_meet
    case rel=>exact ⟨rfl,rfl⟩
   ·have d2:n2=0:=by omega
    subst d2
    go_wp2_with fail
    go_meet
    case rel=>exact ⟨rfl,rfl⟩
 obtain ⟨rfl,rfl⟩:=hcut
 go_step
 go_step
 go_cut [5,9] (fun s5 s6 we=>s5=.slice Ao no Co∧wo=we)
 case first=>
  go_wp2_with fail
  go_loopg [5,9] 0 (fun m s5 s wr=>s5=.slice Ao no Co∧s=.int .i64 0∧wo=wr)
  case atStart=>exact ⟨rfl,rfl,rfl⟩
  case round=>
   obtain ⟨rfl,rfl,rfl⟩:=hrel
   by_cases hz:0<n3
   ·have d3:decide (0<n3)=true:=decide_eq_true hz
    go_wp2_with fail
    go_meet
    case rel=>exact ⟨rfl,rfl⟩
   ·have d3:n3=0:=by omega
    subst d3
    go_wp2_with fail
    go_meet
    case rel=>exact ⟨rfl,rfl⟩
 obtain ⟨rfl,rfl⟩:=hcut
 go_wp2_with fail
 go_ret
 exact ⟨Ao,Co,rfl,HO.out.1,HU.out.trans HO.out.2⟩
theorem rwhich2 {w:World} {r:Nat} {m:Md} {AP AS AB:Option Addr} {CP CS CB:Nat} (h:RMd w r m AP CP AS CS AB CB) (hl:m.ss.length<1000000) (o:OpP) (h15:15≤o.code) (h17:o.code≤17) :
 Calls Tryz.prog 30 #[.pointer (some ⟨r,0,none⟩),opV o] w (NamesPostR w (namesM Sp.id m.ss (fun s=>if o.code=17 then meetB s o.a o.b else stabBM s.lo s.hi o.a))):=by
 obtain ⟨i0,hi,hz0,hz1,hz2⟩:=info_parts info_u32
 unfold NamesPostR opV
 obtain ⟨P,hP⟩:∃P:Sp→Bool,(fun s=>if o.code=17 then meetB s o.a o.b else stabBM s.lo s.hi o.a)=P:=⟨_,rfl⟩
 have hcon:(decide ((o.code:Int)<17)=true∧((o.code:Int)==17)=false∧∀(x:Sp) W,Calls Tryz.prog 60 #[.agg #[.int .i64 x.lo,.int .i64 x.hi,.int .u32 (x.id:Int)],.int .i64 o.a] W fun e w'=>e=.returned (.bool (P x))∧Upd [] W w')∨(decide ((o.code:Int)<17)=false∧((o.code:Int)==17)=true∧∀(x:Sp) W,Calls Tryz.prog 61 #[.agg #[.int .i64 x.lo,.int .i64 x.hi,.int .u32 (x.id:Int)],.int .i64 o.a,.int .i64 o.b] W fun e w'=>e=.returned (.bool (P x))∧Upd [] W w'):=by
  rw [←hP]
  by_cases e:o.code=17
  ·refine .inr ⟨decide_eq_false (by omega),by rw [beq_iff_eq];omega,fun x W=>?_⟩
   dsimp only
   rw [if_pos e]
   exact rmeet2 x.lo x.hi x.id o.a o.b W
  ·refine .inl ⟨decide_eq_true (by omega),by rw [beq_eq_false_iff_ne];omega,fun x W=>?_⟩
   dsimp only
   rw [if_neg e]
   exact rstab2 x.lo x.hi (x.id:Int) o.a W
 have HC:=Lib.hid hcon
 have d14:decide ((o.code:Int)≤14)=false:=decide_eq_false (by omega)
 have d15:decide ((15:Int)≤(o.code:Int))=true:=decide_eq_true (by omega)
 have d17:decide ((o.code:Int)≤17)=true:=decide_eq_true (by omega)
 have d20:((o.code:Int)==20)=false:=by rw [beq_eq_false_iff_ne];omega
 rw [hP]
 clear hP hcon h15 h17
 obtain ⟨ko,oa,ob,occ,od,oi⟩:=o
 dsimp only at HC d14 d15 d17 d20 ⊢
 obtain ⟨k,hk⟩:∃k:Int,(ko:Int)=k:=⟨_,rfl⟩
 rw [hk] at HC d14 d15 d17 d20 ⊢
 clear hk
 have HD:=Lib.hid (And.intro d14 (And.intro d15 (And.intro d17 d20)))
 have H:=Lib.hid h
 obtain ⟨l,hM⟩:∃l,m.ss=l:=⟨_,rfl⟩
 obtain ⟨n2,hn⟩:∃n,m.ss.length=n:=⟨_,rfl⟩
 obtain ⟨n1,hn1⟩:∃n,m.ps.length=n:=⟨_,rfl⟩
 obtain ⟨n3,hn3⟩:∃n,m.bs.length=n:=⟨_,rfl⟩
 have HS:=Lib.hid h.ss
 have HCC:=Lib.hid h.cells
 rw [hn] at HS HCC hl
 rw [hn1,hn3] at HCC
 have HN:=Lib.hid hn
 have q0:(0:Int)≤(n2:Int):=Int.natCast_nonneg _
 have q1:(n2:Int)<1000000:=by omega
 have q1a:(0:Int)≤(n1:Int):=Int.natCast_nonneg _
 have q3a:(0:Int)≤(n3:Int):=Int.natCast_nonneg _
 clear hn hn1 hn3 hl h H
 rw [hM] at HS HN ⊢
 clear hM
 obtain ⟨L,hL⟩:∃L,namesM Sp.id l P=L:=⟨_,rfl⟩
 have HL:=Lib.hid hL
 rw [hL]
 clear hL
 obtain ⟨no,hno⟩:∃n,L.length=n:=⟨_,rfl⟩
 rw [hno]
 have HNO:=Lib.hid hno
 clear hno
 obtain ⟨W,hW,hu,hb⟩:=one_new w #[.int .u8 k,.int .i64 oa,.int .i64 ob,.int .i64 occ,.int .i64 od,.int .u32 (oi:Int)] 43
 have HW:=Lib.hid hW
 have HU:=Lib.hid hu
 have HB:=Lib.hid hb
 clear hW hu hb
 go_enter Tryz.func30,Tryz.ntmps30
 go_upto_region 1 with fail
 rw [←HW.out]
 clear HW
 generalize w.heap.size=qo at HB ⊢
 have hcc:W.cell? ⟨r,0,none⟩=_∧W.cell? ⟨r,1,none⟩=_∧W.cell? ⟨r,2,none⟩=_∧W.cell? ⟨r,3,none⟩=_:=⟨(HU.out.cell (World.block_lt_of_cell? _ _ HCC.out.1) (by simp)).trans HCC.out.1,(HU.out.cell (World.block_lt_of_cell? _ _ HCC.out.2.1) (by simp)).trans HCC.out.2.1,(HU.out.cell (World.block_lt_of_cell? _ _ HCC.out.2.2.1) (by simp)).trans HCC.out.2.2.1,(HU.out.cell (World.block_lt_of_cell? _ _ HCC.out.2.2.2) (by simp)).trans HCC.out.2.2.2⟩
 have HCW:=Lib.hid hcc
 clear HCC hcc
 obtain ⟨c0,c1,c2,c3⟩:=HCW.out
 obtain ⟨o0,o1,o2,o3,o4,o5⟩:=HB.out.cells6
 go_step
 go_step
 go_step
 go_step
 go_step
 go_step
 go_step
 go_step
 go_cut [5,6] (fun s5 s6 we=>s5=.slice none 0 0∧W=we)
 case first=>
  go_wp2_with fail
  go_loopg [5,6] 0 (fun m s5 s wr=>s5=.slice none 0 0∧s=.int .i64 0∧W=wr)
  case atStart=>exact ⟨rfl,rfl,rfl⟩
  case round=>
   obtain ⟨rfl,rfl,rfl⟩:=hrel
   by_cases hz:0<n1
   ·have d1:decide (0<n1)=true:=decide_eq_true hz
    go_wp2_with fail
    go_meet
    case rel=>exact ⟨rfl,rfl⟩
   ·have d1:n1=0:=by omega
    subst d1
    go_wp2_with fail
    go_meet
    case rel=>exact ⟨rfl,rfl⟩
 obtain ⟨rfl,rfl⟩:=hcut
 go_step
 go_step
 go_cut [5] (fun s5 we=>∃A C,s5=.slice A no C∧See KU we (.slice A no C) L∧Upd [] W we)
 case first=>
  go_wp2_with fail
  go_loopg [5,7] n2 (fun m s5 s6 wr=>∃(i j:Nat) (A:Option Addr) (C:Nat),m+i=n2∧s5=.slice A j C∧s6=.int .i64 (i:Int)∧KU.row wr W.heap.size (.slice A j C) (namesM Sp.id (l.take i) P)∧(namesM Sp.id (l.take i) P).length=j∧Upd [] W wr)
  case atStart=>exact ⟨0,0,none,0,rfl,rfl,rfl,World.ownsRow_nil _ _ _ _,rfl,Upd.refl _ _⟩
  case round=>
   obtain ⟨i,j,A2,C2,hi',rfl,rfl,hrow,hjl,hup⟩:=hrel
   have i0':(0:Int)≤(i:Int):=Int.natCast_nonneg _
   have hji:j≤i:=by rw [←hjl];exact filt_len l P i
   obtain ⟨c0,c1,c2,c3⟩:=HCW.out
   have c0:=(hup.cell (World.block_lt_of_cell? _ _ c0) (by simp)).trans c0
   have c1:=(hup.cell (World.block_lt_of_cell? _ _ c1) (by simp)).trans c1
   have c2:=(hup.cell (World.block_lt_of_cell? _ _ c2) (by simp)).trans c2
   have c3:=(hup.cell (World.block_lt_of_cell? _ _ c3) (by simp)).trans c3
   obtain ⟨o0,o1,o2,o3,o4,o5⟩:=(HB.out.upd hup (by simp)).cells6
   by_cases hlt:i<n2
   ·obtain ⟨x,hx⟩:∃x,l[i]? = some x:=⟨_,List.getElem?_eq_getElem (by rw [HN.out];exact hlt)⟩
    obtain ⟨g,o,rfl,-,-,e0,e1,e2⟩:=KSp.at (HS.out.upd0 (HU.out.trans hup)) hx
    have hrow2:=hrow
    unfold Kind.row at hrow2
    rw [hjl] at hrow2
    have b1:(i:Int)<(n2:Int):=by omega
    have b2:decide (i<n2)=true:=decide_eq_true hlt
    have hwz:=hup.size
    have hj3:(j:Int)<1000000:=by omega
    have j0':(0:Int)≤(j:Int):=Int.natCast_nonneg _
    have HX:=Lib.hid hx
    have HI:=Lib.hid (And.intro hi' (And.intro hup (And.intro hrow2 hjl)))
    clear hi' hup hrow hrow2 hjl hx hlt
    obtain ⟨d14,d15,d17,d20⟩:=HD.out
    obtain ⟨W2,hW2,hu2,hq2⟩:=one_new wr #[.int .i64 x.lo,.int .i64 x.hi,.int .u32 (x.id:Int)] 54
    have HW2:=Lib.hid hW2
    have HU2:=Lib.hid hu2
    clear hW2
    go_upto_region 11 with fail
    rw [←HW2.out]
    clear HW2 c0 c1 c2 c3 o0 o1 o2 o3 o4 o5 e0 e1 e2
    generalize wr.heap.size=q3 at hq2 ⊢
    have HQ2:=Lib.hid hq2
    obtain ⟨e0,e1,e2⟩:=hq2.cells3
    obtain ⟨o0,o1,o2,o3,o4,o5⟩:=(HB.out.upd (HI.out.2.1.trans HU2.out) (by simp)).cells6
    clear hq2 hu2
    obtain ⟨b,hPx⟩:∃b,P x=b:=⟨_,rfl⟩
    have HPX:=Lib.hid hPx
    clear hPx
    rcases HC.out with ⟨dl,de,hC⟩ | ⟨dl,de,hC⟩
    all_goals
     have hC:=hC x
     simp only [HPX.out] at hC
     have HC1:=Lib.hid hC
     clear hC
     go_wp2_with fail
     (with_reducible refine (HC1.out _).mono ?_)
     rintro e wy ⟨rfl,hwq⟩
     have HWY:=Lib.hid (HU2.out.trans hwq)
     obtain ⟨e0,e1,e2⟩:=(HQ2.out.upd hwq (by simp)).cells3
     obtain ⟨o0,o1,o2,o3,o4,o5⟩:=(HB.out.upd (HI.out.2.1.trans HWY.out) (by simp)).cells6
     have hPx:=HPX.out
     clear hwq
     cases b with
     |true=>
      have hwz2:=HWY.out.size
      go_wp2_with (at_builtin;refine wpList_app _ rfl _ _ 34 rfl W.heap.size 41 i0 (.int .u32 0) 1 4 Tryz.underlying34 hi hz0 hz1 hz2 rfl (by decide) _ j (KU.all (namesM Sp.id (l.take i) P)) rfl (own_upd HI.out.2.2.1 (HWY.out.alloc _) (by simp)) _ 1 [.int .u32 (x.id:Int)] rfl (sees_lit wy #[.int .u32 (x.id:Int)] 41 1 1 rfl (by decide)) (by simp [Value.oneCell']) (by unfold maxLen;omega) (by omega) (by simp;omega) ?_)
      intro A3 C3 W3 HP3
      have hrow3:KU.row W3 W.heap.size (.slice A3 (j+1) C3) (namesM Sp.id (l.take (i+1)) P):=by
       rw [filt_next P HX.out,if_pos hPx]
       unfold Kind.row
       rw [List.length_append,HI.out.2.2.2,KU.all_app]
       exact HP3.own
      have hlen3:(namesM Sp.id (l.take (i+1)) P).length=j+1:=by rw [filt_next P HX.out,if_pos hPx,List.length_append,HI.out.2.2.2];rfl
      have hu3:Upd [] W W3:=((HI.out.2.1.trans HWY.out).alloc _).trans' HP3.upd (fun y hy=>.inr (own_ge HI.out.2.2.1 y hy))
      have H3:=Lib.hid (And.intro hrow3 (And.intro hlen3 hu3))
      clear hwz2 hrow3 hlen3 hu3 HP3 o0 o1 o2 o3 o4 o5 e0 e1 e2 hPx
      go_wp2_with fail
      go_roundg (n2 - (i+1))
      case measure=>have:=HI.out.1;omega
      case rel=>exact ⟨i+1,j+1,A3,C3,by have:=HI.out.1;omega,by go_num,by go_num,H3.out.1,H3.out.2.1,H3.out.2.2⟩
     |false=>
      have hlen3:namesM Sp.id (l.take (i+1)) P=namesM Sp.id (l.take i) P:=by rw [filt_next P HX.out,if_neg (by rw [hPx];simp),List.append_nil]
      have H3:=Lib.hid hlen3
      clear hlen3 hPx
      go_wp2_with fail
      go_roundg (n2 - (i+1))
      case measure=>have:=HI.out.1;omega
      case rel=>exact ⟨i+1,j,A2,C2,by have:=HI.out.1;omega,rfl,by go_num,(by rw [H3.out];unfold Kind.row;rw [HI.out.2.2.2];exact own_upd HI.out.2.2.1 HWY.out (by simp)),(by rw [H3.out];exact HI.out.2.2.2),HI.out.2.1.trans HWY.out⟩
   ·have hfin:l.take i=l:=by rw [List.take_of_length_le];rw [HN.out];omega
    rw [hfin,HL.out] at hrow hjl
    have b2:decide (i<n2)=false:=decide_eq_false hlt
    have HF:=Lib.hid (And.intro hrow (And.intro hup hjl))
    clear hrow hup hjl hfin hi' hlt
    go_wp2_with fail
    go_meet
    case rel=>
     have hj:j=no:=HF.out.2.2.symm.trans HNO.out
     refine ⟨A2,C2,by rw [hj],?_,HF.out.2.1⟩
     rw [←HNO.out]
     exact See.of_row (by rw [HNO.out,←hj];exact HF.out.1)
 obtain ⟨Ao,Co,rfl,hro,huo⟩:=hcut
 obtain ⟨wo,rfl⟩:∃W:World,W=wc:=⟨_,rfl⟩
 have HO:=Lib.hid (And.intro hro huo)
 clear hro huo
 obtain ⟨c0,c1,c2,c3⟩:=HCW.out
 have c0:=(HO.out.2.cell (World.block_lt_of_cell? _ _ c0) (by simp)).trans c0
 have c1:=(HO.out.2.cell (World.block_lt_of_cell? _ _ c1) (by simp)).trans c1
 have c2:=(HO.out.2.cell (World.block_lt_of_cell? _ _ c2) (by simp)).trans c2
 have c3:=(HO.out.2.cell (World.block_lt_of_cell? _ _ c3) (by simp)).trans c3
 obtain ⟨o0,o1,o2,o3,o4,o5⟩:=(HB.out.upd HO.out.2 (by simp)).cells6
 go_step
 go_step
 go_cut [5,9] (fun s5 s6 we=>s5=.slice Ao no Co∧wo=we)
 case first=>
  go_wp2_with fail
  go_loopg [5,9] 0 (fun m s5 s wr=>s5=.slice Ao no Co∧s=.int .i64 0∧wo=wr)
  case atStart=>exact ⟨rfl,rfl,rfl⟩
  case round=>
   obtain ⟨rfl,rfl,rfl⟩:=hrel
   by_cases hz:0<n3
   ·have d3:decide (0<n3)=true:=decide_eq_true hz
    go_wp2_with fail
    go_meet
    case rel=>exact ⟨rfl,rfl⟩
   ·have d3:n3=0:=by omega
    subst d3
    go_wp2_with fail
    go_meet
    case rel=>exact ⟨rfl,rfl⟩
 obtain ⟨rfl,rfl⟩:=hcut
 go_wp2_with fail
 go_ret
 exact ⟨Ao,Co,rfl,HO.out.1,HU.out.trans HO.out.2⟩
theorem rwhich3 {w:World} {r:Nat} {m:Md} {AP AS AB:Option Addr} {CP CS CB:Nat} (h:RMd w r m AP CP AS CS AB CB) (hl:m.bs.length<1000000) (o:OpP) (h20:o.code=20) :
 Calls Tryz.prog 30 #[.pointer (some ⟨r,0,none⟩),opV o] w (NamesPostR w (namesM Bx.id m.bs (fun b=>inBM b o.a o.b))):=by
 obtain ⟨i0,hi,hz0,hz1,hz2⟩:=info_parts info_u32
 unfold NamesPostR opV
 obtain ⟨P,hP⟩:∃P:Bx→Bool,(fun b=>inBM b o.a o.b)=P:=⟨_,rfl⟩
 have hcon:∀(x:Bx) W,Calls Tryz.prog 62 #[.agg #[.int .i64 o.a,.int .i64 o.b,.int .u32 0],.agg #[.int .i64 x.x1,.int .i64 x.x2,.int .i64 x.y1,.int .i64 x.y2,.int .u32 (x.id:Int)]] W fun e w'=>e=.returned (.bool (P x))∧Upd [] W w':=fun x W=>by
  rw [←hP]
  exact rin2 x o.a o.b 0 W
 have HC:=Lib.hid hcon
 have d14:decide ((o.code:Int)≤14)=false:=decide_eq_false (by omega)
 have d15:decide ((15:Int)≤(o.code:Int))=true:=decide_eq_true (by omega)
 have d17:decide ((o.code:Int)≤17)=false:=decide_eq_false (by omega)
 have d20:((o.code:Int)==20)=true:=by rw [beq_iff_eq];omega
 rw [hP]
 clear hP hcon h20
 obtain ⟨ko,oa,ob,occ,od,oi⟩:=o
 dsimp only at HC d14 d15 d17 d20 ⊢
 obtain ⟨k,hk⟩:∃k:Int,(ko:Int)=k:=⟨_,rfl⟩
 rw [hk] at d14 d15 d17 d20 ⊢
 clear hk
 have HD:=Lib.hid (And.intro d14 (And.intro d15 (And.intro d17 d20)))
 have H:=Lib.hid h
 obtain ⟨l,hM⟩:∃l,m.bs=l:=⟨_,rfl⟩
 obtain ⟨n3,hn⟩:∃n,m.bs.length=n:=⟨_,rfl⟩
 obtain ⟨n1,hn1⟩:∃n,m.ps.length=n:=⟨_,rfl⟩
 obtain ⟨n2,hn2⟩:∃n,m.ss.length=n:=⟨_,rfl⟩
 have HS:=Lib.hid h.bs
 have HCC:=Lib.hid h.cells
 rw [hn] at HS HCC hl
 rw [hn1,hn2] at HCC
 have HN:=Lib.hid hn
 have q0:(0:Int)≤(n3:Int):=Int.natCast_nonneg _
 have q1:(n3:Int)<1000000:=by omega
 have q1a:(0:Int)≤(n1:Int):=Int.natCast_nonneg _
 have q2a:(0:Int)≤(n2:Int):=Int.natCast_nonneg _
 clear hn hn1 hn2 hl h H
 rw [hM] at HS HN ⊢
 clear hM
 obtain ⟨L,hL⟩:∃L,namesM Bx.id l P=L:=⟨_,rfl⟩
 have HL:=Lib.hid hL
 rw [hL]
 clear hL
 obtain ⟨no,hno⟩:∃n,L.length=n:=⟨_,rfl⟩
 rw [hno]
 have HNO:=Lib.hid hno
 clear hno
 obtain ⟨W,hW,hu,hb⟩:=one_new w #[.int .u8 k,.int .i64 oa,.int .i64 ob,.int .i64 occ,.int .i64 od,.int .u32 (oi:Int)] 43
 have HW:=Lib.hid hW
 have HU:=Lib.hid hu
 have HB:=Lib.hid hb
 clear hW hu hb
 go_enter Tryz.func30,Tryz.ntmps30
 go_upto_region 1 with fail
 rw [←HW.out]
 clear HW
 generalize w.heap.size=qo at HB ⊢
 have hcc:W.cell? ⟨r,0,none⟩=_∧W.cell? ⟨r,1,none⟩=_∧W.cell? ⟨r,2,none⟩=_∧W.cell? ⟨r,3,none⟩=_:=⟨(HU.out.cell (World.block_lt_of_cell? _ _ HCC.out.1) (by simp)).trans HCC.out.1,(HU.out.cell (World.block_lt_of_cell? _ _ HCC.out.2.1) (by simp)).trans HCC.out.2.1,(HU.out.cell (World.block_lt_of_cell? _ _ HCC.out.2.2.1) (by simp)).trans HCC.out.2.2.1,(HU.out.cell (World.block_lt_of_cell? _ _ HCC.out.2.2.2) (by simp)).trans HCC.out.2.2.2⟩
 have HCW:=Lib.hid hcc
 clear HCC hcc
 obtain ⟨c0,c1,c2,c3⟩:=HCW.out
 obtain ⟨o0,o1,o2,o3,o4,o5⟩:=HB.out.cells6
 go_step
 go_step
 go_step
 go_step
 go_step
 go_step
 go_step
 go_step
 go_cut [5,6] (fun s5 s6 we=>s5=.slice none 0 0∧W=we)
 case first=>
  go_wp2_with fail
  go_loopg [5,6] 0 (fun m s5 s wr=>s5=.slice none 0 0∧s=.int .i64 0∧W=wr)
  case atStart=>exact ⟨rfl,rfl,rfl⟩
  case round=>
   obtain ⟨rfl,rfl,rfl⟩:=hrel
   by_cases hz:0<n1
   ·have d1:decide (0<n1)=true:=decide_eq_true hz
    go_wp2_with fail
    go_meet
    case rel=>exact ⟨rfl,rfl⟩
   ·have d1:n1=0:=by omega
    subst d1
    go_wp2_with fail
    go_meet
    case rel=>exact ⟨rfl,rfl⟩
 obtain ⟨rfl,rfl⟩:=hcut
 go_step
 go_step
 go_cut [5,7] (fun s5 s6 we=>s5=.slice none 0 0∧W=we)
 case first=>
  go_wp2_with fail
  go_loopg [5,7] 0 (fun m s5 s wr=>s5=.slice none 0 0∧s=.int .i64 0∧W=wr)
  case atStart=>exact ⟨rfl,rfl,rfl⟩
  case round=>
   obtain ⟨rfl,rfl,rfl⟩:=hrel
   by_cases hz:0<n2
   ·have d2:decide (0<n2)=true:=decide_eq_true hz
    go_wp2_with fail
    go_meet
    case rel=>exact ⟨rfl,rfl⟩
   ·have d2:n2=0:=by omega
    subst d2
    go_wp2_with fail
    go_meet
    case rel=>exact ⟨rfl,rfl⟩
 obtain ⟨rfl,rfl⟩:=hcut
 go_step
 go_step
 go_cut [5] (fun s5 we=>∃A C,s5=.slice A no C∧See KU we (.slice A no C) L∧Upd [] W we)
 case first=>
  go_wp2_with fail
  go_loopg [5,9] n3 (fun m s5 s6 wr=>∃(i j:Nat) (A:Option Addr) (C:Nat),m+i=n3∧s5=.slice A j C∧s6=.int .i64 (i:Int)∧KU.row wr W.heap.size (.slice A j C) (namesM Bx.id (l.take i) P)∧(namesM Bx.id (l.take i) P).length=j∧Upd [] W wr)
  case atStart=>exact ⟨0,0,none,0,rfl,rfl,rfl,World.ownsRow_nil _ _ _ _,rfl,Upd.refl _ _⟩
  case round=>
   obtain ⟨i,j,A2,C2,hi',rfl,rfl,hrow,hjl,hup⟩:=hrel
   have i0':(0:Int)≤(i:Int):=Int.natCast_nonneg _
   have hji:j≤i:=by rw [←hjl];exact filt_len l P i
   obtain ⟨c0,c1,c2,c3⟩:=HCW.out
   have c0:=(hup.cell (World.block_lt_of_cell? _ _ c0) (by simp)).trans c0
   have c1:=(hup.cell (World.block_lt_of_cell? _ _ c1) (by simp)).trans c1
   have c2:=(hup.cell (World.block_lt_of_cell? _ _ c2) (by simp)).trans c2
   have c3:=(hup.cell (World.block_lt_of_cell? _ _ c3) (by simp)).trans c3
   obtain ⟨o0,o1,o2,o3,o4,o5⟩:=(HB.out.upd hup (by simp)).cells6
   by_cases hlt:i<n3
   ·obtain ⟨x,hx⟩:∃x,l[i]? = some x:=⟨_,List.getElem?_eq_getElem (by rw [HN.out];exact hlt)⟩
    obtain ⟨g,o,rfl,-,-,e0,e1,e2,e3,e4⟩:=KBx.at (HS.out.upd0 (HU.out.trans hup)) hx
    have hrow2:=hrow
    unfold Kind.row at hrow2
    rw [hjl] at hrow2
    have b1:(i:Int)<(n3:Int):=by omega
    have b2:decide (i<n3)=true:=decide_eq_true hlt
    have hwz:=hup.size
    have hj3:(j:Int)<1000000:=by omega
    have j0':(0:Int)≤(j:Int):=Int.natCast_nonneg _
    have HX:=Lib.hid hx
    have HI:=Lib.hid (And.intro hi' (And.intro hup (And.intro hrow2 hjl)))
    clear hi' hup hrow hrow2 hjl hx hlt
    obtain ⟨d14,d15,d17,d20⟩:=HD.out
    have E:=Lib.hid (And.intro e0 (And.intro e1 (And.intro e2 (And.intro e3 e4))))
    have CX:=Lib.hid (And.intro c3 (And.intro o0 (And.intro o1 (And.intro o2 (And.intro o3 (And.intro o4 o5))))))
    have y0:∀qx:QW wr,qx.w.cell? ⟨r,3,none⟩=some (.slice (some ⟨g,o,none⟩) n3 CB):=fun qx=>(qx.up.cell (World.block_lt_of_cell? _ _ CX.out.1) (by simp)).trans CX.out.1
    have y1:∀qx:QW wr,qx.w.cell? ⟨g,o+i*5,none⟩=some (.int .i64 x.x1):=fun qx=>(qx.up.cell (World.block_lt_of_cell? _ _ E.out.1) (by simp)).trans E.out.1
    have y2:∀qx:QW wr,qx.w.cell? ⟨g,o+i*5+1,none⟩=some (.int .i64 x.x2):=fun qx=>(qx.up.cell (World.block_lt_of_cell? _ _ E.out.2.1) (by simp)).trans E.out.2.1
    have y3:∀qx:QW wr,qx.w.cell? ⟨g,o+i*5+2,none⟩=some (.int .i64 x.y1):=fun qx=>(qx.up.cell (World.block_lt_of_cell? _ _ E.out.2.2.1) (by simp)).trans E.out.2.2.1
    have y4:∀qx:QW wr,qx.w.cell? ⟨g,o+i*5+3,none⟩=some (.int .i64 x.y2):=fun qx=>(qx.up.cell (World.block_lt_of_cell? _ _ E.out.2.2.2.1) (by simp)).trans E.out.2.2.2.1
    have y5:∀qx:QW wr,qx.w.cell? ⟨g,o+i*5+4,none⟩=some (.int .u32 (x.id:Int)):=fun qx=>(qx.up.cell (World.block_lt_of_cell? _ _ E.out.2.2.2.2) (by simp)).trans E.out.2.2.2.2
    have z0:∀qx:QW wr,qx.w.cell? ⟨qo,0,none⟩=some (.int .u8 k):=fun qx=>(qx.up.cell (World.block_lt_of_cell? _ _ CX.out.2.1) (by simp)).trans CX.out.2.1
    have z1:∀qx:QW wr,qx.w.cell? ⟨qo,1,none⟩=some (.int .i64 oa):=fun qx=>(qx.up.cell (World.block_lt_of_cell? _ _ CX.out.2.2.1) (by simp)).trans CX.out.2.2.1
    have z2:∀qx:QW wr,qx.w.cell? ⟨qo,2,none⟩=some (.int .i64 ob):=fun qx=>(qx.up.cell (World.block_lt_of_cell? _ _ CX.out.2.2.2.1) (by simp)).trans CX.out.2.2.2.1
    have z3:∀qx:QW wr,qx.w.cell? ⟨qo,3,none⟩=some (.int .i64 occ):=fun qx=>(qx.up.cell (World.block_lt_of_cell? _ _ CX.out.2.2.2.2.1) (by simp)).trans CX.out.2.2.2.2.1
    have z4:∀qx:QW wr,qx.w.cell? ⟨qo,4,none⟩=some (.int .i64 od):=fun qx=>(qx.up.cell (World.block_lt_of_cell? _ _ CX.out.2.2.2.2.2.1) (by simp)).trans CX.out.2.2.2.2.2.1
    have z5:∀qx:QW wr,qx.w.cell? ⟨qo,5,none⟩=some (.int .u32 (oi:Int)):=fun qx=>(qx.up.cell (World.block_lt_of_cell? _ _ CX.out.2.2.2.2.2.2) (by simp)).trans CX.out.2.2.2.2.2.2
    have hcq:=fun qx:QW wr=>HC.out x qx.w
    obtain ⟨b,hPx⟩:∃b,P x=b:=⟨_,rfl⟩
    simp only [hPx] at hcq
    have HCQ:=Lib.hid hcq
    have HPX:=Lib.hid hPx
    clear hcq hPx e0 e1 e2 e3 e4
    go_upto_region 16 with fail
    clear c0 c1 c2 c3 o0 o1 o2 o3 o4 o5
    refine wp_region_quietU (by kernel_rfl) (by kernel_rfl) ?_
    repeat (go_big_quiet_step (with_reducible exact Calls.quietU (HCQ.out _)))
    refine wpQuiet_nil ?_
    intro wq hw'
    obtain ⟨⟨wy,hwq⟩,hw''⟩:=hw'
    dsimp only at hw''
    subst hw''
    have HWY:=Lib.hid hwq
    have c3:=y0 ⟨wq,HWY.out⟩
    have e4:=y5 ⟨wq,HWY.out⟩
    have hPx:=HPX.out
    dsimp only at c3 e4
    clear hwq y0 y1 y2 y3 y4 y5 z0 z1 z2 z3 z4 z5
    cases b with
    |true=>
     have hwz2:=HWY.out.size
     go_wp2_with (at_builtin;refine wpList_app _ rfl _ _ 34 rfl W.heap.size 41 i0 (.int .u32 0) 1 4 Tryz.underlying34 hi hz0 hz1 hz2 rfl (by decide) _ j (KU.all (namesM Bx.id (l.take i) P)) rfl (own_upd HI.out.2.2.1 (HWY.out.alloc _) (by simp)) _ 1 [.int .u32 (x.id:Int)] rfl (sees_lit wq #[.int .u32 (x.id:Int)] 41 1 1 rfl (by decide)) (by simp [Value.oneCell']) (by unfold maxLen;omega) (by omega) (by simp;omega) ?_)
     intro A3 C3 W3 HP3
     have hrow3:KU.row W3 W.heap.size (.slice A3 (j+1) C3) (namesM Bx.id (l.take (i+1)) P):=by
      rw [filt_next P HX.out,if_pos hPx]
      unfold Kind.row
      rw [List.length_append,HI.out.2.2.2,KU.all_app]
      exact HP3.own
     have hlen3:(namesM Bx.id (l.take (i+1)) P).length=j+1:=by rw [filt_next P HX.out,if_pos hPx,List.length_append,HI.out.2.2.2];rfl
     have hu3:Upd [] W W3:=((HI.out.2.1.trans HWY.out).alloc _).trans' HP3.upd (fun y hy=>.inr (own_ge HI.out.2.2.1 y hy))
     have H3:=Lib.hid (And.intro hrow3 (And.intro hlen3 hu3))
     clear hwz2 hrow3 hlen3 hu3 HP3 c3 e4 hPx
     go_wp2_with fail
     go_roundg (n3 - (i+1))
     case measure=>have:=HI.out.1;omega
     case rel=>exact ⟨i+1,j+1,A3,C3,by have:=HI.out.1;omega,by go_num,by go_num,H3.out.1,H3.out.2.1,H3.out.2.2⟩
    |false=>
     have hlen3:namesM Bx.id (l.take (i+1)) P=namesM Bx.id (l.take i) P:=by rw [filt_next P HX.out,if_neg (by rw [hPx];simp),List.append_nil]
     have H3:=Lib.hid hlen3
     clear hlen3 c3 e4 hPx
     go_wp2_with fail
     go_roundg (n3 - (i+1))
     case measure=>have:=HI.out.1;omega
     case rel=>exact ⟨i+1,j,A2,C2,by have:=HI.out.1;omega,rfl,by go_num,(by rw [H3.out];unfold Kind.row;rw [HI.out.2.2.2];exact own_upd HI.out.2.2.1 HWY.out (by simp)),(by rw [H3.out];exact HI.out.2.2.2),HI.out.2.1.trans HWY.out⟩
   ·have hfin:l.take i=l:=by rw [List.take_of_length_le];rw [HN.out];omega
    rw [hfin,HL.out] at hrow hjl
    have b2:decide (i<n3)=false:=decide_eq_false hlt
    have HF:=Lib.hid (And.intro hrow (And.intro hup hjl))
    clear hrow hup hjl hfin hi' hlt
    go_wp2_with fail
    go_meet
    case rel=>
     have hj:j=no:=HF.out.2.2.symm.trans HNO.out
     refine ⟨A2,C2,by rw [hj],?_,HF.out.2.1⟩
     rw [←HNO.out]
     exact See.of_row (by rw [HNO.out,←hj];exact HF.out.1)
 obtain ⟨Ao,Co,rfl,hro,huo⟩:=hcut
 obtain ⟨wo,rfl⟩:∃W:World,W=wc:=⟨_,rfl⟩
 have HO:=Lib.hid (And.intro hro huo)
 clear hro huo
 obtain ⟨c0,c1,c2,c3⟩:=HCW.out
 have c0:=(HO.out.2.cell (World.block_lt_of_cell? _ _ c0) (by simp)).trans c0
 have c1:=(HO.out.2.cell (World.block_lt_of_cell? _ _ c1) (by simp)).trans c1
 have c2:=(HO.out.2.cell (World.block_lt_of_cell? _ _ c2) (by simp)).trans c2
 have c3:=(HO.out.2.cell (World.block_lt_of_cell? _ _ c3) (by simp)).trans c3
 obtain ⟨o0,o1,o2,o3,o4,o5⟩:=(HB.out.upd HO.out.2 (by simp)).cells6
 go_wp2_with fail
 go_ret
 exact ⟨Ao,Co,rfl,HO.out.1,HU.out.trans HO.out.2⟩
end Go.Proofs.YtkmnbodlciepaaaGreat
