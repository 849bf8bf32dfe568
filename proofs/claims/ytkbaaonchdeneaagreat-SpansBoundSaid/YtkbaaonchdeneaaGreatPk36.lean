/- seg.Build. Printed by mksegb.py. -/
import Derived.Test.YtkbaaonchdeneaaGreatPkSpansTellP10
import Derived.Test.YtkbaaonchdeneaaGreatPk19
set_option maxHeartbeats 8000000
set_option maxRecDepth 100000
namespace Go.Proofs.YtkbaaonchdeneaaGreat
open Go.RowKit
attribute [local go_sem ↓] Go.wp_at_zero Go.wp_at_succ
structure IsSeg (w:World) (b:Nat) (F:List Nat) (E:List Int) (S:List Sp):Prop where
 at_:∃fb ve vn va vs,SegAt w b fb ve vn va vs E (atS E S) (S.length:Int)∧(∀k,k=b∨k=fb∨k∈blk ve∨k∈blk vn∨k∈rfoot va vs→k∈F)
 rise:E.Pairwise (· < ·)
 len:E.length≤2000
 ok:∀s∈S,SpOk E s
 names:(S.map Sp.id).Nodup
 many:S.length≤1000
 flt:∀k∈F,k<w.heap.size
theorem segBuildBad (v:Value) (l:List Sp) (w:World) (h:See KSp w v l) (hid:∀s∈l,s.id<4294967296) (hl:l.length≤1000) (hr:rightS l=false) :
 Calls Tryz.prog 138 #[v] w fun e w'=>Upd [] w w'∧e=.returned (.tuple #[.pointer none,.int .i64 2]):=by
 obtain ⟨A,C,rfl⟩:=h.form
 have hri:=segRight _ l w h hid (by omega)
 rw [hr] at hri
 obtain ⟨N,hN⟩:∃N,l.length=N:=⟨_,rfl⟩
 rw [hN] at hri hl ⊢
 have HR:=Lib.hid hri
 have b0:(0:Int)≤(N:Int):=Int.natCast_nonneg _
 have b1:(N:Int)≤1000:=by omega
 clear h hid hr hN hri
 go_enter Tryz.func138,Tryz.ntmps138
 go_wp2_with fail
 (with_reducible refine HR.out.mono ?_)
 rintro e w1 ⟨rfl,u1⟩
 have HU:=Lib.hid u1
 clear u1
 go_wp2_with fail
 go_ret2
 exact ⟨HU.out,rfl⟩
theorem putsS_row_le {E:List Int} {S:List Sp} {x:Sp} {L:List Nat} {p:Nat} {Rp:List Sp} (hn:L.Nodup) (h:(putsS x (atS E S) L)[p]? = some Rp):Rp.length≤S.length+1:=by
 rw [putsS_at x L _ p hn] at h
 rcases Nat.lt_or_ge p (2*nSl E - 1) with hp | hp
 ·rw [atS_at hp] at h
  simp only [Option.map_some,Option.some.injEq] at h
  have:=List.length_filter_le (fun s=>decide (p∈nodesS E s)) S
  subst h
  split
  ·rw [List.length_append];simp;omega
  ·omega
 ·rw [List.getElem?_eq_none (by rw [atS_len];exact hp)] at h
  cases h
def KeepS (w:World) (b ga p q:Nat) (va row:Value) (x:Sp):Prop:=
 w.cell? ⟨b,2,none⟩=some va∧w.cell? ⟨ga,p,none⟩=some row∧w.cell? ⟨q,0,none⟩=some (.int .i64 x.lo)∧w.cell? ⟨q,1,none⟩=some (.int .i64 x.hi)∧w.cell? ⟨q,2,none⟩=some (.int .u32 (x.id:Int))
theorem KeepS.upd {w w':World} {b ga p q:Nat} {va row:Value} {x:Sp} (h:KeepS w b ga p q va row x) {F:List Nat} (hu:Upd F w w') (h1:b∉F) (h2:ga∉F) (h3:q∉F):KeepS w' b ga p q va row x:=by
 obtain ⟨a1,a2,a3,a4,a5⟩:=h
 exact ⟨(hu.cell (p:=⟨b,2,none⟩) (World.block_lt_of_cell? _ _ a1) h1).trans a1,(hu.cell (p:=⟨ga,p,none⟩) (World.block_lt_of_cell? _ _ a2) h2).trans a2,
  (hu.cell (p:=⟨q,0,none⟩) (World.block_lt_of_cell? _ _ a3) h3).trans a3,(hu.cell (p:=⟨q,1,none⟩) (World.block_lt_of_cell? _ _ a4) h3).trans a4,(hu.cell (p:=⟨q,2,none⟩) (World.block_lt_of_cell? _ _ a5) h3).trans a5⟩
theorem KeepS.upd0 {w w':World} {b ga p q:Nat} {va row:Value} {x:Sp} (h:KeepS w b ga p q va row x) (hu:Upd [] w w'):KeepS w' b ga p q va row x:=h.upd hu (by simp) (by simp) (by simp)
theorem segBuildOk (v:Value) (l:List Sp) (w:World) (h:See KSp w v l) (hid:∀s∈l,s.id<4294967296) (hl:l.length≤1000) (hr:rightS l=true) :
 Calls Tryz.prog 138 #[v] w fun e w'=>Upd [] w w'∧∃b F,e=.returned (.tuple #[.pointer (some ⟨b,0,none⟩),.int .i64 0])∧IsSeg w' b F (endsS l) l∧∀k∈F,w.heap.size≤k:=by
 obtain ⟨A,C,rfl⟩:=h.form
 have hri:=segRight _ l w h hid (by omega)
 rw [hr] at hri
 obtain ⟨hr1,hr2⟩:=rightS_iff.1 hr
 obtain ⟨N,hN⟩:∃N,l.length=N:=⟨_,rfl⟩
 rw [hN] at hri hl ⊢
 obtain ⟨i0,hi0,hz0,hz1,hz2⟩:=info_parts infoLongS
 obtain ⟨i1,hi1,hy0,hy1,hy2⟩:=info_parts infoSpanS
 have HR:=Lib.hid hri
 have H:=Lib.hid h
 have HN:=Lib.hid hN
 have HR1:=Lib.hid (And.intro hr1 hr2)
 obtain ⟨E,hEE⟩:∃E,endsS l=E:=⟨_,rfl⟩
 rw [hEE]
 have HEE:=Lib.hid hEE
 clear hEE
 have b0:(0:Int)≤(N:Int):=Int.natCast_nonneg _
 have b1:(N:Int)≤1000:=by omega
 clear h hid hr hN hri hr1 hr2
 go_enter Tryz.func138,Tryz.ntmps138
 go_wp2_with fail
 (with_reducible refine HR.out.mono ?_)
 rintro e w1 ⟨rfl,u1⟩
 have HU:=Lib.hid u1
 clear u1
 go_wp2_with fail
 go_loopg [4,22] N (fun m s4 s22 wr=>∃(k:Nat) (vo:Value),m+k=N∧s4=vo∧s22=.int .i64 (k:Int)∧KL.row wr w1.heap.size vo (endsL (l.take k))∧Upd [] w1 wr)
 case atStart=>exact ⟨0,_,rfl,rfl,rfl,World.ownsRow_nil _ _ _ _,Upd.refl _ _⟩
 case round=>
  obtain ⟨k,vo,hk,rfl,rfl,hrow,hup⟩:=hrel
  have k0:(0:Int)≤(k:Int):=Int.natCast_nonneg _
  have hkN:k≤N:=by omega
  have hwz:=hup.size
  have HK:=Lib.hid hk
  have HROW:=Lib.hid hrow
  have HUP:=Lib.hid hup
  clear hk hrow hup
  by_cases hlt:k<N
  ·obtain ⟨s,hs⟩:∃s,l[k]? = some s:=⟨_,List.getElem?_eq_getElem (by rw [HN.out];exact hlt)⟩
   have hse:See KSp wr (.slice A l.length C) l:=H.out.upd0 (HU.out.trans HUP.out)
   obtain ⟨g,o,rfl,-,-,ey⟩:=hse.at hs
   have htk:endsL (l.take (k+1))=endsL (l.take k)++[s.lo,s.hi]:=by
    obtain ⟨h1,h2⟩:=List.getElem?_eq_some_iff.1 hs
    rw [List.take_succ_eq_append_getElem h1,h2,endsL_app]
    simp [endsL]
   have hlen:(endsL (l.take k)).length=2*k:=by rw [endsL_len,List.length_take,HN.out];omega
   have y0:wr.cell? ⟨g,o+k*3,none⟩=some (.int .i64 s.lo):=ey 0 _ rfl
   have y1:wr.cell? ⟨g,o+k*3+1,none⟩=some (.int .i64 s.hi):=ey 1 _ rfl
   have y2:wr.cell? ⟨g,o+k*3+2,none⟩=some (.int .u32 (s.id:Int)):=ey 2 _ rfl
   have b2:(k:Int)<(N:Int):=by omega
   have HTK:=Lib.hid htk
   have HLE:=Lib.hid hlen
   have hrow2:=HROW.out
   unfold Kind.row at hrow2
   rw [hlen] at hrow2
   have HR2:=Lib.hid hrow2
   clear hs hse ey htk hlen hrow2
   obtain ⟨wl,hwl⟩:∃wl:World,wl=wr:=⟨_,rfl⟩
   subst hwl
   go_upto_region 9 with fail
   have hu2:Upd [] wl (wl.alloc (.cells #[.int .i64 s.lo,.int .i64 s.hi,.int .u32 (s.id:Int)] 62)):=(Upd.refl _ _).alloc _
   have d0:(wl.alloc (.cells #[.int .i64 s.lo,.int .i64 s.hi,.int .u32 (s.id:Int)] 62)).cell? ⟨wl.heap.size,0,none⟩=some (.int .i64 s.lo):=by rw [World.cell?_alloc_at _ _ _ _ rfl];rfl
   have d1:(wl.alloc (.cells #[.int .i64 s.lo,.int .i64 s.hi,.int .u32 (s.id:Int)] 62)).cell? ⟨wl.heap.size,1,none⟩=some (.int .i64 s.hi):=by rw [World.cell?_alloc_at _ _ _ _ rfl];rfl
   generalize (wl.alloc (.cells #[.int .i64 s.lo,.int .i64 s.hi,.int .u32 (s.id:Int)] 62))=W2 at hu2 d0 d1 ⊢
   have hwz2:w1.heap.size≤W2.heap.size:=Nat.le_trans hwz hu2.size
   have HU2:=Lib.hid (HUP.out.trans hu2)
   have HR3:=Lib.hid (own_upd HR2.out hu2 (by simp))
   clear hu2 y0 y1 y2
   go_wp2_with (at_builtin;refine wpList_app _ rfl _ _ 57 rfl w1.heap.size 2 i0 (.int .i64 0) 1 8 Tryz.underlying57 hi0 hz0 hz1 hz2 rfl (by decide) _ (2*k) (KL.all (endsL (l.take k))) rfl (own_upd HR3.out ((Upd.refl [] _).alloc _) (by simp)) _ 2 [.int .i64 s.lo,.int .i64 s.hi] rfl (sees_lit W2 #[.int .i64 s.lo,.int .i64 s.hi] 2 1 2 rfl (by decide)) (by simp [Value.oneCell']) (by unfold maxLen;omega) (by omega) (by simp;omega) ?_)
   intro A2 C2 W3 HP3
   have HP4:=Lib.hid HP3
   clear HP3 d0 d1
   go_wp2_with fail
   go_roundg (N - (k+1))
   case measure=>have:=HK.out;omega
   case rel=>
    have hu3:=((Upd.refl _ W2).alloc (.cells #[.int .i64 s.lo,.int .i64 s.hi] 2)).trans HP4.out.upd
    refine ⟨k+1,_,by have:=HK.out;omega,rfl,by go_num,?_,HU2.out.trans' hu3 (fun y hy=>.inr (own_ge HR3.out y hy))⟩
    rw [HTK.out]
    unfold Kind.row
    rw [List.length_append,HLE.out,KL.all_app]
    exact HP4.out.own
  ·have hkN':k=N:=by omega
   have hL':l.take k=l:=by rw [hkN',←HN.out];exact List.take_length
   have hrow:=HROW.out
   rw [hL'] at hrow
   obtain ⟨Ae,Ce,rfl⟩:=own_form hrow
   have hle:=endsL_len l
   rw [HN.out] at hle
   have hsq:=squeezeC _ (endsL l) wr (See.of_row hrow) (by omega)
   rw [hle] at hsq
   rw [hle]
   have HSQ:=Lib.hid hsq
   have HUW:=Lib.hid (HU.out.trans HUP.out)
   clear hL' hrow hsq hle hkN'
   go_wp2_with fail
   (with_reducible refine HSQ.out.mono ?_)
   rintro e w2 ⟨A2,C2,rfl,s1,s2⟩
   have hE1:(sqz (endsL l)).length≤2*N:=by have:=endsS_len l;unfold endsS at this;rw [HN.out] at this;exact this
   have hrise:(sqz (endsL l)).Pairwise (· < ·):=sqz_rise _
   have hok:∀s∈l,SpOk (sqz (endsL l)) s:=endsS_ok HR1.out.1
   have hse:sqz (endsL l)=E:=HEE.out
   rw [hse] at s1 hE1 hrise hok ⊢
   clear hse
   obtain ⟨M,hM⟩:∃M,E.length=M:=⟨_,rfl⟩
   rw [hM] at s1 hE1 ⊢
   obtain ⟨n,hn⟩:∃n,nSl E=n:=⟨_,rfl⟩
   have hnM:n=2*M - 1:=by rw [←hn,←hM];rfl
   have hmax:max 0 (2*(M:Int) - 1)=(n:Int):=by omega
   have hmaxV:Value.int .i64 (max 0 (2*(M:Int) - 1))=Value.int .i64 (n:Int):=by rw [hmax]
   have HFN:=Lib.hid (frameNewC n (by omega) w2)
   have HE:=Lib.hid (And.intro hrise (And.intro hok (And.intro hM (And.intro hn s1))))
   have HUQ:=Lib.hid s2
   have M0:(0:Int)≤(M:Int):=Int.natCast_nonneg _
   have M1:(M:Int)≤2000:=by omega
   have n0:(0:Int)≤(n:Int):=Int.natCast_nonneg _
   have n1:(n:Int)≤4000:=by omega
   have HNM:=Lib.hid hnM
   clear hrise hok s1 s2 hM hn hmax hnM
   go_wp2_with fail
   (with_reducible refine HFN.out.mono ?_)
   rintro e w3 ⟨rfl,rfl⟩
   have hfa:FrameAt (w2.alloc (.cells #[.int .u32 0,.int .i32 0,.int .u32 0,.slice none 0 0,.int .i64 (n:Int),.bool true] 312)) w2.heap.size n:=heap_alloc_new _ _
   have hu3:Upd [] w2 (w2.alloc (.cells #[.int .u32 0,.int .i32 0,.int .u32 0,.slice none 0 0,.int .i64 (n:Int),.bool true] 312)):=(Upd.refl _ _).alloc _
   generalize (w2.alloc (.cells #[.int .u32 0,.int .i32 0,.int .u32 0,.slice none 0 0,.int .i64 (n:Int),.bool true] 312))=W3 at hfa hu3 ⊢
   have HND:=Lib.hid (frameNodesD w2.heap.size n W3 (by omega) hfa)
   have HU3:=Lib.hid hu3
   have hf3:=lt_of_block hfa
   clear hfa hu3 hmaxV
   go_wp2_with fail
   (with_reducible refine HND.out.mono ?_)
   rintro e w4 ⟨A3,C3,rfl,-,f2,vn,f3,f4⟩
   have hnl:=nodesN_len n
   obtain ⟨KR,hK⟩:∃KR,(nodesN n).length=KR:=⟨_,rfl⟩
   rw [hK] at hnl ⊢
   have HF:=Lib.hid (And.intro f2 (And.intro f3 f4))
   have HKN:=Lib.hid hnl
   have hKb:KR<1000000:=by omega
   clear f2 f3 f4 hK
   have K0:(0:Int)≤(KR:Int):=Int.natCast_nonneg _
   have hrm:=rows_made w4 KR hKb
   have hmk:∀W:World,(Instr.makeSlice 213 (.int .i64 (KR:Int)) (.int .i64 (KR:Int))).run Tryz.prog W=.ok (.slice (some ⟨W.heap.size,0,none⟩) KR KR) (W.alloc (.cells (madeCells #[.slice none 0 0] (KR*1)) 56)):=fun W=>make_rows W KR hKb
   obtain ⟨CO,hCO⟩:∃CO,madeCells #[.slice none 0 0] (KR*1)=CO:=⟨_,rfl⟩
   rw [hCO] at hrm
   simp only [hCO] at hmk
   have HRM:=Lib.hid hrm
   clear hrm hCO hnl hKb
   go_upto_region 16 with fail
   have hhd:((w4.alloc (.cells CO 56)).alloc (.cells #[.slice A2 M C2,.pointer (some ⟨w2.heap.size,0,none⟩),.slice (some ⟨w4.heap.size,0,none⟩) KR KR,.int .i64 (N:Int)] 215)).heap[w4.heap.size+1]? = some (.cells #[.slice A2 M C2,.pointer (some ⟨w2.heap.size,0,none⟩),.slice (some ⟨w4.heap.size,0,none⟩) KR KR,.int .i64 (N:Int)] 215 (0,0)):=by
    have:=heap_alloc_new (w4.alloc (.cells CO 56)) (.cells #[.slice A2 M C2,.pointer (some ⟨w2.heap.size,0,none⟩),.slice (some ⟨w4.heap.size,0,none⟩) KR KR,.int .i64 (N:Int)] 215)
    simpa using this
   have hu5:Upd [] (w4.alloc (.cells CO 56)) ((w4.alloc (.cells CO 56)).alloc (.cells #[.slice A2 M C2,.pointer (some ⟨w2.heap.size,0,none⟩),.slice (some ⟨w4.heap.size,0,none⟩) KR KR,.int .i64 (N:Int)] 215)):=(Upd.refl _ _).alloc _
   have hu4:Upd [] w4 (w4.alloc (.cells CO 56)):=(Upd.refl _ _).alloc _
   have hsz5:((w4.alloc (.cells CO 56)).alloc (.cells #[.slice A2 M C2,.pointer (some ⟨w2.heap.size,0,none⟩),.slice (some ⟨w4.heap.size,0,none⟩) KR KR,.int .i64 (N:Int)] 215)).heap.size=w4.heap.size+2:=by simp
   have hrm5:=HRM.out.upd hu5 (by simp)
   generalize ((w4.alloc (.cells CO 56)).alloc (.cells #[.slice A2 M C2,.pointer (some ⟨w2.heap.size,0,none⟩),.slice (some ⟨w4.heap.size,0,none⟩) KR KR,.int .i64 (N:Int)] 215))=W5 at hhd hu5 hsz5 hrm5 ⊢
   have hu45:=hu4.trans hu5
   have huw:Upd [] w W5:=by
    have h1:Upd [] w w2:=HUW.out.trans HUQ.out
    have h2:=h1.size
    exact (((h1.trans HU3.out).trans' HF.out.1 (fun y hy=>.inr (by simp at hy;omega)))).trans hu45
   have hgE:=own_ge HE.out.2.2.2.2
   have hlE:=own_lt HE.out.2.2.2.2
   have hww2:w.heap.size≤w2.heap.size:=(HUW.out.trans HUQ.out).size
   have hwwr:w.heap.size≤wr.heap.size:=HUW.out.size
   have h24:w2.heap.size<w4.heap.size:=Nat.lt_of_lt_of_le hf3 HF.out.1.size
   have hrowE:KL.row W5 0 (.slice A2 M C2) E:=own_base (own_upd (own_upd (own_upd HE.out.2.2.2.2 HU3.out (by simp)) HF.out.1 (fun y hy hc=>by have:=hlE y hy;simp at hc;omega)) hu45 (by simp)) (Nat.zero_le _)
   have hfrm:FrmD W5 w2.heap.size vn n:=HF.out.2.1.upd hu45 (by simp) (by simp)
   have hln:=own_lt HF.out.2.1.row
   have h34:w2.heap.size≤W3.heap.size:=HU3.out.size
   have hrf:∀y∈rfoot (.slice (some ⟨w4.heap.size,0,none⟩) KR KR) (List.replicate KR (Value.slice none 0 0)),y=w4.heap.size:=fun y hy=>by
    rw [mem_rfoot] at hy
    rcases hy with hy | ⟨i,u,hu,hy⟩
    ·simpa [blk] using hy
    ·rw [List.getElem?_replicate] at hu
     split at hu
     ·simp at hu;subst hu;simp [blk] at hy
     ·cases hu
   have hat0:atS E []=List.replicate KR []:=by rw [atS_nil,HE.out.2.2.2.1,HKN.out]
   have hseg:SegAt W5 (w4.heap.size+1) w2.heap.size (.slice A2 M C2) vn (.slice (some ⟨w4.heap.size,0,none⟩) KR KR) (List.replicate KR (.slice none 0 0)) E (atS E []) (N:Int):=by
    rw [hat0]
    refine ⟨hhd,hrowE,?_,hrm5,by omega,fun hc=>?_,fun hc=>?_,fun hc=>?_,fun hc=>?_,fun y hy hc=>?_,fun y hy hc=>?_⟩
    ·rw [HE.out.2.2.2.1];exact hfrm
    ·have:=hlE _ hc;omega
    ·have:=hln _ hc;omega
    ·have:=hrf _ hc;omega
    ·have:=hrf _ hc;omega
    ·have:=hrf _ hc;have:=hlE _ hy;omega
    ·have:=hrf _ hc;have:=hln _ hy;omega
   have hfre:∀y∈rfoot (.slice (some ⟨w4.heap.size,0,none⟩) KR KR) (List.replicate KR (Value.slice none 0 0)),w.heap.size≤y:=fun y hy=>by have:=hrf y hy;omega
   have HSEG:=Lib.hid hseg
   have HFRE:=Lib.hid hfre
   have HUV:=Lib.hid huw
   have HNEW:=Lib.hid (show w.heap.size≤w2.heap.size∧w.heap.size≤w4.heap.size∧(∀y∈blk (.slice A2 M C2),w.heap.size≤y)∧(∀y∈blk vn,w.heap.size≤y) from ⟨hww2,by omega,fun y hy=>by have:=hgE y hy;omega,fun y hy=>by have:=HF.out.2.2 y hy;omega⟩)
   obtain ⟨b,hb⟩:∃b,w4.heap.size+1=b:=⟨_,rfl⟩
   obtain ⟨ga,hga⟩:∃b,w4.heap.size=b:=⟨_,rfl⟩
   obtain ⟨fb,hfb⟩:∃b,w2.heap.size=b:=⟨_,rfl⟩
   have hvl:(List.replicate KR (Value.slice none 0 0)).length=KR:=by simp
   have HBF:=Lib.hid (show w.heap.size≤b∧w.heap.size≤fb by omega)
   rw [hb,hga,hfb] at HSEG
   rw [hga] at HFRE HNEW
   rw [hfb] at HNEW
   rw [hb,hfb]
   generalize hvs0:List.replicate KR (Value.slice none 0 0)=vs0 at HSEG HFRE hvl
   clear hhd hu5 hu4 hsz5 hrm5 hu45 huw hgE hlE hww2 hwwr h24 hrowE hfrm hln h34 hrf hat0 hseg hfre hvs0 hb hga hfb hf3 hmk
   go_wp2_with fail
   go_loopg [59] N (fun m s59 wr=>∃(k:Nat) (vs:List Value),m+k=N∧s59=.int .i64 (k:Int)∧SegAt wr b fb (.slice A2 M C2) vn (.slice (some ⟨ga,0,none⟩) KR KR) vs E (atS E (l.take k)) (N:Int)∧(∀y∈rfoot (.slice (some ⟨ga,0,none⟩) KR KR) vs,w.heap.size≤y)∧Upd [] w wr)
   case atStart=>exact ⟨0,vs0,rfl,rfl,by simpa using HSEG.out,HFRE.out,HUV.out⟩
   case round=>
    obtain ⟨k,vs,hk,rfl,hsg,hfr,hup⟩:=hrel
    have k0:(0:Int)≤(k:Int):=Int.natCast_nonneg _
    have hkN:k≤N:=by omega
    have HK:=Lib.hid hk
    have HSG:=Lib.hid hsg
    have HFR:=Lib.hid hfr
    have HUP2:=Lib.hid hup
    clear hk hsg hfr hup
    by_cases hlt:k<N
    ·obtain ⟨x,hx⟩:∃x,l[k]? = some x:=⟨_,List.getElem?_eq_getElem (by rw [HN.out];exact hlt)⟩
     have hse:See KSp wr (.slice A l.length C) l:=H.out.upd0 HUP2.out
     obtain ⟨g,o,rfl,-,-,ey⟩:=hse.at hx
     have y0:wr.cell? ⟨g,o+k*3,none⟩=some (.int .i64 x.lo):=ey 0 _ rfl
     have y1:wr.cell? ⟨g,o+k*3+1,none⟩=some (.int .i64 x.hi):=ey 1 _ rfl
     have y2:wr.cell? ⟨g,o+k*3+2,none⟩=some (.int .u32 (x.id:Int)):=ey 2 _ rfl
     have b2:(k:Int)<(N:Int):=by omega
     have hxok:=HE.out.2.1 x (List.mem_of_getElem? hx)
     have hput:=putsS_all HE.out.1 hxok (l.take k)
     have htk:l.take (k+1)=l.take k++[x]:=by
      obtain ⟨h1,h2⟩:=List.getElem?_eq_some_iff.1 hx
      rw [List.take_succ_eq_append_getElem h1,h2]
     rw [←htk] at hput
     have HPUT:=Lib.hid hput
     clear hse ey htk hput
     obtain ⟨wl,hwl⟩:∃wl:World,wl=wr:=⟨_,rfl⟩
     subst hwl
     go_upto_region 19 with fail
     have hu2:Upd [] wl (wl.alloc (.cells #[.int .i64 x.lo,.int .i64 x.hi,.int .u32 (x.id:Int)] 62)):=(Upd.refl _ _).alloc _
     have hq2:wl.heap.size<(wl.alloc (.cells #[.int .i64 x.lo,.int .i64 x.hi,.int .u32 (x.id:Int)] 62)).heap.size:=by simp
     have d0:(wl.alloc (.cells #[.int .i64 x.lo,.int .i64 x.hi,.int .u32 (x.id:Int)] 62)).cell? ⟨wl.heap.size,0,none⟩=some (.int .i64 x.lo):=by rw [World.cell?_alloc_at _ _ _ _ rfl];rfl
     have d1:(wl.alloc (.cells #[.int .i64 x.lo,.int .i64 x.hi,.int .u32 (x.id:Int)] 62)).cell? ⟨wl.heap.size,1,none⟩=some (.int .i64 x.hi):=by rw [World.cell?_alloc_at _ _ _ _ rfl];rfl
     have d2:(wl.alloc (.cells #[.int .i64 x.lo,.int .i64 x.hi,.int .u32 (x.id:Int)] 62)).cell? ⟨wl.heap.size,2,none⟩=some (.int .u32 (x.id:Int)):=by rw [World.cell?_alloc_at _ _ _ _ rfl];rfl
     generalize (wl.alloc (.cells #[.int .i64 x.lo,.int .i64 x.hi,.int .u32 (x.id:Int)] 62))=W2 at hu2 hq2 d0 d1 d2 ⊢
     have hsg2:=HSG.out.upd0 hu2
     have hbo:=below_ok HE.out.1 hxok
     have hnd:=nodesS_lt HE.out.1 hxok
     have hnods:=segNodes hsg2 x HE.out.1 (by have:=HE.out.2.2.1;omega) hbo.1 hbo.2
     unfold spV at hnods
     have hql:=HSG.out.rows.lt
     have HQL:=Lib.hid hql
     have HU2:=Lib.hid (HUP2.out.trans hu2)
     obtain ⟨L,hL⟩:∃L,nodesS E x=L:=⟨_,rfl⟩
     rw [hL] at hnods hnd HPUT
     obtain ⟨J,hJ⟩:∃J,L.length=J:=⟨_,rfl⟩
     have HNODS:=Lib.hid hnods
     have hJb:J≤1000000:=by
      have:=canonL_len (nSl E) (2*below E x.lo) (2*below E x.hi+1) 0 (nSl E) 0 (by omega) (by have:=hbo.2;omega)
      have h5:(nodesS E x).length≤2*(nSl E - 0) - 1:=this
      rw [hL,hJ,HE.out.2.2.2.1] at h5
      omega
     have HND:=Lib.hid (And.intro hnd hJ)
     have HXL:=Lib.hid hx
     have HXO:=Lib.hid hxok
     have HSG2:=Lib.hid hsg2
     clear hsg2 hbo hnd hnods hql hu2 y0 y1 y2 hL hJ hx hxok
     go_wp2_with fail
     (with_reducible refine HNODS.out.mono ?_)
     rintro e w5 ⟨A5,C5,rfl,t1,t2⟩
     rw [HND.out.2] at t1 ⊢
     obtain ⟨q,hq⟩:∃q,wl.heap.size=q:=⟨_,rfl⟩
     have e0:=(t2.cell (p:=⟨wl.heap.size,0,none⟩) hq2 (by simp)).trans d0
     have e1:=(t2.cell (p:=⟨wl.heap.size,1,none⟩) hq2 (by simp)).trans d1
     have e2:=(t2.cell (p:=⟨wl.heap.size,2,none⟩) hq2 (by simp)).trans d2
     have hq5:wl.heap.size<w5.heap.size:=Nat.lt_of_lt_of_le hq2 t2.size
     rw [hq] at e0 e1 e2 hq5 HQL ⊢
     have HT1:=Lib.hid t1
     have HT2:=Lib.hid t2
     have HC5:=Lib.hid (And.intro e0 (And.intro e1 e2))
     have hww5:w.heap.size≤W2.heap.size:=HU2.out.size
     have HLTQ:=Lib.hid hq5
     have hqW:q<W2.heap.size:=by omega
     have HQW:=Lib.hid hqW
     clear t1 t2 e0 e1 e2 d0 d1 d2 hq2 hq hq5 hqW
     go_wp2_with fail
     go_loopg [67] J (fun m s67 wr=>∃(j:Nat) (vs:List Value),m+j=J∧s67=.int .i64 (j:Int)∧SegAt wr b fb (.slice A2 M C2) vn (.slice (some ⟨ga,0,none⟩) KR KR) vs E (putsS x (atS E (l.take k)) (L.take j)) (N:Int)∧(∀y∈rfoot (.slice (some ⟨ga,0,none⟩) KR KR) vs,w.heap.size≤y∧y≠q)∧Upd [] w wr∧KN.row wr W2.heap.size (.slice A5 J C5) L∧q<wr.heap.size∧(∀y∈blk (.slice A5 J C5),y∉rfoot (.slice (some ⟨ga,0,none⟩) KR KR) vs)∧
      wr.cell? ⟨q,0,none⟩=some (.int .i64 x.lo)∧wr.cell? ⟨q,1,none⟩=some (.int .i64 x.hi)∧wr.cell? ⟨q,2,none⟩=some (.int .u32 (x.id:Int)))
     case atStart=>
      refine ⟨0,vs,rfl,rfl,by simpa [putsS] using HSG2.out.upd0 HT2.out,fun y hy=>⟨HFR.out y hy,fun hc=>by have:=HQL.out y hy;omega⟩,HU2.out.trans HT2.out,HT1.out,HLTQ.out,fun y hy hc=>?_,HC5.out⟩
      have h1:=own_ge HT1.out y hy
      have h2:=HQL.out y hc
      have h3:=HQW.out
      omega
     case round=>
      obtain ⟨j,vs2,hj,rfl,hsg,hfr,hup,hrl,hqw,hap,e0,e1,e2⟩:=hrel
      have j0:(0:Int)≤(j:Int):=Int.natCast_nonneg _
      have hjJ:j≤J:=by omega
      by_cases hjl:j<J
      ·obtain ⟨p,hp⟩:∃p,L[j]? = some p:=⟨_,List.getElem?_eq_getElem (by rw [HND.out.2];exact hjl)⟩
       have hpl:p<(putsS x (atS E (l.take k)) (L.take j)).length:=by rw [putsS_len,atS_len];exact HND.out.1.2 p (List.mem_of_getElem? hp)
       have hrle:=putsS_row_le (S:=l.take k) (E:=E) (x:=x) (p:=p) (List.Nodup.sublist (List.take_sublist j L) HND.out.1.1) (List.getElem?_eq_getElem hpl)
       have hst:putsS x (atS E (l.take k)) (L.take (j+1))=putS x (putsS x (atS E (l.take k)) (L.take j)) p:=by
        obtain ⟨h1,h2⟩:=List.getElem?_eq_some_iff.1 hp
        rw [List.take_succ_eq_append_getElem h1,h2,putsS_app]
        rfl
       obtain ⟨gl,rfl,lc⟩:=rowN_at hrl hp
       have c2:=hsg.cells.2.2.1
       obtain ⟨ga',Ak,Ck,hga,hv,rc,rfz,rr⟩:=hsg.rows.at hpl
       injection hga with hga
       injection hga with hga _ _
       subst hga
       have hlen:vs2.length=KR:=by rw [hsg.rows.len,putsS_len,atS_len,HKN.out,HE.out.2.2.2.1]
       have hpK:p<KR:=by have h1:=hsg.rows.len;rw [←h1,hlen] at hpl;exact hpl
       obtain ⟨R,hR⟩:∃R,putsS x (atS E (l.take k)) (L.take j)=R:=⟨_,rfl⟩
       simp only [hR] at hsg hst hpl hrle hv rc rr
       obtain ⟨Rp,hRp⟩:∃l,R[p]=l:=⟨_,rfl⟩
       have hRp2:R[p]? = some Rp:=by rw [List.getElem?_eq_getElem hpl,hRp]
       rw [hRp] at hrle hv rc rr
       obtain ⟨rl,hrll⟩:∃r,Rp.length=r:=⟨_,rfl⟩
       have hrl1:rl≤1001:=by rw [←hrll];have:=hrle;rw [List.length_take] at this;omega
       have b3:(j:Int)<(J:Int):=by omega
       have p0:(0:Int)≤(p:Int):=Int.natCast_nonneg _
       have p1:(p:Int)<(KR:Int):=by omega
       rw [hrll] at hv rc rr
       have HX:=Lib.hid (And.intro (show KeepS wr b ga p q (.slice (some ⟨ga,0,none⟩) KR KR) (.slice Ak rl Ck) x from ⟨c2,rc,e0,e1,e2⟩) (And.intro hsg (And.intro hv (And.intro rr (And.intro hRp2 (And.intro hrll hst))))))
       have HY:=Lib.hid (And.intro hj (And.intro hfr (And.intro hup (And.intro hrl (And.intro hqw (And.intro hap (And.intro hlen hR)))))))
       have hsgA:=hsg.upd0 (((Upd.refl [] wr).drew).alloc (.cells #[.int .i64 x.lo,.int .i64 x.hi,.int .u32 (x.id:Int)] 62))
       have hrowA:(wr.drew.alloc (.cells #[.int .i64 x.lo,.int .i64 x.hi,.int .u32 (x.id:Int)] 62)).ownsRow 0 62 3 (.slice Ak rl Ck) rl (KSp.all Rp):=by
        have:=own_upd rr (((Upd.refl [] wr).drew).alloc (.cells #[.int .i64 x.lo,.int .i64 x.hi,.int .u32 (x.id:Int)] 62)) (by simp)
        rwa [hrll] at this
       have hbu:b∉blk (.slice Ak rl Ck):=fun hc=>hsg.bro (mem_rfoot.2 (.inr ⟨p,_,hv,hc⟩))
       have hgu:ga∉blk (.slice Ak rl Ck):=fun hc=>hsg.rows.away p _ ga hv hc (by simp [blk])
       have hqu:q∉blk (.slice Ak rl Ck):=fun hc=>(hfr q (mem_rfoot.2 (.inr ⟨p,_,hv,hc⟩))).2 rfl
       have HSGA:=Lib.hid hsgA
       have HROW:=Lib.hid hrowA
       have HSEP:=Lib.hid (And.intro hbu (And.intro hgu hqu))
       clear hp hpl hrle hst c2 hv rr hRp hRp2 hrll hj hsg hfr hup hrl hqw hap hlen hR hsgA hrowA hbu hgu hqu
       go_upto_region 22 with fail
       refine GoT.start [15,16] (fun w'=>KeepS w' b ga p q (.slice (some ⟨ga,0,none⟩) KR KR) (.slice Ak rl Ck) x) (by kernel_rfl) ?_ fun hS=>?_
       ·exact HX.out.1
       refine' GoT.mv (i:=0) (oi:=⟨some 71,_,_,_,_,_⟩) rfl (by rfl) ?y22_0 ?_
       case y22_0=>intro w;go_simp<;>with_reducible rfl
       simp only [Act.put,sA,sZ,sS]
       refine' GoT.mv (i:=1) (oi:=⟨some 72,_,_,_,_,_⟩) rfl (by rfl) ?y22_1 ?_
       case y22_1=>intro w;go_simp<;>with_reducible rfl
       simp only [Act.put,sA,sZ,sS]
       refine' GoT.mv (i:=2) (oi:=⟨some 73,_,_,_,_,_⟩) rfl (by rfl) ?y22_2 ?_
       case y22_2=>intro w;go_simp<;>with_reducible rfl
       simp only [Act.put,sA,sZ,sS]
       refine' GoT.tk 1 (i:=3) (oi:=⟨some 74,_,_,_,_,_⟩) rfl (by rfl) ?y22_3 ?_
       case y22_3=>intro w hSw;obtain ⟨s0,s1,s2,s3,s4⟩:=hSw;go_simp<;>with_reducible rfl
       simp only [Act.put,sA,sZ,sS]
       refine' GoT.mv (i:=4) (oi:=⟨some 75,_,_,_,_,_⟩) rfl (by rfl) ?y22_4 ?_
       case y22_4=>intro w;go_simp<;>with_reducible rfl
       simp only [Act.put,sA,sZ,sS]
       refine' GoT.mv (i:=5) (oi:=⟨some 76,_,_,_,_,_⟩) rfl (by rfl) ?y22_5 ?_
       case y22_5=>intro w;go_simp<;>with_reducible rfl
       simp only [Act.put,sA,sZ,sS]
       refine' GoT.mv (i:=6) (oi:=⟨some 77,_,_,_,_,_⟩) rfl (by rfl) ?y22_6 ?_
       case y22_6=>intro w;go_simp<;>with_reducible rfl
       simp only [Act.put,sA,sZ,sS]
       refine' GoT.mv (i:=7) (oi:=⟨some 78,_,_,_,_,_⟩) rfl (by rfl) ?y22_7 ?_
       case y22_7=>intro w;go_simp<;>with_reducible rfl
       simp only [Act.put,sA,sZ,sS]
       refine' GoT.tk 1 (i:=8) (oi:=⟨some 79,_,_,_,_,_⟩) rfl (by rfl) ?y22_8 ?_
       case y22_8=>intro w hSw;obtain ⟨s0,s1,s2,s3,s4⟩:=hSw;go_simp<;>with_reducible rfl
       simp only [Act.put,sA,sZ,sS]
       refine' GoT.mv (i:=9) (oi:=⟨some 80,_,_,_,_,_⟩) rfl (by rfl) ?y22_9 ?_
       case y22_9=>intro w;go_simp<;>with_reducible rfl
       simp only [Act.put,sA,sZ,sS]
       refine' GoT.mv (i:=10) (oi:=⟨some 81,_,_,_,_,_⟩) rfl (by rfl) ?y22_10 ?_
       case y22_10=>intro w;go_simp<;>with_reducible rfl
       simp only [Act.put,sA,sZ,sS]
       refine' GoT.tk 1 (i:=11) (oi:=⟨some 82,_,_,_,_,_⟩) rfl (by rfl) ?y22_11 ?_
       case y22_11=>intro w hSw;obtain ⟨s0,s1,s2,s3,s4⟩:=hSw;go_simp<;>with_reducible rfl
       simp only [Act.put,sA,sZ,sS]
       refine' GoT.tk 1 (i:=12) (oi:=⟨some 83,_,_,_,_,_⟩) rfl (by rfl) ?y22_12 ?_
       case y22_12=>intro w hSw;obtain ⟨s0,s1,s2,s3,s4⟩:=hSw;go_simp<;>with_reducible rfl
       simp only [Act.put,sA,sZ,sS]
       refine GoT.one (i:=13) (o:=⟨some 84,_,_,_,_,_⟩) rfl (by kernel_rfl) fun K hK=>?_
       go_simp
       refine hK.out _ _ (fun _ h=>?_) ?_
       ·exact h.upd0 ((Upd.refl [] _).alloc _)
       clear hK K
       try simp only [Act.put,sA,sZ,sS]
       refine GoT.one (i:=14) (o:=⟨some 85,_,_,_,_,_⟩) rfl (by kernel_rfl) fun K hK=>?_
       refine step_app _ (by rfl) _ _ 56 (by rfl) 0 62 i1 (.agg #[.int .i64 0,.int .i64 0,.int .u32 0]) 3 24 Tryz.underlying56 hi1 hy0 hy1 hy2 rfl (by decide) _ _ _ (by rfl) (HROW.out) _ 1 (KSp.enc x) (by rfl) (sees_lit _ #[.int .i64 x.lo,.int .i64 x.hi,.int .u32 (x.id:Int)] 62 3 1 rfl (by decide)) (KSp.one x) (by unfold maxLen;omega) (by omega) (by simp) ?_
       intro A1 C1 w1 HP1
       have hkeep:∀ww,KeepS ww b ga p q (.slice (some ⟨ga,0,none⟩) KR KR) (.slice Ak rl Ck) x→ww=(wr.drew.alloc (.cells #[.int .i64 x.lo,.int .i64 x.hi,.int .u32 (x.id:Int)] 62))→KeepS w1 b ga p q (.slice (some ⟨ga,0,none⟩) KR KR) (.slice Ak rl Ck) x:=fun ww h e=>by subst e;exact h.upd HP1.upd HSEP.out.1 HSEP.out.2.1 HSEP.out.2.2
       have hrowN:KSp.row w1 0 (.slice A1 (rl+1) C1) (Rp++[x]):=by
        have h1:=HP1.own
        unfold Kind.row
        rw [List.length_append,HX.out.2.2.2.2.2.1,KSp.all_app]
        exact h1
       have hvl:=HSGA.out.rows.list
       rw [HY.out.2.2.2.2.2.2.1] at hvl
       have hfz:w1.frozen? ⟨ga,p,none⟩=false:=World.ownsRow.frozenAt (own_upd hvl HP1.upd (fun y hy hc=>by simp [blk] at hy;subst hy;exact HSEP.out.2.1 hc)) p
       have hext:=SegAt.extend HSGA.out (by rw [HY.out.2.2.2.2.2.2.1]) HX.out.2.2.1 HP1.upd hrowN HP1.at
       refine hK.out _ _ (fun _ h=>?_) ?_
       ·exact hkeep _ h rfl
       clear hK K
       try simp only [Act.put,sA,sZ,sS]
       refine' GoT.mv (i:=15) (oi:=⟨some 86,_,_,_,_,_⟩) rfl (by rfl) ?y22_15 ?_
       case y22_15=>intro w;go_simp<;>with_reducible rfl
       simp only [Act.put,sA,sZ,sS]
       refine GoT.one (i:=16) (o:=⟨none,_,_,_,_,_⟩) rfl (by kernel_rfl) fun K hK=>?_
       have hcl:=(hkeep _ (HX.out.1.upd0 (((Upd.refl [] wr).drew).alloc _)) rfl).2.1
       clear hkeep hrowN hvl
       go_simp
       clear hcl hfz
       refine hK.out _ _ (fun h=>(by cases h)) ?_
       clear hK K
       try simp only [Act.put,sA,sZ,sS]
       refine GoT.done (by kernel_rfl) ?_
       have HEND:=Lib.hid hext
       clear hext HP1
       go_wp2_with fail
       go_roundg (J - (j+1))
       case measure=>have:=HY.out.1;omega
       case rel=>
        obtain ⟨g1,g2,g3⟩:=HEND.out
        have hA:Upd [] wr (wr.drew.alloc (.cells #[.int .i64 x.lo,.int .i64 x.hi,.int .u32 (x.id:Int)] 62)):=((Upd.refl [] wr).drew).alloc _
        have hAs:(wr.drew.alloc (.cells #[.int .i64 x.lo,.int .i64 x.hi,.int .u32 (x.id:Int)] 62)).heap.size=wr.heap.size+1:=by simp
        have hk2:=HX.out.1.upd0 hA
        obtain ⟨hj,hfr,hup,hrl,hqw,hap,hlen,-⟩:=HY.out
        have hww:=hup.size
        have hqn:q∉rfoot (.slice (some ⟨ga,0,none⟩) KR KR) vs2:=fun hc=>(hfr q hc).2 rfl
        have hqA:q<(wr.drew.alloc (.cells #[.int .i64 x.lo,.int .i64 x.hi,.int .u32 (x.id:Int)] 62)).heap.size:=by omega
        refine ⟨j+1,vs2.set p (.slice A1 (rl+1) C1),by omega,by go_num,?_,fun y hy=>?_,(hup.trans hA).trans' g2 (fun y hy=>.inr (hfr y hy).1),own_upd (own_upd hrl hA (by simp)) g2 hap,Nat.lt_of_lt_of_le hqA g2.size,fun y hy hc=>?_,
         (g2.cell (p:=⟨q,0,none⟩) hqA hqn).trans hk2.2.2.1,(g2.cell (p:=⟨q,1,none⟩) hqA hqn).trans hk2.2.2.2.1,(g2.cell (p:=⟨q,2,none⟩) hqA hqn).trans hk2.2.2.2.2⟩
        ·rw [HX.out.2.2.2.2.2.2]
         unfold putS
         rw [HX.out.2.2.2.2.1]
         exact g1
        ·rcases g3 y hy with h1 | h1
         ·exact hfr y h1
         ·exact ⟨by omega,by omega⟩
        ·rcases g3 y hc with h1 | h1
         ·exact hap y hy h1
         ·have:=own_lt hrl y hy;omega
      ·have hjJ2:j=J:=by omega
       have hLL:L.take j=L:=by rw [hjJ2,←HND.out.2];exact List.take_length
       rw [hLL,HPUT.out] at hsg
       have HZ:=Lib.hid (And.intro hsg (And.intro hfr hup))
       clear hj hsg hfr hup hrl hqw hap e0 e1 e2 hLL hjJ2
       go_wp2_with fail
       go_roundg (N - (k+1))
       case measure=>have:=HK.out;omega
       case rel=>exact ⟨k+1,vs2,by have:=HK.out;omega,by go_num,HZ.out.1,fun y hy=>(HZ.out.2.1 y hy).1,HZ.out.2.2⟩
    ·have hkN2:k=N:=by omega
     have hLL:l.take k=l:=by rw [hkN2,←HN.out];exact List.take_length
     have hsg:=HSG.out
     rw [hLL] at hsg
     have HZ:=Lib.hid hsg
     clear hLL hsg hkN2
     go_wp2_with fail
     go_ret2
     refine ⟨HUP2.out,b,b::fb::(blk (.slice A2 M C2)++blk vn++rfoot (.slice (some ⟨ga,0,none⟩) KR KR) vs),rfl,⟨⟨fb,_,vn,_,vs,by rw [HN.out];exact HZ.out,?_⟩,HE.out.1,by have:=HE.out.2.2.1;omega,HE.out.2.1,HR1.out.2,by rw [HN.out];exact hl,?_⟩,?_⟩
     ·intro y hy
      simp only [List.mem_cons,List.mem_append]
      rcases hy with hy | hy | hy | hy | hy
      ·exact .inl hy
      ·exact .inr (.inl hy)
      ·exact .inr (.inr (.inl (.inl hy)))
      ·exact .inr (.inr (.inl (.inr hy)))
      ·exact .inr (.inr (.inr hy))
     ·intro y hy
      simp only [List.mem_cons,List.mem_append] at hy
      rcases hy with hy | hy | (hy | hy) | hy
      ·subst hy;exact lt_of_block HZ.out.head
      ·subst hy;exact lt_of_block HZ.out.frm.head
      ·exact own_lt HZ.out.ends y hy
      ·exact own_lt HZ.out.frm.row y hy
      ·exact HZ.out.rows.lt y hy
     ·intro y hy
      simp only [List.mem_cons,List.mem_append] at hy
      rcases hy with hy | hy | (hy | hy) | hy
      ·have:=HBF.out;omega
      ·have:=HBF.out;omega
      ·exact HNEW.out.2.2.1 y hy
      ·exact HNEW.out.2.2.2 y hy
      ·exact HFR.out y hy
end Go.Proofs.YtkbaaonchdeneaaGreat
