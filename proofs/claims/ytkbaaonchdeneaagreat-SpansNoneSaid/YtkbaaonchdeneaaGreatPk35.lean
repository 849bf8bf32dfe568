/- seg.Count. seg.Stab. seg.right: are these spans, of unlike names? seg.Build: what it is made of; spans that are put at their nodes one by one. seg.Count. -/
import Derived.Laws.OwnMore
import Derived.Test.YtkbaaonchdeneaaGreatPk34
import Derived.Test.YtkbaaonchdeneaaGreatPk14
import Derived.Test.YtkbaaonchdeneaaGreatPk6
import Derived.Test.YtkbaaonchdeneaaGreatPk8
set_option maxHeartbeats 4000000
set_option maxRecDepth 100000
namespace Go.Proofs.YtkbaaonchdeneaaGreat
open Go.RowKit
def cntS (R:List (List Sp)) (L:List Nat):Nat:=(L.map fun k=>(R[k]?.getD []).length).sum
theorem cntS_app (R:List (List Sp)) (A B:List Nat):cntS R (A++B)=cntS R A+cntS R B:=by simp [cntS]
theorem cntS_le {R:List (List Sp)} {M:Nat} (h:∀l∈R,l.length≤M):∀L:List Nat,cntS R L≤L.length*M
 | []=>by simp [cntS]
 |k::L=>by
  have h1:=cntS_le h L
  have h2:(R[k]?.getD []).length≤M:=by
   cases e:R[k]? with
   |none=>simp
   |some l=>exact h l (List.mem_of_getElem? e)
  have e:cntS R (k::L)=(R[k]?.getD []).length+cntS R L:=by simp [cntS]
  rw [e,List.length_cons,Nat.succ_mul]
  omega
theorem rowN_at {w:World} {base:Nat} {A:Option Addr} {n C:Nat} {L:List Nat} (h:KN.row w base (.slice A n C) L) {k:Nat} {x:Nat} (hx:L[k]? = some x):∃g,A=some ⟨g,0,none⟩∧w.cell? ⟨g,k,none⟩=some (.int .i64 (x:Int)):=by
 obtain ⟨g,C',hg,ec,-⟩:=row_at h hx
 injection hg with hg _ _
 have:=ec 0 _ rfl
 exact ⟨g,hg,by simpa [KN] using this⟩
attribute [local go_sem ↓] Go.wp_at_zero Go.wp_at_succ
def idsS (R:List (List Sp)) (L:List Nat):List Nat:=L.flatMap fun k=>(R[k]?.getD []).map Sp.id
theorem idsS_len (R:List (List Sp)):∀L:List Nat,(idsS R L).length=cntS R L
 | []=>rfl
 |k::L=>by
  have e:idsS R (k::L)=(R[k]?.getD []).map Sp.id++idsS R L:=by simp [idsS]
  have e2:cntS R (k::L)=(R[k]?.getD []).length+cntS R L:=by simp [cntS]
  rw [e,e2,List.length_append,List.length_map,idsS_len R L]
theorem segRight (v:Value) (l:List Sp) (w:World) (h:See KSp w v l) (hid:∀s∈l,s.id<4294967296) (hl:l.length<1000000) :
 Calls Tryz.prog 205 #[v] w fun e w'=>e=.returned (.bool (rightS l))∧Upd [] w w':=by
 obtain ⟨A,C,rfl⟩:=h.form
 obtain ⟨N,hN⟩:∃N,l.length=N:=⟨_,rfl⟩
 have hm0:=MapU.made MKI w
 have hu0:Upd [] w (w.alloc (.map #[] 0)):=(Upd.refl _ _).alloc _
 have hsz:w.heap.size<(w.alloc (.map #[] 0)).heap.size:=by simp
 have H:=Lib.hid h
 have HN:=Lib.hid hN
 have HI:=Lib.hid hid
 have HM0:=Lib.hid hm0
 have HU0:=Lib.hid hu0
 rw [hN] at hl ⊢
 clear h hN hid hm0 hu0
 have hmm:=@run_makeMap Tryz.prog
 go_enter Tryz.func205,Tryz.ntmps205
 go_upto_region 2 with fail
 clear hmm
 generalize w.alloc (.map #[] 0)=W0 at HM0 HU0 hsz ⊢
 go_wp2_with fail
 go_loopg [9] N (fun m s9 wr=>∃(k n:Nat) (f:Nat→Option Nat),m+k=N∧s9=.int .i64 (k:Int)∧MapU MKI wr w.heap.size f n∧CntR l k f n∧(∀s∈l.take k,s.lo≤s.hi)∧Upd [w.heap.size] W0 wr)
 case atStart=>exact ⟨0,0,_,rfl,rfl,HM0.out,CntR.start l,by simp,Upd.refl _ _⟩
 case round=>
  obtain ⟨k,n,f,hk,rfl,hm,hc,hri,hup⟩:=hrel
  have k0:(0:Int)≤(k:Int):=Int.natCast_nonneg _
  have hkN:k≤N:=by omega
  have HK:=Lib.hid hk
  have HM:=Lib.hid hm
  have HC:=Lib.hid hc
  have HR:=Lib.hid hri
  have HU:=Lib.hid hup
  clear hk hm hc hri hup
  by_cases hlt:k<N
  ·obtain ⟨s,hs⟩:∃s,l[k]? = some s:=⟨_,List.getElem?_eq_getElem (by rw [HN.out];exact hlt)⟩
   have hw1:Upd [] w wr:=HU0.out.trans' HU.out (fun x hx=>.inr (by simp at hx;omega))
   have hse:See KSp wr (.slice A l.length C) l:=H.out.upd0 hw1
   have hidb:=HI.out s (List.mem_of_getElem? hs)
   have hcs:=HC.out.step hs k
   obtain ⟨lo,hi,id⟩:=s
   obtain ⟨g,o,rfl,-,-,ey⟩:=hse.at hs
   have y0:wr.cell? ⟨g,o+k*3,none⟩=some (.int .i64 lo):=ey 0 _ rfl
   have y1:wr.cell? ⟨g,o+k*3+1,none⟩=some (.int .i64 hi):=ey 1 _ rfl
   have y2:wr.cell? ⟨g,o+k*3+2,none⟩=some (.int .u32 (id:Int)):=ey 2 _ rfl
   have b1:(k:Int)<(N:Int):=by omega
   have hnb:n≤k:=HC.out.le
   have hwz:=HU.out.size
   have HS:=Lib.hid (And.intro hs (And.intro hcs hw1))
   clear hs hcs hw1 hse ey
   dsimp only at hidb
   obtain ⟨wl,hwl⟩:∃wl:World,wl=wr:=⟨_,rfl⟩
   subst hwl
   go_upto_region 5 with fail
   have hu2:Upd [] wl (wl.alloc (.cells #[.int .i64 lo,.int .i64 hi,.int .u32 (id:Int)] 62)):=(Upd.refl _ _).alloc _
   have hz2:wl.heap.size<(wl.alloc (.cells #[.int .i64 lo,.int .i64 hi,.int .u32 (id:Int)] 62)).heap.size:=by simp
   have d0:(wl.alloc (.cells #[.int .i64 lo,.int .i64 hi,.int .u32 (id:Int)] 62)).cell? ⟨wl.heap.size,0,none⟩=some (.int .i64 lo):=by rw [World.cell?_alloc_at _ _ _ _ rfl];rfl
   have d1:(wl.alloc (.cells #[.int .i64 lo,.int .i64 hi,.int .u32 (id:Int)] 62)).cell? ⟨wl.heap.size,1,none⟩=some (.int .i64 hi):=by rw [World.cell?_alloc_at _ _ _ _ rfl];rfl
   have d2:(wl.alloc (.cells #[.int .i64 lo,.int .i64 hi,.int .u32 (id:Int)] 62)).cell? ⟨wl.heap.size,2,none⟩=some (.int .u32 (id:Int)):=by rw [World.cell?_alloc_at _ _ _ _ rfl];rfl
   have hm2:=HM.out.upd hu2 (by simp)
   generalize (wl.alloc (.cells #[.int .i64 lo,.int .i64 hi,.int .u32 (id:Int)] 62))=W2 at hu2 hz2 d0 d1 d2 hm2 ⊢
   obtain ⟨w5,hput,hm5,hu5,hz5⟩:=hm2.put hidb k (by unfold maxLen;omega)
   have hne:(wl.heap.size:Nat)∉[w.heap.size]:=by simp;omega
   have e0:=(hu5.cell (p:=⟨wl.heap.size,0,none⟩) hz2 hne).trans d0
   have e1:=(hu5.cell (p:=⟨wl.heap.size,1,none⟩) hz2 hne).trans d1
   have e2:=(hu5.cell (p:=⟨wl.heap.size,2,none⟩) hz2 hne).trans d2
   have hput2:(Instr.mapUpdate 60 (.map (some w.heap.size)) (.int .u32 (id:Int)) (.int .i64 (k:Int))).run Tryz.prog W2=.ok () w5:=hput
   have HRS:=Lib.hid (rightSpanC ⟨lo,hi,id⟩ w5)
   unfold spV at HRS
   dsimp only at HRS
   have H5:=Lib.hid (And.intro hm5 ((HU.out.trans (hu2.mono (G:=[w.heap.size]) (by simp))).trans hu5))
   clear hput hm5 hu5 hu2 hm2 y0 y1 y2 d0 d1
   have hwz5:W0.heap.size≤w5.heap.size:=H5.out.2.size
   by_cases hb:lo≤hi
   ·have hbd:decide (lo≤hi)=true:=decide_eq_true hb
    rw [hbd] at HRS
    go_wp2_with fail
    (with_reducible refine HRS.out.mono ?_)
    rintro e w6 ⟨rfl,u6⟩
    have HU6:=Lib.hid u6
    clear u6
    go_wp2_with fail
    go_roundg (N - (k+1))
    case measure=>have:=HK.out;omega
    case rel=>
     refine ⟨k+1,_,_,by have:=HK.out;omega,by go_num,H5.out.1.upd HU6.out (by simp),HS.out.2.1,fun s hs=>?_,H5.out.2.trans (HU6.out.mono (by simp))⟩
     obtain ⟨g1,g2⟩:=List.getElem?_eq_some_iff.1 HS.out.1
     rw [List.take_succ_eq_append_getElem g1,g2,List.mem_append] at hs
     rcases hs with hs | hs
     ·exact HR.out s hs
     ·simp at hs;subst hs;exact hb
   ·have hbd:decide (lo≤hi)=false:=decide_eq_false hb
    rw [hbd] at HRS
    go_wp2_with fail
    (with_reducible refine HRS.out.mono ?_)
    rintro e w6 ⟨rfl,u6⟩
    have HU6:=Lib.hid u6
    clear u6
    go_wp2_with fail
    go_ret
    refine ⟨?_,(HU0.out.trans' H5.out.2 (fun x hx=>.inr (by simp at hx;omega))).trans HU6.out⟩
    have:rightS l=false:=by
     rw [Bool.eq_false_iff]
     intro hc
     have h7:lo≤hi:=(rightS_iff.1 hc).1 _ (List.mem_of_getElem? HS.out.1)
     exact absurd h7 (by omega)
    rw [this]
    rfl
  ·have hkN':k=N:=by omega
   have hL':l.take k=l:=by rw [hkN',←HN.out];exact List.take_length
   have hri:=HR.out
   have hcn:=HC.out.eq
   rw [hL'] at hri hcn
   have hfin:((n:Int)==(N:Int))=rightS l:=by
    rw [Bool.eq_iff_iff,rightS_iff]
    simp
    constructor
    ·intro hc;exact ⟨hri,hcn.1 (by omega)⟩
    ·rintro ⟨-,hc⟩;have:=hcn.2 hc;omega
   have hlen:=HM.out.len 3
   have hlen2:(Builtin.len_ #[60] 3 #[.map (some w.heap.size)]).run Tryz.prog wr=.ok (.int .i64 (n:Int)) wr:=hlen
   have HF:=Lib.hid hfin
   clear hL' hri hcn hfin hlen
   go_wp2_with fail
   go_ret
   exact ⟨by rw [←HF.out];rfl,HU0.out.trans' HU.out (fun x hx=>.inr (by simp at hx;omega))⟩
theorem endsS_ok {l:List Sp} (hr:∀s∈l,s.lo≤s.hi):∀s∈l,SpOk (endsS l) s:=fun s hs=>
 ⟨mem_sqz (List.mem_flatMap.2 ⟨s,hs,by simp⟩),mem_sqz (List.mem_flatMap.2 ⟨s,hs,by simp⟩),hr s hs⟩
theorem below_ok {E:List Int} (h:E.Pairwise (· < ·)) {s:Sp} (hs:SpOk E s):below E s.lo≤below E s.hi∧2*below E s.hi+1≤nSl E:=by
 have hle:E.Pairwise (·≤·):=h.imp (by intro a b hab;omega)
 have e1:=below_here h hs.1
 have e2:=below_here h hs.2.1
 have h1:=(List.getElem?_eq_some_iff.1 e2).1
 refine ⟨?_,by unfold nSl;omega⟩
 rcases Nat.lt_or_ge (below E s.hi) (below E s.lo) with hc | hc
 ·have:=(below_at hle s.lo _ _ e2).2 hc
  have:=hs.2.2
  omega
 ·exact hc
theorem nodesS_lt {E:List Int} (h:E.Pairwise (· < ·)) {s:Sp} (hs:SpOk E s):(nodesS E s).Nodup∧∀k∈nodesS E s,k<2*nSl E - 1:=by
 have:=below_ok h hs
 refine ⟨canonL_nodup (nSl E) _ _ 0 (nSl E) 0 (by omega) (by omega),fun k hk=>?_⟩
 have:=canonL_range (nSl E) _ _ 0 (nSl E) 0 (by omega) (by omega) k hk
 omega
def putS (x:Sp) (R:List (List Sp)) (k:Nat):List (List Sp):=R.set k ((R[k]?.getD [])++[x])
def putsS (x:Sp) (R:List (List Sp)) (L:List Nat):List (List Sp):=L.foldl (putS x) R
theorem putsS_len (x:Sp):∀(L:List Nat) (R:List (List Sp)),(putsS x R L).length=R.length
 | [],_=>rfl
 |k::L,R=>by
  show (putsS x (putS x R k) L).length=_
  rw [putsS_len x L]
  simp [putS]
theorem putsS_app (x:Sp) (R:List (List Sp)) (A B:List Nat):putsS x R (A++B)=putsS x (putsS x R A) B:=by simp [putsS]
theorem putsS_at (x:Sp):∀(L:List Nat) (R:List (List Sp)) (k:Nat),L.Nodup→(putsS x R L)[k]? = R[k]?.map fun l=>if k∈L then l++[x] else l
 | [],R,k,_=>by simp [putsS]
 |j::L,R,k,hn=>by
  rw [List.nodup_cons] at hn
  show (putsS x (putS x R j) L)[k]? = _
  rw [putsS_at x L _ k hn.2]
  unfold putS
  rw [List.getElem?_set]
  by_cases hjk:j=k
  ·subst hjk
   rw [if_pos rfl]
   cases hR:R[j]? with
   |none=>
    have:R.length≤j:=by
     rcases Nat.lt_or_ge j R.length with h | h
     ·rw [List.getElem?_eq_getElem h] at hR;cases hR
     ·exact h
    rw [if_neg (by omega)]
    rfl
   |some l=>
    have:=(List.getElem?_eq_some_iff.1 hR).1
    rw [if_pos this]
    simp [hn.1]
  ·rw [if_neg hjk]
   have:(k∈j::L)↔k∈L:=by simp [Ne.symm hjk]
   simp only [this]
theorem putsS_all {E:List Int} (h:E.Pairwise (· < ·)) {x:Sp} (hx:SpOk E x) (S:List Sp):putsS x (atS E S) (nodesS E x)=atS E (S++[x]):=by
 obtain ⟨hn,-⟩:=nodesS_lt h hx
 refine List.ext_getElem? fun k=>?_
 rw [putsS_at x _ _ k hn]
 rcases Nat.lt_or_ge k (2*nSl E - 1) with hk | hk
 ·rw [atS_at hk,atS_at hk,Option.map_some,List.filter_append]
  by_cases hm:k∈nodesS E x
  ·rw [if_pos hm];simp [hm]
  ·rw [if_neg hm];simp [hm]
 ·rw [List.getElem?_eq_none (by rw [atS_len];exact hk),List.getElem?_eq_none (by rw [atS_len];exact hk)]
  rfl
theorem atS_nil (E:List Int):atS E []=List.replicate (2*nSl E - 1) []:=by
 refine List.ext_getElem? fun k=>?_
 rw [List.getElem?_replicate]
 by_cases hk:k<2*nSl E - 1
 ·rw [atS_at hk,if_pos hk];rfl
 ·rw [List.getElem?_eq_none (by rw [atS_len];omega),if_neg hk]
theorem infoSpanS:(Tryz.prog.info? 62).map (fun i=>(i.zero,i.size,i.bytes))=some (some (.agg #[.int .i64 0,.int .i64 0,.int .u32 0]),3,24):=by kernel_rfl
theorem infoRowS:(Tryz.prog.info? 56).map (fun i=>(i.zero,i.size,i.bytes))=some (some (.slice none 0 0),1,24):=by kernel_rfl
theorem infoLongS:(Tryz.prog.info? 2).map (fun i=>(i.zero,i.size,i.bytes))=some (some (.int .i64 0),1,8):=by kernel_rfl
theorem make_rows (W:World) (N:Nat) (hN:N<1000000):(Instr.makeSlice 213 (.int .i64 (N:Int)) (.int .i64 (N:Int))).run Tryz.prog W=.ok (.slice (some ⟨W.heap.size,0,none⟩) N N) (W.alloc (.cells (madeCells #[.slice none 0 0] (N*1)) 56)):=by
 obtain ⟨i0,hi,hy0,hy1,hy2⟩:=info_parts infoRowS
 have:=run_make (P:=Tryz.prog) W 213 56 i0 (.slice none 0 0) Tryz.underlying213 hi hy0 .i64 .i64 N N (by omega) (by omega) (by rw [hy2];omega) (by omega)
 rw [hy1] at this
 exact this
theorem rows_made (W:World) (N:Nat) (hN:N<1000000):RowsAt KSp (W.alloc (.cells (madeCells #[.slice none 0 0] (N*1)) 56)) (.slice (some ⟨W.heap.size,0,none⟩) N N) (List.replicate N (.slice none 0 0)) (List.replicate N []):=by
 have h:=World.ownsRow_lit (e:=56) (size:=1) (base:=0) W (madeCells #[.slice none 0 0] (N*1)) N (Nat.zero_le _) (by unfold maxLen;omega) (size_madeCells _ _)
 rw [Nat.mul_one,toList_madeCells_one] at h
 have hrep:∀(i:Nat) (u:Value),(List.replicate N (Value.slice none 0 0))[i]? = some u→u=.slice none 0 0:=fun i u hu=>by
  rw [List.getElem?_replicate] at hu
  split at hu
  ·simpa using hu.symm
  ·cases hu
 refine ⟨?_,by simp,?_,?_,?_⟩
 ·rw [List.length_replicate,Nat.mul_one];exact h
 ·intro i u l hu hl
  rw [hrep i u hu]
  rw [List.getElem?_replicate] at hl
  split at hl
  ·simp at hl;subst hl;exact World.ownsRow_nil _ _ _ _
  ·cases hl
 ·intro i u k hu hk
  rw [hrep i u hu] at hk;simp [blk] at hk
 ·intro i j u t k hu ht hk _
  rw [hrep i u hu] at hk;simp [blk] at hk
theorem segCount {w:World} {b fb:Nat} {ve vn va:Value} {vs:List Value} {E:List Int} {R:List (List Sp)} {c:Int} (h:SegAt w b fb ve vn va vs E R c) (x:Int)
 (hE:E.Pairwise (· < ·)) (hEl:E.length<100000) (hR:R.length=2*nSl E - 1) (hM:∀l∈R,l.length≤1000) :
 Calls Tryz.prog 87 #[.pointer (some ⟨b,0,none⟩),.int .i64 x] w fun e w'=>e=.returned (.tuple #[.int .i64 (cntS R (pathV E x):Nat),.int .i64 (touchV E x:Nat)])∧Upd [] w w':=by
 have hp:=segPath h x hE hEl
 have hlt:=pathV_lt hE x
 have hLl:(pathV E x).length≤400000:=by
  unfold pathV
  split
  ·have:=pathL_bound (nSl E) (slotX E x) 0 (nSl E) 0 (by omega) (by
    rename_i hb
    obtain ⟨a,z,h1,h2,h3⟩:=betwS_true hb
    have:=(slot_facts hE h1 h2 h3).1
    omega)
   unfold pathS
   unfold nSl at *
   omega
  ·simp
 obtain ⟨L,hL⟩:∃L,pathV E x=L:=⟨_,rfl⟩
 obtain ⟨T,hTT⟩:∃T,touchV E x=T:=⟨_,rfl⟩
 rw [hL] at hp hlt hLl ⊢
 rw [hTT] at hp ⊢
 have hcl:=cntS_le hM
 obtain ⟨N,hN⟩:∃N,L.length=N:=⟨_,rfl⟩
 have HP:=Lib.hid hp
 have H:=Lib.hid h
 have HL:=Lib.hid (And.intro hlt (And.intro hcl (And.intro hR hN)))
 have T0:(0:Int)≤(T:Int):=Int.natCast_nonneg _
 rw [hN] at hLl
 clear hp h hlt hcl hL hTT hM hR hN
 go_enter Tryz.func87,Tryz.ntmps87
 go_wp2_with fail
 (with_reducible refine HP.out.mono ?_)
 rintro e w1 ⟨A,C,rfl,r1,r2⟩
 rw [HL.out.2.2.2]
 rw [HL.out.2.2.2] at r1
 have HR:=Lib.hid (And.intro r1 r2)
 clear r1 r2
 go_wp2_with fail
 go_loopg [8,19] N (fun m s8 s19 wr=>∃k n:Nat,m+k=N∧n=cntS R (L.take k)∧s8=.int .i64 (n:Int)∧s19=.int .i64 (k:Int)∧wr=w1)
 case atStart=>exact ⟨0,0,rfl,rfl,rfl,rfl,rfl⟩
 case round=>
  obtain ⟨k,n,hk,hn,rfl,rfl,rfl⟩:=hrel
  have k0:(0:Int)≤(k:Int):=Int.natCast_nonneg _
  have n0:(0:Int)≤(n:Int):=Int.natCast_nonneg _
  have hnb:n≤400000000:=by
   have:=HL.out.2.1 (L.take k)
   rw [←hn,List.length_take,HL.out.2.2.2] at this
   have h2:min k N*1000≤400000*1000:=Nat.mul_le_mul_right _ (by omega)
   omega
  have HK:=Lib.hid (And.intro hk hn)
  clear hk hn
  by_cases hlt:k<N
  ·obtain ⟨p,hp⟩:∃p,L[k]? = some p:=⟨_,List.getElem?_eq_getElem (by rw [HL.out.2.2.2];exact hlt)⟩
   have hpl:p<R.length:=by rw [HL.out.2.2.1];exact HL.out.1 p (List.mem_of_getElem? hp)
   obtain ⟨gl,rfl,lc⟩:=rowN_at HR.out.1 hp
   have hs1:=H.out.upd0 HR.out.2
   obtain ⟨Aa,Ca,rfl⟩:=own_form hs1.rows.list
   have c2:=hs1.cells.2.2.1
   obtain ⟨ga,Ak,Ck,rfl,-,rc,-,rr⟩:=hs1.rows.at hpl
   have hRb:(R[p]).length≤1000:=by
    have:=HL.out.2.1 [p]
    simp [cntS,hpl] at this
    omega
   have hlen:vs.length=R.length:=hs1.rows.len
   have b1:(k:Int)<(N:Int):=by omega
   have p0:(0:Int)≤(p:Int):=Int.natCast_nonneg _
   have p1:(p:Int)<(vs.length:Int):=by omega
   obtain ⟨rl,hrl⟩:∃l,(R[p]).length=l:=⟨_,rfl⟩
   rw [hrl] at rc hRb
   have rl0:(0:Int)≤(rl:Int):=Int.natCast_nonneg _
   have HX:=Lib.hid (And.intro hp (And.intro hrl hpl))
   clear hp hrl rr hs1 hlen
   go_wp2_with fail
   go_roundg (N - (k+1))
   case measure=>have:=HK.out.1;omega
   case rel=>
    refine ⟨k+1,n+rl,by have:=HK.out.1;omega,?_,by go_num,by go_num,rfl⟩
    have hkl:=(List.getElem?_eq_some_iff.1 HX.out.1)
    obtain ⟨h1,h2⟩:=hkl
    rw [List.take_succ_eq_append_getElem h1,cntS_app,←HK.out.2,h2]
    have hpl:=HX.out.2.2
    have:=HX.out.2.1
    simp [cntS,hpl]
    exact this.symm
  ·have hkN:k=N:=by have:=HK.out.1;omega
   have hfin:n=cntS R L:=by
    rw [HK.out.2,hkN,List.take_of_length_le (by rw [HL.out.2.2.2];exact Nat.le_refl _)]
   have HF:=Lib.hid hfin
   clear hkN hfin
   go_wp2_with fail
   go_ret2
   exact ⟨by rw [←HF.out];rfl,HR.out.2⟩
end Go.Proofs.YtkbaaonchdeneaaGreat
