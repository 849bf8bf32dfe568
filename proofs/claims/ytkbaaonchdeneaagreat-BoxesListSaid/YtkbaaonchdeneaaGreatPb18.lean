/- ivl.grown: the tree over ends, of spans by Lo. Printed by mkgrown.py. ivl.Build: what it is made of. -/
import Derived.Test.YtkbaaonchdeneaaGreatPb17
set_option maxHeartbeats 8000000
set_option maxRecDepth 100000
namespace Go.Proofs.YtkbaaonchdeneaaGreat
open Go.RowKit
def Ov (E:List Int) (L:List Sp):Prop:=E.Pairwise (· < ·)∧(∀s∈L,s.lo∈E∧s.hi∈E∧s.lo≤s.hi)∧L.Pairwise fun a b=>a.lo≤b.lo
theorem dD {E:List Int} {a:Nat} {m:Int} (h:E[a]? = some m):E=E.take a++m::E.drop (a+1):=by
 obtain ⟨h1,rfl⟩:=AV h;rw [←List.drop_eq_getElem_cons h1,List.take_append_drop]
theorem Ov.less {E:List Int} {L:List Sp} (h:Ov E L) {a:Nat} {m:Int} (ha:E[a]? = some m):Ov (E.take a) (EW m L):=by
 obtain ⟨h1,h2,h3⟩:=h;have hs:=dD ha;have hp:=h1;rw [hs,List.pairwise_append,List.pairwise_cons] at hp
 have hin:∀x∈E,x<m→x∈E.take a:=fun x hx hm=>by
  rw [hs,List.mem_append,List.mem_cons] at hx;rcases hx with hx | hx | hx
  ·exact hx
  ·omega
  ·have:=hp.2.1.1 x hx;omega
 refine ⟨hp.1,fun s hs=>?_,h3.filter _⟩
 unfold EW at hs;simp at hs;obtain ⟨g1,g2,g3⟩:=h2 s hs.1;exact ⟨hin _ g1 (by omega),hin _ g2 hs.2,g3⟩
theorem Ov.more {E:List Int} {L:List Sp} (h:Ov E L) {a:Nat} {m:Int} (ha:E[a]? = some m):Ov (E.drop (a+1)) (EX m L):=by
 obtain ⟨h1,h2,h3⟩:=h;have hs:=dD ha;have hp:=h1;rw [hs,List.pairwise_append,List.pairwise_cons] at hp
 have hin:∀x∈E,m<x→x∈E.drop (a+1):=fun x hx hm=>by
  rw [hs,List.mem_append,List.mem_cons] at hx;rcases hx with hx | hx | hx
  ·have:=hp.2.2 x hx m (by simp);omega
  ·omega
  ·exact hx
 refine ⟨hp.2.1.2,fun s hs=>?_,h3.filter _⟩
 unfold EX at hs;simp at hs;obtain ⟨g1,g2,g3⟩:=h2 s hs.1;exact ⟨hin _ g1 hs.2.2,hin _ g2 (by omega),g3⟩
theorem qp {L:List Sp} {k:Nat} {s:Sp} {m:Int} (h:L[k]? = some s) (h1:s.hi<m):EW m (L.take (k+1))=EW m (L.take k)++[s]∧EY m (L.take (k+1))=EY m (L.take k)∧EX m (L.take (k+1))=EX m (L.take k):=by
 obtain ⟨g1,g2⟩:=AV h;unfold EW EY EX;rw [AZ g1,g2,List.filter_append,List.filter_append,List.filter_append];simp [h1]
theorem step_more {L:List Sp} {k:Nat} {s:Sp} {m:Int} (h:L[k]? = some s) (h1:¬s.hi<m) (h2:m<s.lo):EW m (L.take (k+1))=EW m (L.take k)∧EY m (L.take (k+1))=EY m (L.take k)∧EX m (L.take (k+1))=EX m (L.take k)++[s]:=by
 obtain ⟨g1,g2⟩:=AV h;unfold EW EY EX;rw [AZ g1,g2,List.filter_append,List.filter_append,List.filter_append];have h1':m≤s.hi:=by omega
 simp [h1',h2]
theorem vK {L:List Sp} {k:Nat} {s:Sp} {m:Int} (h:L[k]? = some s) (h1:¬s.hi<m) (h2:¬m<s.lo):EW m (L.take (k+1))=EW m (L.take k)∧EY m (L.take (k+1))=EY m (L.take k)++[s]∧EX m (L.take (k+1))=EX m (L.take k):=by
 obtain ⟨g1,g2⟩:=AV h;unfold EW EY EX;rw [AZ g1,g2,List.filter_append,List.filter_append,List.filter_append];have h1':m≤s.hi:=by omega
 have h2':s.lo≤m:=by omega
 simp [h1',h2']
def YU (w:World) (E:List Int) (L:List Sp) (e:Ending) (w':World):Prop:=
 Bf [] w w'∧∃(p:Value) (F:List Nat) (T:Kn),e=.returned p∧IX w' T p F∧(∀k∈F,w.heap.size≤k)∧T.depth≤BA E.length∧T.ok L
def dF (w:World) (K q:Nat) (Ez:Value) (s:Sp):Prop:=
 w.cell? ⟨K,1,none⟩=some Ez∧w.cell? ⟨q,0,none⟩=some (.int .i64 s.lo)∧w.cell? ⟨q,1,none⟩=some (.int .i64 s.hi)∧w.cell? ⟨q,2,none⟩=some (.int .u32 (s.id:Int))
theorem dF.upd {w w':World} {K q:Nat} {Ez:Value} {s:Sp} (h:dF w K q Ez s) {F:List Nat} (hu:Bf F w w') (h1:K∉F) (h2:q∉F):dF w' K q Ez s:=
 ⟨(hu.cell (World.block_lt_of_cell? w _ h.1) h1).trans h.1,(hu.cell (World.block_lt_of_cell? w _ h.2.1) h2).trans h.2.1,(hu.cell (World.block_lt_of_cell? w _ h.2.2.1) h2).trans h.2.2.1,(hu.cell (World.block_lt_of_cell? w _ h.2.2.2) h2).trans h.2.2.2⟩
theorem ZC {w w1:World} {base:Nat} {v:Value} {l:List Sp} {s:Sp} {A:Option Addr} {C:Nat} (HP:DY w w1 base 62 3 v l.length (Dt.all l) 1 (Dt.enc s) A C):Dt.row w1 base (.slice A (l.length+1) C) (l++[s]):=by
 have h1:=HP.own;unfold Kind.row;rw [AY,Dt.Ci];exact h1
theorem dG (E:List Int) (L:List Sp) (ve vl:Value) (w:World) (hE:E.length=0) (hin:Ov E L) (vM:See KL w ve E) :
 Calls Tryz.prog 173 #[ve,vl] w (YU w E L):=by
 obtain ⟨A,C,rfl⟩:=vM.form;have hE0:E = []:=List.eq_nil_of_length_eq_zero hE;subst hE0;have hL0:L = []:=List.eq_nil_iff_forall_not_mem.2 fun s hs=>by have:=(hin.2.1 s hs).1;simp at this
 clear vM hin hE;go_enter Tryz.func173,Tryz.ntmps173
 go_wp2_with fail
 go_ret
 exact ⟨Bf.refl _ _,_,[],.nil,rfl,⟨rfl,rfl⟩,by simp,Nat.zero_le _,hL0⟩
theorem a3T:∀(h:Nat) (E:List Int) (L:List Sp) (ve vl:Value) (w:World),E.length≤h→E.length<1000000→L.length<1000000→Ov E L→See KL w ve E→See Dt w vl L→
 Calls Tryz.prog 173 #[ve,vl] w (YU w E L):=by
 obtain ⟨i1,hi1,hy0,hy1,hy2⟩:=info_parts QD;obtain ⟨i0,hi0,hx0,hx1,hx2⟩:=info_parts D9;intro h;induction h with
 |zero=>
  intro E L ve vl w hE qw hLb hin vM hvl;exact dG E L ve vl w (by omega) hin vM
 |succ h ih=>
  intro E L ve vl w hE qw hLb hin vM hvl;by_cases hE0:E.length=0
  ·exact dG E L ve vl w hE0 hin vM
  have hIH:=ih;obtain ⟨A,C,rfl⟩:=vM.form;obtain ⟨B,D,rfl⟩:=hvl.form;obtain ⟨n,hn⟩:=AO E.length;obtain ⟨N,hN⟩:=AO L.length;obtain ⟨a,ha⟩:=AO ((n - 1) / 2);rw [hn] at hE qw hE0 vM ⊢;rw [hN] at hLb hvl ⊢;have han:a<n:=by omega
  obtain ⟨m,hm⟩:∃m,E[a]? = some m:=⟨_,AX (by omega)⟩;obtain ⟨b,o,hA,-,-,hcell⟩:=KL.at vM hm;subst hA;have hcv:Value.int .i64 (((n:Int) - 1) / 2)=Value.int .i64 (a:Int):=by congr 1;omega
  have hq0:((n:Int)==0)=false:=by simpa using hE0
  have a0:(0:Int)≤(a:Int):=AU _;have a1:(a:Int)<(n:Int):=by omega
  have n1:(n:Int)<1000000:=by omega
  have n0:(1:Int)≤(n:Int):=by omega
  have HIH:=AQ hIH;have HV:=Ai vM hvl;have HN:=Ap hn hN ha hm;have ZE:=AQ hin;have HW0:=AQ ((Bf.refl [] w).alloc (.cells #[.int .i64 m,.slice none 0 0,.slice none 0 0,.pointer none,.pointer none] 258));have hz0:w.heap.size<(w.alloc (.cells #[.int .i64 m,.slice none 0 0,.slice none 0 0,.pointer none,.pointer none] 258)).heap.size:=by simp
  have a6g:ZA (w.alloc (.cells #[.int .i64 m,.slice none 0 0,.slice none 0 0,.pointer none,.pointer none] 258)) w.heap.size m (.slice none 0 0) (.slice none 0 0) (.slice none 0 0) [] [] []:=
   ⟨by show (w.heap.push _)[w.heap.size]? = _;exact Array.getElem?_push_size,World.ownsRow_nil _ _ _ _,World.ownsRow_nil _ _ _ _,World.ownsRow_nil _ _ _ _,by simp [blk],by simp [blk],by simp [blk]⟩
  have a3U:=AQ a6g;have HEH:=AQ hE;have hwr:IntKind.i64.wrap ((a:Int)+1)=(a:Int)+1:=by simp [IntKind.wrap,IntKind.bits,IntKind.signed];omega
  have HWR:=AQ hwr;clear hIH ih vM hvl hn hN ha hm hin a6g hE hE0 hwr;go_enter Tryz.func173,Tryz.ntmps173
  go_upto_region 5 with fail
  simp only [hcv];clear hcv;generalize (w.alloc (.cells #[.int .i64 m,.slice none 0 0,.slice none 0 0,.pointer none,.pointer none] 258))=W0 at HW0 hz0 a3U ⊢;obtain ⟨K,hK⟩:=AO w.heap.size;rw [hK] at hz0 a3U ⊢;have HK:=AQ hK;clear hcell hK;go_wp2_with fail
  go_loopg [7,8,26] N (fun m' s7 s8 s26 wr=>∃(k:Nat) (Ez:Value),m'+k=N∧s26=.int .i64 (k:Int)∧ZA wr K m Ez s7 s8 (EY m (L.take k)) (EW m (L.take k)) (EX m (L.take k))∧Bf [] w wr)
  case atStart=>exact ⟨0,.slice none 0 0,rfl,rfl,a3U.out,HW0.out⟩
  case round=>
   obtain ⟨k,Ez,hk,rfl,hg,hup⟩:=hrel;have k0:(0:Int)≤(k:Int):=AU _;have hkN:k≤N:=by omega
   by_cases hlt:k<N
   ·obtain ⟨s,hs⟩:∃s,L[k]? = some s:=⟨_,AX (by rw [HN.2.1];exact hlt)⟩;have hse:See Dt wr (.slice B N D) L:=HV.2.Bh hup;obtain ⟨g,og,hB,-,-,ey⟩:=hse.at hs;subst hB;have y0:wr.cell? ⟨g,og+k*3,none⟩=some (.int .i64 s.lo):=ey 0 _ rfl;have y1:wr.cell? ⟨g,og+k*3+1,none⟩=some (.int .i64 s.hi):=ey 1 _ rfl;have y2:wr.cell? ⟨g,og+k*3+2,none⟩=some (.int .u32 (s.id:Int)):=ey 2 _ rfl;have b1:(k:Int)<(N:Int):=by omega
    have hlen:(EY m (L.take k)).length≤k∧(EW m (L.take k)).length≤k∧(EX m (L.take k)).length≤k:=by
     have h0:(L.take k).length≤k:=by rw [Ba];omega
     exact ⟨Bd (List.length_filter_le _ _) h0,Bd (List.length_filter_le _ _) h0,Bd (List.length_filter_le _ _) h0⟩
    have HLEN:=Aj (show (EY m (L.take k)).length+1≤1000000 by omega) (show (EW m (L.take k)).length+1≤1000000 by omega) (show (EX m (L.take k)).length+1≤1000000 by omega);have HS:=AQ hs;have HKK:=Ai hk hkN;have HG:=AQ hg;have HU:=AQ hup;clear hse ey hlen hs hg hup hk hkN;obtain ⟨wl,hwl⟩:∃wl:World,wl=wr:=⟨_,rfl⟩;subst hwl;go_upto_region 10 with fail
    have hu2:Bf [] wl (wl.alloc (.cells #[.int .i64 s.lo,.int .i64 s.hi,.int .u32 (s.id:Int)] 62)):=(Bf.refl _ _).alloc _;have d0:(wl.alloc (.cells #[.int .i64 s.lo,.int .i64 s.hi,.int .u32 (s.id:Int)] 62)).cell? ⟨wl.heap.size,0,none⟩=some (.int .i64 s.lo):=by rw [World.cell?_alloc_at _ _ _ _ rfl];rfl
    have d1:(wl.alloc (.cells #[.int .i64 s.lo,.int .i64 s.hi,.int .u32 (s.id:Int)] 62)).cell? ⟨wl.heap.size,1,none⟩=some (.int .i64 s.hi):=by rw [World.cell?_alloc_at _ _ _ _ rfl];rfl
    have d2:(wl.alloc (.cells #[.int .i64 s.lo,.int .i64 s.hi,.int .u32 (s.id:Int)] 62)).cell? ⟨wl.heap.size,2,none⟩=some (.int .u32 (s.id:Int)):=by rw [World.cell?_alloc_at _ _ _ _ rfl];rfl
    generalize (wl.alloc (.cells #[.int .i64 s.lo,.int .i64 s.hi,.int .u32 (s.id:Int)] 62))=W2 at hu2 d0 d1 d2 ⊢;obtain ⟨q,hq⟩:=AO wl.heap.size;have hqK:K<q:=by have h1:=lt_of_block HG.out.head;omega
    have hql:∀y∈blk Ez,y≠q:=fun y hy hc=>by have h1:=BK HG.out.lo y hy;omega
    rw [hq] at d0 d1 d2 ⊢;have hg2:=HG.out.Bh hu2;have hK0:=hg2.cells.1;have hz2:W0.heap.size≤W2.heap.size∨K+1≤W2.heap.size:=.inr (by have h1:=lt_of_block hg2.head;omega);have HG2:=AQ hg2;have Fq:=AQ (HU.out.trans hu2);have HQ:=Ai hqK hql;clear hg2 hu2 y0 y1 y2 hq hqK hql hz2;by_cases h1:s.hi<m
    ·have HST:=AQ (qp HS.out h1);go_wp2_with fail
     go_quiet (fail)
     (go_wp2_with (at_builtin;refine BL _ rfl _ _ 56 rfl (K+1) 62 i1 _ 3 24 Tryz.underlying56 hi1 hy0 hy1 hy2 rfl (by decide) _ _ _ rfl (Bg HG2.out.u (((Bf.refl [] W2).drewN _).alloc _) (by simp)) _ 1 (Dt.enc s) rfl (BM _ #[.int .i64 s.lo,.int .i64 s.hi,.int .u32 (s.id:Int)] 62 3 1 rfl (by decide)) (Dt.one s) (by have:=HLEN.2.1;unfold maxLen;omega) (Ac HLEN.2.1) (by have h1:=lt_of_block HG2.out.head;simp;omega) ?_))
     intro A1 C1 w1 HP;have hga:=ZA.b0A (HG2.out.Bh (((Bf.refl [] W2).drewN _).alloc _)) HP.upd (ZC HP) HP.at;have FM:=(Fq.out.trans (((Bf.refl [] W2).drewN _).alloc _)).trans' HP.upd (fun y hy=>.inr (by have h1:=BD HG2.out.u y hy;have h2:=HK.out;omega));have HE:=Ai hga FM;clear hga FM HP;go_wp2_with fail
     go_roundg (N - (k+1))
     case measure=>have:=HKK.1;omega
     case rel=>
      obtain ⟨e1,e2,e3⟩:=HST.out;exact ⟨k+1,Ez,Ac HKK.1,by go_num,by rw [e1,e2,e3];exact HE.1,HE.2⟩
    ·by_cases h2:m<s.lo
     ·have HST:=AQ (step_more HS.out h1 h2);have q1:decide (s.hi<m)=false:=decide_eq_false h1;have H2:=AQ (decide_eq_true h2);clear h1 h2;go_wp2_with fail
      go_quiet (fail)
      clear q1;have q2:decide (m<s.lo)=true:=H2.out;go_wp2_with fail
      go_quiet (fail)
      clear q2;(go_wp2_with (at_builtin;refine BL _ rfl _ _ 56 rfl (K+1) 62 i1 _ 3 24 Tryz.underlying56 hi1 hy0 hy1 hy2 rfl (by decide) _ _ _ rfl (Bg HG2.out.v (((Bf.refl [] W2).drewN _).alloc _) (by simp)) _ 1 (Dt.enc s) rfl (BM _ #[.int .i64 s.lo,.int .i64 s.hi,.int .u32 (s.id:Int)] 62 3 1 rfl (by decide)) (Dt.one s) (by have:=HLEN.2.2;unfold maxLen;omega) (Ac HLEN.2.2) (by have h1:=lt_of_block HG2.out.head;simp;omega) ?_))
      intro A1 C1 w1 HP;have hga:=ZA.b0B (HG2.out.Bh (((Bf.refl [] W2).drewN _).alloc _)) HP.upd (ZC HP) HP.at;have FM:=(Fq.out.trans (((Bf.refl [] W2).drewN _).alloc _)).trans' HP.upd (fun y hy=>.inr (by have h1:=BD HG2.out.v y hy;have h2:=HK.out;omega));have HE:=Ai hga FM;clear hga FM HP;go_wp2_with fail
      go_roundg (N - (k+1))
      case measure=>have:=HKK.1;omega
      case rel=>
       obtain ⟨e1,e2,e3⟩:=HST.out;exact ⟨k+1,Ez,Ac HKK.1,by go_num,by rw [e1,e2,e3];exact HE.1,HE.2⟩
     ·have HST:=AQ (vK HS.out h1 h2);have q1:decide (s.hi<m)=false:=decide_eq_false h1;have H2:=AQ (decide_eq_false h2);clear h1 h2;go_wp2_with fail
      go_quiet (fail)
      clear q1;have q2:decide (m<s.lo)=false:=H2.out;go_wp2_with fail
      go_quiet (fail)
      clear q2;go_upto_region 9 with fail
      generalize hwq:(W2.drewN _).drewN _=Wq;have huq:Bf [] W2 Wq:=hwq ▸ ((Bf.refl [] W2).drewN _).drewN _;have HKG:=AQ (dF.upd (w':=Wq.drew) ⟨HG2.out.cells.2.1,d0,d1,d2⟩ huq.drew (by simp) (by simp));have HGA:=AQ (HG2.out.Bh (huq.drew.alloc (.cells #[.int .i64 s.lo,.int .i64 s.hi,.int .u32 (s.id:Int)] 62)));have Gl:=AQ (Fq.out.trans (huq.drew.alloc (.cells #[.int .i64 s.lo,.int .i64 s.hi,.int .u32 (s.id:Int)] 62)));have HZA:=AQ (show K+1≤(Wq.drew.alloc (.cells #[.int .i64 s.lo,.int .i64 s.hi,.int .u32 (s.id:Int)] 62)).heap.size from by have h1:=lt_of_block HGA.out.head;omega);clear huq hwq d0 d1 d2 hK0;refine Bj.start [7,8,9,10] (fun w'=>dF w' K q Ez s) (by kernel_rfl) ?_ fun hS=>?_
      ·exact HKG.out
      refine' Bj.mw 0 (oi:=⟨some 30,_,_,_,_,_⟩) ?_
      simp only [Act.put,sA,sZ,sS];refine' Bj.mw 1 (oi:=⟨some 31,_,_,_,_,_⟩) ?_
      simp only [Act.put,sA,sZ,sS];refine' Bj.mw 2 (oi:=⟨some 32,_,_,_,_,_⟩) ?_
      simp only [Act.put,sA,sZ,sS];refine' Bj.mw 3 (oi:=⟨some 33,_,_,_,_,_⟩) ?_
      simp only [Act.put,sA,sZ,sS];refine' Bj.tk 2 (i:=4) (oi:=⟨some 34,_,_,_,_,_⟩) rfl (by rfl) ?b0D ?_
      case b0D=>intro w hSw;obtain ⟨s0,s1,s2,s3⟩:=hSw;go_simp<;>with_reducible rfl
      simp only [Act.put,sA,sZ,sS];refine' Bj.tk 2 (i:=5) (oi:=⟨some 35,_,_,_,_,_⟩) rfl (by rfl) ?b0E ?_
      case b0E=>intro w hSw;obtain ⟨s0,s1,s2,s3⟩:=hSw;go_simp<;>with_reducible rfl
      simp only [Act.put,sA,sZ,sS];refine Bj.one (i:=6) (o:=⟨some 36,_,_,_,_,_⟩) rfl (by kernel_rfl) fun Kt hK=>?_
      go_simp
      refine hK.out _ _ (fun _ h=>?_) ?_
      ·exact h.upd ((Bf.refl [] _).alloc _) (by simp) (by simp)
      clear hK Kt;try simp only [Act.put,sA,sZ,sS]
      refine Bj.one (i:=7) (o:=⟨some 37,_,_,_,_,_⟩) rfl (by kernel_rfl) fun Kt hK=>?_
      refine FH _ (by rfl) _ _ 56 (by rfl) (K+1) 62 i1 (.agg #[.int .i64 0,.int .i64 0,.int .u32 0]) 3 24 Tryz.underlying56 hi1 hy0 hy1 hy2 rfl (by decide) _ _ _ (by rfl) (HGA.out.lo) _ 1 (Dt.enc s) (by rfl) (BM _ #[.int .i64 s.lo,.int .i64 s.hi,.int .u32 (s.id:Int)] 62 3 1 rfl (by decide)) (Dt.one s) (by have:=HLEN.1;unfold maxLen;omega) (Ac HLEN.1) HZA.out ?_
      intro A1 C1 w1 HP1;have hgl:=ZA.b0C HGA.out HP1.upd (ZC HP1) HP1.at;have hkn:K∉blk Ez:=fun hc=>by have:=BD HGA.out.lo K hc;omega
      have hcK:w1.cell? ⟨K,1,none⟩=some Ez:=(HP1.upd.cell (World.block_lt_of_cell? _ _ HGA.out.cells.2.1) hkn).trans HGA.out.cells.2.1;have hfK:w1.frozen? ⟨K,1,none⟩=false:=(HP1.upd.frozen (World.block_lt_of_cell? _ _ HGA.out.cells.2.1) hkn).trans (HGA.out.cells.2.2.2 1);have qC:=Ai hgl HP1.upd;clear hgl hkn HP1;refine hK.out _ _ (fun h=>(by cases h)) ?_
      clear hK Kt;try simp only [Act.put,sA,sZ,sS]
      refine' Bj.mw 8 (oi:=⟨some 38,_,_,_,_,_⟩) ?_
      simp only [Act.put,sA,sZ,sS];refine' Bj.mw 9 (oi:=⟨some 39,_,_,_,_,_⟩) ?_
      simp only [Act.put,sA,sZ,sS];refine Bj.one (i:=10) (o:=⟨none,_,_,_,_,_⟩) rfl (by kernel_rfl) fun Kt hK=>?_
      go_simp
      clear hcK hfK;refine hK.out _ _ (fun h=>(by cases h)) ?_
      clear hK Kt;try simp only [Act.put,sA,sZ,sS]
      refine Bj.done (by kernel_rfl) ?_
      go_wp2_with fail
      go_roundg (N - (k+1))
      case measure=>have:=HKK.1;omega
      case rel=>
       obtain ⟨e1,e2,e3⟩:=HST.out;exact ⟨k+1,_,Ac HKK.1,by go_num,by rw [e1,e2,e3];exact qC.1,(Gl.out.trans' qC.2 (fun y hy=>.inr (by have h1:=BD HGA.out.lo y hy;have h2:=HK.out;omega))).setCell (p:=⟨K,1,none⟩) (.inr (by have h2:=HK.out;show w.heap.size≤K;omega)) _⟩
   ·have a6h:k=N:=by omega
    have Vs:L.take k=L:=by rw [a6h,←HN.2.1];exact List.take_length
    rw [Vs] at hg;have hlo:=hg.cells.2.1;have hb1:(EY m L).length<1000000:=Nat.lt_of_le_of_lt (List.length_filter_le _ _) (by rw [HN.2.1];exact hLb);have HB1:=AQ hb1;have uY:=AQ (mD Ez (EY m L) wr (See.BX hg.lo) hb1);have HG:=AQ hg;have HU:=AQ hup;clear Vs a6h hk hg hup hb1 hkN;go_wp2_with fail
    (with_reducible refine uY.out.mono ?_);rintro e w1 ⟨u1,A1,C1,rfl,r1⟩;have hK2:=(u1.cell (p:=⟨K,2,none⟩) (lt_of_block HG.out.head) (by simp)).trans HG.out.cells.2.2.1;have hF2:=(u1.frozen (p:=⟨K,2,none⟩) (lt_of_block HG.out.head) (by simp)).trans (HG.out.cells.2.2.2 2);have tX:=AQ (HG.out.Bh u1);have FY:=AQ (HU.out.trans u1);have HR1:=Ai r1 u1.size;clear u1 r1 hlo;go_upto_region 16 with fail
    clear hK2 hF2;have hs5:Bf [K] w1 (w1.setCell ⟨K,2,none⟩ (.slice A1 (EY m L).length C1)):=(Bf.refl _ _).setCell (p:=⟨K,2,none⟩) (.inl (by simp)) _;have hgK:∀{x:Value} {l:List Sp},Dt.row w1 (K+1) x l→∀y∈blk x,y∉[K]:=fun hx y hy hc=>by simp at hc;have:=BD hx y hy;omega
    have hwz:K<wr.heap.size:=lt_of_block HG.out.head;have hr1:Dt.row w1 (K+1) (.slice A1 (EY m L).length C1) (EY m L):=own_base HR1.1 (by omega)
    have hM5:GrM (w1.setCell ⟨K,2,none⟩ (.slice A1 (EY m L).length C1)) K m Ez (.slice A1 (EY m L).length C1) (EY m L) (EY m L):=
     ⟨heap_set tX.out.head 2 _,Bg tX.out.lo hs5 (hgK tX.out.lo),Bg hr1 hs5 (hgK hr1),fun y hy hc=>by have h1:=BK HG.out.lo y hy;have h2:=BD HR1.1 y hc;omega⟩
    have GR:=Bg tX.out.u hs5 (hgK tX.out.u);have hv5:=Bg tX.out.v hs5 (hgK tX.out.v);have hn5:∀{x:Value} {l:List Sp},Dt.row wr (K+1) x l→∀y∈blk x,y∉blk (.slice A1 (EY m L).length C1):=fun hx y hy hc=>by have h1:=BK hx y hy;have h2:=BD HR1.1 y hc;omega
    have HN5:=Ai (hn5 HG.out.u) (hn5 HG.out.v);have LJ:=AQ (FY.out.trans' hs5 (fun y hy=>.inr (by simp at hy;have h2:=HK.out;omega)));generalize (w1.setCell ⟨K,2,none⟩ (.slice A1 (EY m L).length C1))=W5 at hM5 GR hv5 LJ ⊢;generalize (Value.slice A1 (EY m L).length C1)=Ip at hM5 HN5 ⊢;have c52:=hM5.cells.2.2.1;have tC:=AQ (qg (K+1) Ip (EY m L) W5 hM5.hi HB1.out);have HM5:=Aj hM5 GR hv5;clear hs5 hgK hwz hr1 hM5 GR hv5 hn5;go_wp2_with fail
    (with_reducible refine tC.out.mono ?_);rintro e w6 ⟨rfl,u6,l',hp,hpw,r6⟩
    have hM6:GrM w6 K m Ez Ip (EY m L) l':=
     ⟨(u6.block K (lt_of_block HM5.1.head) (fun hc=>by have:=BD HM5.1.hi K hc;omega)).trans HM5.1.head,Bg HM5.1.lo u6 HM5.1.lh,r6,HM5.1.lh⟩
    have hU6:=LJ.out.trans' u6 (fun y hy=>.inr (by have h1:=BD HM5.1.hi y hy;have h2:=HK.out;omega));have hl6:=See.BX (Bg HM5.2.1 u6 HN5.1);have hv6:=See.BX (Bg HM5.2.2 u6 HN5.2);have vN:=HV.1.Bh hU6;obtain ⟨X1,Y1,a6i,a6j,-⟩:=See.take (K:=KL) (P:=Tryz.prog) Tryz.underlying57 hi0 hx1 vN a (by rw [HN.1];omega);have a3V:=vN;unfold See at a3V;obtain ⟨X2,Y2,a3W,a6k,-⟩:=Nj (P:=Tryz.prog) (t:=57) Tryz.underlying57 hi0 hx1 a3V (a+1) (by rw [HN.1];omega);rw [HN.1] at a3W;have b1Z:∀w',(Instr.slice 57 (.slice (some ⟨b,o,none⟩) n C) none (some (.int .i64 (a:Int))) none).run Tryz.prog w'=.ok (.slice X1 a Y1) w':=a6i;have b2a:∀w',(Instr.slice 57 (.slice (some ⟨b,o,none⟩) n C) (some (.int .i64 ((a:Int)+1))) none none).run Tryz.prog w'=.ok (.slice X2 (n - (a+1)) Y2) w':=a3W;have hdl:(E.drop (a+1)).length=n - (a+1):=by rw [List.length_drop,HN.1]
    have htl:(E.take a).length=a:=by rw [Ba,HN.1];omega
    have hdr:=(Bf.refl [] w6).drew;have hless:(EW m L).length<1000000:=Nat.lt_of_le_of_lt (List.length_filter_le _ _) (by rw [HN.2.1];exact hLb);have hmore:(EX m L).length<1000000:=Nat.lt_of_le_of_lt (List.length_filter_le _ _) (by rw [HN.2.1];exact hLb);have RX:=AQ (HIH.out (E.take a) (EW m L) _ _ w6.drew (Ac HEH) (by omega) hless (ZE.out.less HN.2.2.2) ((a6j w6 vN).Bh hdr) (hl6.Bh hdr))
    have hs2:∀w',Bf [] w6 w'→See KL w' (.slice X2 (n - (a+1)) Y2) (E.drop (a+1)):=fun w' hu=>by
     have h8:=a6k w' (vN.Bh hu);rw [HN.1] at h8;unfold See;rw [hdl,Kind.Nc];exact h8
    have HL2:=AQ (fun w' (hu:Bf [] w6 w')=>HIH.out (E.drop (a+1)) (EX m L) _ _ w' (Ac HEH) (by omega) hmore (ZE.out.more HN.2.2.2) (hs2 w' hu) (hv6.Bh hu));have HM6:=Aj hM6 hp hpw;have Jv:=AQ hU6;have HD6:=AQ hdr;have l7:=Ai htl hdl;clear c52 u6 hp hpw r6 hM6 hU6 hl6 hv6 vN a3V a6i a3W a6j a6k hdl htl hdr hless hmore hs2;go_upto_region 17 with fail
    have hwr:=HWR.out;refine Bj.start [0,1,2,3,4,5,6,7,8,9,10,11,12,13,14,15,16,17,18] (fun _=>True) (by kernel_rfl) ?_ fun hS=>?_
    ·trivial
    refine' Bj.mw 0 (oi:=⟨some 78,_,_,_,_,_⟩) ?_
    simp only [Act.put,sA,sZ,sS];refine' Bj.mw 1 (oi:=⟨some 79,_,_,_,_,_⟩) ?_
    simp only [Act.put,sA,sZ,sS];refine' Bj.mw 2 (oi:=⟨some 80,_,_,_,_,_⟩) ?_
    simp only [Act.put,sA,sZ,sS];refine' Bj.mw 3 (oi:=⟨some 81,_,_,_,_,_⟩) ?_
    simp only [Act.put,sA,sZ,sS];refine' Bj.mw 4 (oi:=⟨some 82,_,_,_,_,_⟩) ?_
    simp only [Act.put,sA,sZ,sS];refine' Bj.mw 5 (oi:=⟨some 83,_,_,_,_,_⟩) ?_
    simp only [Act.put,sA,sZ,sS];refine' Bj.mw 7 (oi:=⟨some 85,_,_,_,_,_⟩) ?_
    simp only [Act.put,sA,sZ,sS];refine' Bj.mw 8 (oi:=⟨some 86,_,_,_,_,_⟩) ?_
    simp only [Act.put,sA,sZ,sS];refine' Bj.mw 9 (oi:=⟨some 87,_,_,_,_,_⟩) ?_
    simp only [Act.put,sA,sZ,sS];refine' Bj.mw 10 (oi:=⟨some 88,_,_,_,_,_⟩) ?_
    simp only [Act.put,sA,sZ,sS];refine' Bj.mw 11 (oi:=⟨some 89,_,_,_,_,_⟩) ?_
    simp only [Act.put,sA,sZ,sS];refine Bj.one (i:=6) (o:=⟨some 84,_,_,_,_,_⟩) rfl (by kernel_rfl) fun Kt hK=>?_
    go_simp
    go_at_call 173
    (with_reducible refine RX.out.mono ?_);rintro e wA ⟨uA,pA,FA,TA,rfl,kA,gA,dA,oA⟩;obtain ⟨qA,rfl⟩:=kA.ptr;have HA:=Aq uA kA gA dA oA;clear uA kA gA dA oA;refine hK.out _ _ (fun h=>(by cases h)) ?_
    clear hK Kt;try simp only [Act.put,sA,sZ,sS]
    refine Bj.one (i:=12) (o:=⟨some 90,_,_,_,_,_⟩) rfl (by kernel_rfl) fun Kt hK=>?_
    go_simp
    go_at_call 173
    (with_reducible refine (HL2.out _ (HD6.out.trans HA.out.1)).mono ?_);rintro e wB ⟨uB,pB,FB,TB,rfl,kB,gB,dB,oB⟩;obtain ⟨qB,rfl⟩:=kB.ptr;have hMB:=HM6.1.Bh ((HD6.out.trans HA.1).trans uB);have hkids:=hMB.kids (HA.2.1.Bh uB) kB (B:=w6.heap.size) (lt_of_block HM6.1.head) (BK HM6.1.lo) (BK HM6.1.hi) (fun k hk=>Bd HD6.out.size (HA.2.2.1 k hk)) (fun k hk=>by have h1:=gB k hk;have h2:=HA.1.size;have h3:=HD6.out.size;omega) (fun k hk hc=>by have h1:=HA.2.1.lt k hk;have h2:=gB k hc;omega) HA.2.1.nodup kB.nodup;have JG:=Aq uB kB gB dB oB;have hh3:=hMB.head;have hh4:=heap_set hMB.head 3 (.pointer qA);have hc3:wB.cell? ⟨K,3,none⟩=some (.pointer none):=by simp [World.cell?,hh3]
    have hf3:wB.frozen? ⟨K,3,none⟩=false:=by simp [World.frozen?,hh3]
    have hc4:(wB.setCell ⟨K,3,none⟩ (.pointer qA)).cell? ⟨K,4,none⟩=some (.pointer none):=by simp [World.cell?,hh4]
    have hf4:(wB.setCell ⟨K,3,none⟩ (.pointer qA)).frozen? ⟨K,4,none⟩=false:=by simp [World.frozen?,hh4]
    clear uB kB gB dB oB hMB hh3 hh4;refine hK.out _ _ (fun h=>(by cases h)) ?_
    clear hK Kt;try simp only [Act.put,sA,sZ,sS]
    refine' Bj.mw 13 (oi:=⟨some 91,_,_,_,_,_⟩) ?_
    simp only [Act.put,sA,sZ,sS];refine' Bj.mw 14 (oi:=⟨some 92,_,_,_,_,_⟩) ?_
    simp only [Act.put,sA,sZ,sS];refine Bj.one (i:=15) (o:=⟨none,_,_,_,_,_⟩) rfl (by kernel_rfl) fun Kt hK=>?_
    go_simp
    clear hc3 hf3;refine hK.out _ _ (fun h=>(by cases h)) ?_
    clear hK Kt;try simp only [Act.put,sA,sZ,sS]
    refine' Bj.mw 16 (oi:=⟨some 93,_,_,_,_,_⟩) ?_
    simp only [Act.put,sA,sZ,sS];refine' Bj.mw 17 (oi:=⟨some 94,_,_,_,_,_⟩) ?_
    simp only [Act.put,sA,sZ,sS];refine Bj.one (i:=18) (o:=⟨none,_,_,_,_,_⟩) rfl (by kernel_rfl) fun Kt hK=>?_
    go_simp
    clear hc4 hf4;refine hK.out _ _ (fun h=>(by cases h)) ?_
    clear hK Kt;try simp only [Act.put,sA,sZ,sS]
    refine Bj.done (by kernel_rfl) ?_
    have a6l:=AQ hkids;clear hkids;go_wp2_with fail
    go_ret
    have hfin:=HM6.1;have hsz:w.heap.size≤w6.heap.size:=Jv.out.size;refine ⟨((Jv.out.trans HD6.out).trans (HA.1.trans JG.1)).trans' a6l.2 (fun y hy=>.inr (by simp at hy;have h2:=HK.out;omega)),_,_,_,rfl,a6l.1,fun k hk=>?_,?_,?_⟩
    ·have h2:=HK.out;simp only [List.mem_cons,List.mem_append] at hk;rcases hk with hk | hk | hk | hk | hk
     ·omega
     ·have:=BD hfin.lo k hk;omega
     ·have:=BD hfin.hi k hk;omega
     ·have h1:=HA.2.2.1 k hk;have h3:=HD6.out.size;omega
     ·have h1:=JG.2.2.1 k hk;have h3:=HD6.out.size;have h4:=HA.1.size;omega
    ·have h1:=HA.2.2.2.1;have h2:=JG.2.2.2.1;rw [l7.1] at h1;rw [l7.2] at h2;have h3:=HN.2.2.1;have h4:=Jg (n:=n) (by omega) (k:=a) (by omega);have h5:=Jg (n:=n) (by omega) (k:=n - (a+1)) (by omega);rw [HN.1];simp only [Kn.depth];omega
    ·exact ⟨⟨List.Perm.refl _,ZE.2.2.filter _⟩,⟨HM6.2.1,HM6.2.2⟩,HA.2.2.2.2,JG.2.2.2.2⟩
structure Me (w:World) (b:Nat) (p vr:Value) (R:List Sp) (T:Kn) (Fk:List Nat):Prop where
 head:w.heap[b]? = some (.cells #[.bool true,p,vr] 182 (0,0))
 row:Dt.row w 0 vr R
 tree:IX w T p Fk
 bro:b∉blk vr
 btr:b∉Fk
 rtr:∀k∈blk vr,k∉Fk
theorem Me.upd {w w':World} {b:Nat} {p vr:Value} {R:List Sp} {T:Kn} {Fk:List Nat} (h:Me w b p vr R T Fk) {F:List Nat} (hu:Bf F w w') (h1:b∉F) (h2:∀k∈blk vr,k∉F) (h3:∀k∈Fk,k∉F):Me w' b p vr R T Fk:=
 ⟨(hu.block b (lt_of_block h.head) h1).trans h.head,Bg h.row hu h2,h.tree.upd hu h3,h.bro,h.btr,h.rtr⟩
theorem Me.Bh {w w':World} {b:Nat} {p vr:Value} {R:List Sp} {T:Kn} {Fk:List Nat} (h:Me w b p vr R T Fk) (hu:Bf [] w w'):Me w' b p vr R T Fk:=h.upd hu (by simp) (by simp) (by simp)
theorem Me.cells {w:World} {b:Nat} {p vr:Value} {R:List Sp} {T:Kn} {Fk:List Nat} (h:Me w b p vr R T Fk) :
 w.cell? ⟨b,0,none⟩=some (.bool true)∧w.cell? ⟨b,1,none⟩=some p∧w.cell? ⟨b,2,none⟩=some vr∧∀j,w.frozen? ⟨b,j,none⟩=false:=by
 have:=h.head;refine ⟨?_,?_,?_,?_⟩<;>simp [World.cell?,World.frozen?,this]
structure OO (w:World) (b:Nat) (F:List Nat) (S:List Sp) (N:Nat):Prop where
 at_:∃(p vr:Value) (R:List Sp) (T:Kn) (Fk:List Nat),Me w b p vr R T Fk∧(∀k,k=b∨k∈blk vr∨k∈Fk→k∈F)∧R.Perm S∧R.Pairwise (fun a b=>a.lo≤b.lo)∧T.ok R∧T.depth≤BA (2*N)
 right:∀s∈S,s.lo≤s.hi
 names:(S.map Sp.id).Nodup
 many:S.length≤N
 few:N≤1000
 flt:∀k∈F,k<w.heap.size
theorem OO.upd {w w':World} {b:Nat} {F:List Nat} {S:List Sp} {N:Nat} (h:OO w b F S N) {G:List Nat} (hu:Bf G w w') (hd:∀k∈F,k∉G):OO w' b F S N:=by
 obtain ⟨p,vr,R,T,Fk,h1,h2,h3⟩:=h.at_;exact ⟨⟨p,vr,R,T,Fk,h1.upd hu (hd _ (h2 _ (.inl rfl))) (fun k hk=>hd _ (h2 _ (.inr (.inl hk)))) (fun k hk=>hd _ (h2 _ (.inr (.inr hk)))),h2,h3⟩,h.right,h.names,h.many,h.few,fun k hk=>Bc (h.flt k hk) hu.size⟩
theorem OO.Bh {w w':World} {b:Nat} {F:List Nat} {S:List Sp} {N:Nat} (h:OO w b F S N) (hu:Bf [] w w'):OO w' b F S N:=h.upd hu (by simp)
theorem dH {l R:List Sp} (hr:∀s∈l,s.lo≤s.hi) (hp:R.Perm l) (hs:R.Pairwise fun a b=>a.lo≤b.lo):Ov (Vr l) R:=by
 refine ⟨jf l,fun s h=>?_,hs⟩
 have h1:=hp.mem_iff.1 h;exact ⟨Mc (List.mem_flatMap.2 ⟨s,h1,by simp⟩),Mc (List.mem_flatMap.2 ⟨s,h1,by simp⟩),hr s h1⟩
theorem jq {a b:Nat} (h:a≤b):BA a≤BA b:=CQ a _ (Nat.lt_of_le_of_lt h (D7 b))
theorem jr (v:Value) (l:List Sp) (w:World) (h:See Dt w v l) (hid:∀s∈l,s.id<4294967296) (hl:l.length≤1000) (hr:RN l=true) :
 Calls Tryz.prog 109 #[v] w fun e w'=>Bf [] w w'∧∃b F,e=.returned (.tuple #[.pointer (some ⟨b,0,none⟩),.int .i64 0])∧OO w' b F l l.length∧∀k∈F,w.heap.size≤k:=by
 obtain ⟨A,C,rfl⟩:=h.form;have iU:=vF _ l w h hid (by omega);rw [hr] at iU;obtain ⟨hr1,hr2⟩:=Oq.1 hr;obtain ⟨N,hN⟩:=AO l.length;rw [hN] at iU hl ⊢;obtain ⟨i0,hi0,hz0,hz1,hz2⟩:=info_parts D9;have HR:=AQ iU;have H:=AQ h;have HN:=AQ hN;have HR1:=Ai hr1 hr2;have b0:(0:Int)≤(N:Int):=AU _;have b1:(N:Int)≤1000:=by omega
 clear h hid hr hN iU hr1 hr2;go_enter Tryz.func109,Tryz.ntmps109
 go_wp2_with fail
 (with_reducible refine HR.out.mono ?_);rintro e w0 ⟨rfl,u0⟩;have hcl:=mD _ l w0 (H.out.Bh u0) (by rw [HN.out];omega);rw [HN.out] at hcl;have uY:=AQ hcl;have ET:=AQ u0;clear u0 hcl;go_wp2_with fail
 (with_reducible refine uY.out.mono ?_);rintro e w3 ⟨u3,A3,C3,rfl,r3⟩;have hso:=qh w0.heap.size _ l w3 r3 (by rw [HN.out];omega);rw [HN.out] at hso r3 ⊢;have tC:=AQ hso;have Gj:=Ai r3 (ET.out.trans u3);clear u3 r3 hso;go_wp2_with fail
 (with_reducible refine tC.out.mono ?_);rintro e w1 ⟨rfl,u1,R,hp,hpw,r1⟩;have hRl:R.length=N:=by rw [hp.length_eq,HN.out]
 obtain ⟨vr,hvr⟩:=AO (Value.slice A3 N C3);rw [hvr] at r1 u1 Gj ⊢;have HU:=AQ (Gj.2.trans' u1 (fun y hy=>.inr (by have h1:=BD r1 y hy;have h2:=ET.out.size;omega)));have HP:=Aq hp hpw r1 hRl hvr;clear u1 hp hpw r1 hRl hvr;go_wp2_with fail
 go_loopg [5,20] N (fun m s5 s20 wr=>∃(k:Nat) (vo:Value),m+k=N∧s5=vo∧s20=.int .i64 (k:Int)∧KL.row wr w1.heap.size vo (JI (l.take k))∧Bf [] w1 wr)
 case atStart=>exact ⟨0,_,rfl,rfl,rfl,World.ownsRow_nil _ _ _ _,Bf.refl _ _⟩
 case round=>
  obtain ⟨k,vo,hk,rfl,rfl,hrow,hup⟩:=hrel;have k0:(0:Int)≤(k:Int):=AU _;have hkN:k≤N:=by omega
  have hwz:=hup.size;have HK:=AQ hk;have LP:=AQ hrow;have Rk:=AQ hup;clear hk hrow hup;by_cases hlt:k<N
  ·obtain ⟨s,hs⟩:∃s,l[k]? = some s:=⟨_,AX (by rw [HN.out];exact hlt)⟩;have hse:See Dt wr (.slice A l.length C) l:=H.out.Bh (HU.out.trans Rk.out);obtain ⟨g,o,rfl,-,-,ey⟩:=hse.at hs
   have htk:JI (l.take (k+1))=JI (l.take k)++[s.lo,s.hi]:=by
    obtain ⟨h1,h2⟩:=AV hs;rw [AZ h1,h2,pO];simp [JI]
   have hlen:(JI (l.take k)).length=2*k:=by rw [UN,Ba,HN.out];omega
   have y0:wr.cell? ⟨g,o+k*3,none⟩=some (.int .i64 s.lo):=ey 0 _ rfl;have y1:wr.cell? ⟨g,o+k*3+1,none⟩=some (.int .i64 s.hi):=ey 1 _ rfl;have y2:wr.cell? ⟨g,o+k*3+2,none⟩=some (.int .u32 (s.id:Int)):=ey 2 _ rfl;have b2:(k:Int)<(N:Int):=by omega
   have HTK:=AQ htk;have HLE:=AQ hlen;have hrow2:=LP.out;unfold Kind.row at hrow2;rw [hlen] at hrow2;have HR2:=AQ hrow2;clear hs hse ey htk hlen hrow2;obtain ⟨wl,hwl⟩:∃wl:World,wl=wr:=⟨_,rfl⟩;subst hwl;go_upto_region 11 with fail
   have hu2:Bf [] wl (wl.alloc (.cells #[.int .i64 s.lo,.int .i64 s.hi,.int .u32 (s.id:Int)] 62)):=(Bf.refl _ _).alloc _;have d0:(wl.alloc (.cells #[.int .i64 s.lo,.int .i64 s.hi,.int .u32 (s.id:Int)] 62)).cell? ⟨wl.heap.size,0,none⟩=some (.int .i64 s.lo):=by rw [World.cell?_alloc_at _ _ _ _ rfl];rfl
   have d1:(wl.alloc (.cells #[.int .i64 s.lo,.int .i64 s.hi,.int .u32 (s.id:Int)] 62)).cell? ⟨wl.heap.size,1,none⟩=some (.int .i64 s.hi):=by rw [World.cell?_alloc_at _ _ _ _ rfl];rfl
   generalize (wl.alloc (.cells #[.int .i64 s.lo,.int .i64 s.hi,.int .u32 (s.id:Int)] 62))=W2 at hu2 d0 d1 ⊢;have b2d:w1.heap.size≤W2.heap.size:=Bd hwz hu2.size;have Fq:=AQ (Rk.out.trans hu2);have HR3:=AQ (Bg HR2.out hu2 (by simp));clear hu2 y0 y1 y2;go_wp2_with (at_builtin;refine BL _ rfl _ _ 57 rfl w1.heap.size 2 i0 (.int .i64 0) 1 8 Tryz.underlying57 hi0 hz0 hz1 hz2 rfl (by decide) _ (2*k) (KL.all (JI (l.take k))) rfl (Bg HR3.out ((Bf.refl [] _).alloc _) (by simp)) _ 2 [.int .i64 s.lo,.int .i64 s.hi] rfl (BM W2 #[.int .i64 s.lo,.int .i64 s.hi] 2 1 2 rfl (by decide)) (by simp [Value.oneCell']) (by unfold maxLen;omega) (by omega) (by simp;omega) ?_)
   intro A2 C2 W3 HP3;have iq:=AQ HP3;clear HP3 d0 d1;go_wp2_with fail
   go_roundg (N - (k+1))
   case measure=>have:=HK.out;omega
   case rel=>
    have hu3:=((Bf.refl _ W2).alloc (.cells #[.int .i64 s.lo,.int .i64 s.hi] 2)).trans iq.out.upd;refine ⟨k+1,_,Ac HK,rfl,by go_num,?_,Fq.out.trans' hu3 (fun y hy=>.inr (BD HR3.out y hy))⟩
    rw [HTK.out];unfold Kind.row;rw [AY,HLE.out,KL.Ci];exact iq.out.own
  ·have a0L:k=N:=by omega
   have hL':l.take k=l:=by rw [a0L,←HN.out];exact List.take_length
   have hrow:=LP.out;rw [hL'] at hrow;obtain ⟨Ae,Ce,rfl⟩:=Bv hrow;have hle:=UN l;rw [HN.out] at hle;have vg:=Xc _ (JI l) wr (See.BX hrow) (by omega);rw [hle] at vg;rw [hle];have HSQ:=AQ vg;have lS:=AQ Rk.out;clear hL' hrow vg hle a0L;go_wp2_with fail
   (with_reducible refine HSQ.out.mono ?_);rintro e w2 ⟨A2,C2,rfl,s1,s2⟩;have hE1:(Vr l).length≤2*N:=by have:=pR l;rw [HN.out] at this;exact this
   have Nr:=lS.out.trans s2;have hgr:=a3T (Vr l).length (Vr l) R (.slice A2 (Vr l).length C2) vr w2 (Nat.le_refl _) (by omega) (by rw [HP.2.2.2.1];omega) (dH HR1.1 HP.1 HP.2.1) (See.BX s1) (See.BX (Bg HP.2.2.1 Nr (by simp)));have HGR:=AQ hgr;have HE1:=AQ hE1;have a6m:=AQ Nr;clear hgr hE1 s1 s2 Nr;unfold Vr at HGR;go_wp2_with fail
   (with_reducible refine HGR.out.mono ?_);rintro e w5 ⟨u5,p,Fk,T,rfl,kT,gT,dT,oT⟩;obtain ⟨q,rfl⟩:=kT.ptr;have HT:=Aq u5 kT gT dT oT;have HVR:=AQ HP.2.2.2.2;clear u5 kT gT dT oT;subst vr;go_wp2_with fail
   go_ret2
   have a3X:=a6m.out.trans HT.1;have FM:Bf [] w5 (w5.alloc (.cells #[.bool true,.pointer q,.slice A3 N C3] 182)):=(Bf.refl _ _).alloc _;have hrw:=HP.2.2.1;have hlt1:=BK hrw;have b0F:=BD hrw;have hz0:=ET.out.size;have hz1:=HU.out.size;have hz5:=a3X.size;have hz2:=a6m.out.size
   refine ⟨(HU.out.trans a3X).trans FM,w5.heap.size,w5.heap.size::(blk (.slice A3 N C3)++Fk),rfl,⟨⟨.pointer q,.slice A3 N C3,R,T,Fk,⟨heap_alloc_new _ _,own_base (Bg hrw (a3X.trans FM) (by simp)) (Nat.zero_le _),HT.2.1.Bh FM,fun hc=>by have:=hlt1 _ hc;omega,fun hc=>by have:=HT.2.1.lt _ hc;omega,fun k hk hc=>by have h1:=hlt1 k hk;have h2:=HT.2.2.1 k hc;omega⟩,
    fun k hk=>?_,HP.1,HP.2.1,HT.2.2.2.2,Bd HT.2.2.2.1 (jq HE1.out)⟩,HR1.1,HR1.2,by rw [HN.out];omega,by omega,fun k hk=>?_⟩,fun k hk=>?_⟩
   ·simp only [List.mem_cons,List.mem_append];exact hk
   ·simp only [List.mem_cons,List.mem_append] at hk;have hza:=FM.size;have hzb:w5.heap.size<(w5.alloc (.cells #[.bool true,.pointer q,.slice A3 N C3] 182)).heap.size:=by simp
    rcases hk with hk | hk | hk
    ·omega
    ·have:=hlt1 k hk;omega
    ·have:=HT.2.1.lt k hk;omega
   ·simp only [List.mem_cons,List.mem_append] at hk;rcases hk with hk | hk | hk
    ·omega
    ·have:=b0F k hk;omega
    ·have:=HT.2.2.1 k hk;omega
