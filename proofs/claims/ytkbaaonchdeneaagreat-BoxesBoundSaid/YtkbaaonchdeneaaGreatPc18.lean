/- ivl.grown: the tree over ends, of spans by Lo. Printed by mkgrown.py. ivl.Build: what it is made of. -/
import Derived.Test.YtkbaaonchdeneaaGreatPc17
set_option maxHeartbeats 8000000
set_option maxRecDepth 100000
namespace Go.Proofs.YtkbaaonchdeneaaGreat
open Go.RowKit
def J7 (E:List Int) (L:List Sp):Prop:=E.Pairwise (· < ·)/\(∀s∈L,s.lo∈E/\s.hi∈E/\s.lo<=s.hi)/\L.Pairwise λa b=>a.lo<=b.lo
theorem Yr {E:List Int} {a:Nat} {m:Int} (h:E[a]? = some m):E=E.take a++m::E.drop (a+1):=by
 obtain ⟨h1,rfl⟩:=AZ h;rw [<-List.drop_eq_getElem_cons h1,List.take_append_drop]
theorem J7.less {E:List Int} {L:List Sp} (h:J7 E L) {a:Nat} {m:Int} (ha:E[a]? = some m):J7 (E.take a) (Em m L):=by
 obtain ⟨h1,h2,h3⟩:=h;have hs:=Yr ha;have hp:=h1;rw [hs,List.pairwise_append,List.pairwise_cons] at hp
 have hin:∀x∈E,x<m->x∈E.take a:=λx hx hm=>by
  rw [hs,List.mem_append,List.mem_cons] at hx;rcases hx with hx | hx | hx
  ·exact hx
  ·omega
  ·have:=hp.2.1.1 x hx;omega
 refine ⟨hp.1,λs hs=>?_,h3.filter _⟩
 unfold Em at hs;simp at hs;obtain ⟨g1,g2,g3⟩:=h2 s hs.1;exact ⟨hin _ g1 (by omega),hin _ g2 hs.2,g3⟩
theorem J7.more {E:List Int} {L:List Sp} (h:J7 E L) {a:Nat} {m:Int} (ha:E[a]? = some m):J7 (E.drop (a+1)) (En m L):=by
 obtain ⟨h1,h2,h3⟩:=h;have hs:=Yr ha;have hp:=h1;rw [hs,List.pairwise_append,List.pairwise_cons] at hp
 have hin:∀x∈E,m<x->x∈E.drop (a+1):=λx hx hm=>by
  rw [hs,List.mem_append,List.mem_cons] at hx;rcases hx with hx | hx | hx
  ·have:=hp.2.2 x hx m (by simp);omega
  ·omega
  ·exact hx
 refine ⟨hp.2.1.2,λs hs=>?_,h3.filter _⟩
 unfold En at hs;simp at hs;obtain ⟨g1,g2,g3⟩:=h2 s hs.1;exact ⟨hin _ g1 hs.2.2,hin _ g2 (by omega),g3⟩
theorem jY {L:List Sp} {k:Nat} {s:Sp} {m:Int} (h:L[k]? = some s) (h1:s.hi<m):Em m (L.take (k+1))=Em m (L.take k)++[s]/\Eo m (L.take (k+1))=Eo m (L.take k)/\En m (L.take (k+1))=En m (L.take k):=by
 obtain ⟨g1,g2⟩:=AZ h;unfold Em Eo En;rw [Bd g1,g2,List.filter_append,List.filter_append,List.filter_append];simp [h1]
theorem step_more {L:List Sp} {k:Nat} {s:Sp} {m:Int} (h:L[k]? = some s) (h1:¬s.hi<m) (h2:m<s.lo):Em m (L.take (k+1))=Em m (L.take k)/\Eo m (L.take (k+1))=Eo m (L.take k)/\En m (L.take (k+1))=En m (L.take k)++[s]:=by
 obtain ⟨g1,g2⟩:=AZ h;unfold Em Eo En;rw [Bd g1,g2,List.filter_append,List.filter_append,List.filter_append];have h1':m<=s.hi:=by omega
 simp [h1',h2]
theorem qL {L:List Sp} {k:Nat} {s:Sp} {m:Int} (h:L[k]? = some s) (h1:¬s.hi<m) (h2:¬m<s.lo):Em m (L.take (k+1))=Em m (L.take k)/\Eo m (L.take (k+1))=Eo m (L.take k)++[s]/\En m (L.take (k+1))=En m (L.take k):=by
 obtain ⟨g1,g2⟩:=AZ h;unfold Em Eo En;rw [Bd g1,g2,List.filter_append,List.filter_append,List.filter_append];have h1':m<=s.hi:=by omega
 have h2':s.lo<=m:=by omega
 simp [h1',h2']
def VN (w:World) (E:List Int) (L:List Sp) (e:Ending) (w':World):Prop:=
 Bj [] w w'/\∃(p:Value) (F:List Nat) (T:Kn),e=.returned p/\Gy w' T p F/\(∀k∈F,w.heap.size<=k)/\T.depth<=BA E.length/\T.ok L
def Yt (w:World) (K q:Nat) (Eb:Value) (s:Sp):Prop:=
 w.cell? ⟨K,1,none⟩=some Eb/\w.cell? q=some (.int .i64 s.lo)/\w.cell? ⟨q,1,none⟩=some (.int .i64 s.hi)/\w.cell? ⟨q,2,none⟩=some (.int .u32 (s.id:Int))
theorem Yt.upd {w w':World} {K q:Nat} {Eb:Value} {s:Sp} (h:Yt w K q Eb s) {F:List Nat} (hu:Bj F w w') (h1:K∉F) (h2:q∉F):Yt w' K q Eb s:=
 ⟨(hu.cell (World.block_lt_of_cell? w _ h.1) h1).trans h.1,(hu.cell (World.block_lt_of_cell? w _ h.2.1) h2).trans h.2.1,(hu.cell (World.block_lt_of_cell? w _ h.2.2.1) h2).trans h.2.2.1,(hu.cell (World.block_lt_of_cell? w _ h.2.2.2) h2).trans h.2.2.2⟩
theorem Xi {w w1:World} {base:Nat} {v:Value} {l:List Sp} {s:Sp} {A:Option Addr} {C:Nat} (HP:DK w w1 base 62 3 v l.length (CY.all l) 1 (CY.enc s) A C):CY.row w1 base (.slice A (l.length+1) C) (l++[s]):=by
 have h1:=HP.own;unfold Kind.row;rw [Bc,CY.BZ];exact h1
theorem Yu (E:List Int) (L:List Sp) (ve vl:Value) (w:World) (hE:E.length=0) (hin:J7 E L) (qM:See KL w ve E) :
 Calls Tryz.prog 173 #[ve,vl] w (VN w E L):=by
 obtain ⟨A,C,rfl⟩:=qM.form;have hE0:E = []:=List.eq_nil_of_length_eq_zero hE;subst hE0;have hL0:L = []:=List.eq_nil_iff_forall_not_mem.2 λs hs=>by have:=(hin.2.1 s hs).1;simp at this
 clear qM hin hE;go_enter Tryz.func173,Tryz.ntmps173
 go_wp2_with fail
 go_ret
 exact ⟨Bj.refl _ _,_,[],.nil,rfl,⟨rfl,rfl⟩,by simp,Nat.zero_le _,hL0⟩
theorem a1I:∀(h:Nat) (E:List Int) (L:List Sp) (ve vl:Value) (w:World),E.length<=h->E.length<1000000->L.length<1000000->J7 E L->See KL w ve E->See CY w vl L->
 Calls Tryz.prog 173 #[ve,vl] w (VN w E L):=by
 obtain ⟨i1,hi1,hy0,hy1,hy2⟩:=info_parts Nc;obtain ⟨i0,hi0,hx0,hx1,hx2⟩:=info_parts DF;intro h;induction h with
 |zero=>
  intro E L ve vl w hE jZ hLb hin qM hvl;exact Yu E L ve vl w (by omega) hin qM
 |succ h ih=>
  intro E L ve vl w hE jZ hLb hin qM hvl;by_cases hE0:E.length=0
  ·exact Yu E L ve vl w hE0 hin qM
  have hIH:=ih;obtain ⟨A,C,rfl⟩:=qM.form;obtain ⟨B,D,rfl⟩:=hvl.form;obtain ⟨n,hn⟩:=AU E.length;obtain ⟨N,hN⟩:=AU L.length;obtain ⟨a,ha⟩:=AU ((n - 1) / 2);rw [hn] at hE jZ hE0 qM |-;rw [hN] at hLb hvl |-;have han:a<n:=by omega
  obtain ⟨m,hm⟩:∃m,E[a]? = some m:=⟨_,Ba (by omega)⟩;obtain ⟨b,o,hA,-,-,hcell⟩:=KL.at qM hm;subst hA;have hcv:Value.int .i64 (((n:Int) - 1) / 2)=Value.int .i64 (a:Int):=by congr 1;omega
  have hq0:((n:Int)==0)=false:=by simpa using hE0
  have a0:(0:Int)<=(a:Int):=AY _;have a1:(a:Int)<(n:Int):=by omega
  have n1:(n:Int)<1000000:=by omega
  have n0:(1:Int)<=(n:Int):=by omega
  have HIH:=AX hIH;have HV:=Ap qM hvl;have HN:=Au hn hN ha hm;have kC:=AX hin;have HW0:=AX ((Bj.refl [] w).alloc (.cells #[m,.slice none 0 0,.slice none 0 0,.pointer none,.pointer none] 258));have hz0:w.heap.size<(w.alloc (.cells #[m,.slice none 0 0,.slice none 0 0,.pointer none,.pointer none] 258)).heap.size:=by simp
  have a3V:Xh (w.alloc (.cells #[m,.slice none 0 0,.slice none 0 0,.pointer none,.pointer none] 258)) w.heap.size m (.slice none 0 0) (.slice none 0 0) (.slice none 0 0) [] [] []:=
   ⟨by show (w.heap.push _)[w.heap.size]? = _;exact Array.getElem?_push_size,World.ownsRow_nil _ _ _ _,World.ownsRow_nil _ _ _ _,World.ownsRow_nil _ _ _ _,by simp [blk],by simp [blk],by simp [blk]⟩
  have a1J:=AX a3V;have HEH:=AX hE;have hwr:IntKind.i64.wrap ((a:Int)+1)=(a:Int)+1:=by simp [IntKind.wrap,IntKind.bits,IntKind.signed];omega
  have HWR:=AX hwr;clear hIH ih qM hvl hn hN ha hm hin a3V hE hE0 hwr;go_enter Tryz.func173,Tryz.ntmps173
  go_upto_region 5 with fail
  simp only [hcv];clear hcv;generalize (w.alloc (.cells #[m,.slice none 0 0,.slice none 0 0,.pointer none,.pointer none] 258))=W0 at HW0 hz0 a1J |-;obtain ⟨K,hK⟩:=AU w.heap.size;rw [hK] at hz0 a1J |-;have HK:=AX hK;clear hcell hK;go_wp2_with fail
  go_loopg [7,8,26] N (λm' s7 s8 s26 wr=>∃(k:Nat) (Eb:Value),m'+k=N/\s26=.int .i64 (k:Int)/\Xh wr K m Eb s7 s8 (Eo m (L.take k)) (Em m (L.take k)) (En m (L.take k))/\Bj [] w wr)
  case atStart=>exact ⟨0,.slice none 0 0,rfl,rfl,a1J.out,HW0.out⟩
  case round=>
   obtain ⟨k,Eb,hk,rfl,hg,hup⟩:=hrel;have k0:(0:Int)<=(k:Int):=AY _;have hkN:k<=N:=by omega
   by_cases hlt:k<N
   ·obtain ⟨s,hs⟩:∃s,L[k]? = some s:=⟨_,Ba (by rw [HN.2.1];exact hlt)⟩;have hse:See CY wr (.slice B N D) L:=HV.2.BF hup;obtain ⟨g,og,hB,-,-,ey⟩:=hse.at hs;subst hB;have y0:wr.cell? ⟨g,og+k*3,none⟩=some (.int .i64 s.lo):=ey 0 _ rfl;have y1:wr.cell? ⟨g,og+k*3+1,none⟩=some (.int .i64 s.hi):=ey 1 _ rfl;have y2:wr.cell? ⟨g,og+k*3+2,none⟩=some (.int .u32 (s.id:Int)):=ey 2 _ rfl;have b1:(k:Int)<(N:Int):=by omega
    have hlen:(Eo m (L.take k)).length<=k/\(Em m (L.take k)).length<=k/\(En m (L.take k)).length<=k:=by
     have h0:(L.take k).length<=k:=by rw [Bf];omega
     exact ⟨Bh (List.length_filter_le _ _) h0,Bh (List.length_filter_le _ _) h0,Bh (List.length_filter_le _ _) h0⟩
    have HLEN:=Aq (show (Eo m (L.take k)).length+1<=1000000 by omega) (show (Em m (L.take k)).length+1<=1000000 by omega) (show (En m (L.take k)).length+1<=1000000 by omega);have HS:=AX hs;have HKK:=Ap hk hkN;have HG:=AX hg;have HU:=AX hup;clear hse ey hlen hs hg hup hk hkN;obtain ⟨wl,hwl⟩:∃wl:World,wl=wr:=⟨_,rfl⟩;subst hwl;go_upto_region 10 with fail
    have hu2:Bj [] wl (wl.alloc (.cells #[s.lo,s.hi,.int .u32 (s.id:Int)] 62)):=(Bj.refl _ _).alloc _;have d0:(wl.alloc (.cells #[s.lo,s.hi,.int .u32 (s.id:Int)] 62)).cell? wl.heap.size=some (.int .i64 s.lo):=by rw [World.cell?_alloc_at _ _ _ _ rfl];rfl
    have d1:(wl.alloc (.cells #[s.lo,s.hi,.int .u32 (s.id:Int)] 62)).cell? ⟨wl.heap.size,1,none⟩=some (.int .i64 s.hi):=by rw [World.cell?_alloc_at _ _ _ _ rfl];rfl
    have d2:(wl.alloc (.cells #[s.lo,s.hi,.int .u32 (s.id:Int)] 62)).cell? ⟨wl.heap.size,2,none⟩=some (.int .u32 (s.id:Int)):=by rw [World.cell?_alloc_at _ _ _ _ rfl];rfl
    generalize (wl.alloc (.cells #[s.lo,s.hi,.int .u32 (s.id:Int)] 62))=W2 at hu2 d0 d1 d2 |-;obtain ⟨q,hq⟩:=AU wl.heap.size;have hqK:K<q:=by have h1:=lt_of_block HG.out.head;omega
    have hql:∀y∈blk Eb,y≠q:=λy hy hc=>by have h1:=BJ HG.out.lo y hy;omega
    rw [hq] at d0 d1 d2 |-;have hg2:=HG.out.BF hu2;have hK0:=hg2.cells.1;have hz2:W0.heap.size<=W2.heap.size\/K+1<=W2.heap.size:=.inr (by have h1:=lt_of_block hg2.head;omega);have HG2:=AX hg2;have Ej:=AX (HU.out.trans hu2);have HQ:=Ap hqK hql;clear hg2 hu2 y0 y1 y2 hq hqK hql hz2;by_cases h1:s.hi<m
    ·have HST:=AX (jY HS.out h1);go_wp2_with fail
     go_quiet (fail)
     (go_wp2_with (at_builtin;refine BM _ rfl _ _ 56 rfl (K+1) 62 i1 _ 3 24 Tryz.underlying56 hi1 hy0 hy1 hy2 rfl (by decide) _ _ _ rfl (Bl HG2.out.u (((Bj.refl [] W2).drewN _).alloc _) (by simp)) _ 1 (CY.enc s) rfl (BK _ #[s.lo,s.hi,.int .u32 (s.id:Int)] 62 3 1 rfl (by decide)) (CY.one s) (by have:=HLEN.2.1;unfold maxLen;omega) (Ac HLEN.2.1) (by have h1:=lt_of_block HG2.out.head;simp;omega) ?_))
     intro A1 C1 w1 HP;have hga:=Xh.a6K (HG2.out.BF (((Bj.refl [] W2).drewN _).alloc _)) HP.upd (Xi HP) HP.at;have FI:=(Ej.out.trans (((Bj.refl [] W2).drewN _).alloc _)).trans' HP.upd (λy hy=>.inr (by have h1:=BH HG2.out.u y hy;have h2:=HK.out;omega));have HE:=Ap hga FI;clear hga FI HP;go_wp2_with fail
     go_roundg (N - (k+1))
     case measure=>have:=HKK.1;omega
     case rel=>
      obtain ⟨e1,e2,e3⟩:=HST.out;exact ⟨k+1,Eb,Ac HKK.1,by go_num,by rw [e1,e2,e3];exact HE.1,HE.2⟩
    ·by_cases h2:m<s.lo
     ·have HST:=AX (step_more HS.out h1 h2);have q1:decide (s.hi<m)=false:=decide_eq_false h1;have H2:=AX (decide_eq_true h2);clear h1 h2;go_wp2_with fail
      go_quiet (fail)
      clear q1;have q2:decide (m<s.lo)=true:=H2.out;go_wp2_with fail
      go_quiet (fail)
      clear q2;(go_wp2_with (at_builtin;refine BM _ rfl _ _ 56 rfl (K+1) 62 i1 _ 3 24 Tryz.underlying56 hi1 hy0 hy1 hy2 rfl (by decide) _ _ _ rfl (Bl HG2.out.v (((Bj.refl [] W2).drewN _).alloc _) (by simp)) _ 1 (CY.enc s) rfl (BK _ #[s.lo,s.hi,.int .u32 (s.id:Int)] 62 3 1 rfl (by decide)) (CY.one s) (by have:=HLEN.2.2;unfold maxLen;omega) (Ac HLEN.2.2) (by have h1:=lt_of_block HG2.out.head;simp;omega) ?_))
      intro A1 C1 w1 HP;have hga:=Xh.a6L (HG2.out.BF (((Bj.refl [] W2).drewN _).alloc _)) HP.upd (Xi HP) HP.at;have FI:=(Ej.out.trans (((Bj.refl [] W2).drewN _).alloc _)).trans' HP.upd (λy hy=>.inr (by have h1:=BH HG2.out.v y hy;have h2:=HK.out;omega));have HE:=Ap hga FI;clear hga FI HP;go_wp2_with fail
      go_roundg (N - (k+1))
      case measure=>have:=HKK.1;omega
      case rel=>
       obtain ⟨e1,e2,e3⟩:=HST.out;exact ⟨k+1,Eb,Ac HKK.1,by go_num,by rw [e1,e2,e3];exact HE.1,HE.2⟩
     ·have HST:=AX (qL HS.out h1 h2);have q1:decide (s.hi<m)=false:=decide_eq_false h1;have H2:=AX (decide_eq_false h2);clear h1 h2;go_wp2_with fail
      go_quiet (fail)
      clear q1;have q2:decide (m<s.lo)=false:=H2.out;go_wp2_with fail
      go_quiet (fail)
      clear q2;go_upto_region 9 with fail
      generalize hwq:(W2.drewN _).drewN _=Wq;have huq:Bj [] W2 Wq:=hwq ▸ ((Bj.refl [] W2).drewN _).drewN _;have HKG:=AX (Yt.upd (w':=Wq.drew) ⟨HG2.out.cells.2.1,d0,d1,d2⟩ huq.drew (by simp) (by simp));have yY:=AX (HG2.out.BF (huq.drew.alloc (.cells #[s.lo,s.hi,.int .u32 (s.id:Int)] 62)));have Hr:=AX (Ej.out.trans (huq.drew.alloc (.cells #[s.lo,s.hi,.int .u32 (s.id:Int)] 62)));have HZA:=AX (show K+1<=(Wq.drew.alloc (.cells #[s.lo,s.hi,.int .u32 (s.id:Int)] 62)).heap.size from by have h1:=lt_of_block yY.out.head;omega);clear huq hwq d0 d1 d2 hK0;refine Bo.start [7,8,9,10] (λw'=>Yt w' K q Eb s) (by kernel_rfl) ?_ λhS=>?_
      ·exact HKG.out
      refine' Bo.mx 0 30 ?_
      refine' Bo.mx 1 31 ?_
      refine' Bo.mx 2 32 ?_
      refine' Bo.mx 3 33 ?_
      refine' Bo.tk 2 (i:=4) (oi:=⟨some 34,_,_,_,_,_⟩) rfl (by rfl) ?a6N ?_
      case a6N=>intro w hSw;obtain ⟨s0,s1,s2,s3⟩:=hSw;go_simp<;>with_reducible rfl
      simp only [Act.put,sA,sZ,sS];refine' Bo.tk 2 (i:=5) (oi:=⟨some 35,_,_,_,_,_⟩) rfl (by rfl) ?a6O ?_
      case a6O=>intro w hSw;obtain ⟨s0,s1,s2,s3⟩:=hSw;go_simp<;>with_reducible rfl
      simp only [Act.put,sA,sZ,sS];refine Bo.one (i:=6) (o:=⟨some 36,_,_,_,_,_⟩) rfl (by kernel_rfl) λKt hK=>?_
      go_simp
      refine hK.out _ _ (λ_ h=>?_) ?_
      ·exact h.upd ((Bj.refl [] _).alloc _) (by simp) (by simp)
      clear hK Kt;try simp only [Act.put,sA,sZ,sS]
      refine Bo.one (i:=7) (o:=⟨some 37,_,_,_,_,_⟩) rfl (by kernel_rfl) λKt hK=>?_
      refine ER _ (by rfl) _ _ 56 (by rfl) (K+1) 62 i1 (.agg #[.int .i64 0,.int .i64 0,.int .u32 0]) 3 24 Tryz.underlying56 hi1 hy0 hy1 hy2 rfl (by decide) _ _ _ (by rfl) (yY.out.lo) _ 1 (CY.enc s) (by rfl) (BK _ #[s.lo,s.hi,.int .u32 (s.id:Int)] 62 3 1 rfl (by decide)) (CY.one s) (by have:=HLEN.1;unfold maxLen;omega) (Ac HLEN.1) HZA.out ?_
      intro A1 C1 w1 HP1;have hgl:=Xh.a6M yY.out HP1.upd (Xi HP1) HP1.at;have hkn:K∉blk Eb:=λhc=>by have:=BH yY.out.lo K hc;omega
      have hcK:w1.cell? ⟨K,1,none⟩=some Eb:=(HP1.upd.cell (World.block_lt_of_cell? _ _ yY.out.cells.2.1) hkn).trans yY.out.cells.2.1;have hfK:w1.frozen? ⟨K,1,none⟩=false:=(HP1.upd.frozen (World.block_lt_of_cell? _ _ yY.out.cells.2.1) hkn).trans (yY.out.cells.2.2.2 1);have kD:=Ap hgl HP1.upd;clear hgl hkn HP1;refine hK.out _ _ (λh=>(by cases h)) ?_
      clear hK Kt;try simp only [Act.put,sA,sZ,sS]
      refine' Bo.mx 8 38 ?_
      refine' Bo.mx 9 39 ?_
      refine Bo.one (i:=10) (o:=⟨none,_,_,_,_,_⟩) rfl (by kernel_rfl) λKt hK=>?_
      go_simp
      clear hcK hfK;refine hK.out _ _ (λh=>(by cases h)) ?_
      clear hK Kt;try simp only [Act.put,sA,sZ,sS]
      refine Bo.done (by kernel_rfl) ?_
      go_wp2_with fail
      go_roundg (N - (k+1))
      case measure=>have:=HKK.1;omega
      case rel=>
       obtain ⟨e1,e2,e3⟩:=HST.out;exact ⟨k+1,_,Ac HKK.1,by go_num,by rw [e1,e2,e3];exact kD.1,(Hr.out.trans' kD.2 (λy hy=>.inr (by have h1:=BH yY.out.lo y hy;have h2:=HK.out;omega))).setCell (p:=⟨K,1,none⟩) (.inr (by have h2:=HK.out;show w.heap.size<=K;omega)) _⟩
   ·have a3W:k=N:=by omega
    have QT:L.take k=L:=by rw [a3W,<-HN.2.1];exact List.take_length
    rw [QT] at hg;have hlo:=hg.cells.2.1;have hb1:(Eo m L).length<1000000:=Nat.lt_of_le_of_lt (List.length_filter_le _ _) (by rw [HN.2.1];exact hLb);have HB1:=AX hb1;have yP:=AX (fO Eb (Eo m L) wr (See.BU hg.lo) hb1);have HG:=AX hg;have HU:=AX hup;clear QT a3W hk hg hup hb1 hkN;go_wp2_with fail
    go_fit yP.out
    rintro e w1 ⟨u1,A1,C1,rfl,r1⟩;have hK2:=(u1.cell (p:=⟨K,2,none⟩) (lt_of_block HG.out.head) (by simp)).trans HG.out.cells.2.2.1;have hF2:=(u1.frozen (p:=⟨K,2,none⟩) (lt_of_block HG.out.head) (by simp)).trans (HG.out.cells.2.2.2 2);have nY:=AX (HG.out.BF u1);have DJ:=AX (HU.out.trans u1);have HR1:=Ap r1 u1.size;clear u1 r1 hlo;go_upto_region 16 with fail
    clear hK2 hF2;have hs5:Bj [K] w1 (w1.setCell ⟨K,2,none⟩ (.slice A1 (Eo m L).length C1)):=(Bj.refl _ _).setCell (p:=⟨K,2,none⟩) (.inl (by simp)) _;have hgK:∀{x:Value} {l:List Sp},CY.row w1 (K+1) x l->∀y∈blk x,y∉[K]:=λhx y hy hc=>by simp at hc;have:=BH hx y hy;omega
    have hwz:K<wr.heap.size:=lt_of_block HG.out.head;have hr1:CY.row w1 (K+1) (.slice A1 (Eo m L).length C1) (Eo m L):=own_base HR1.1 (by omega)
    have hM5:yX (w1.setCell ⟨K,2,none⟩ (.slice A1 (Eo m L).length C1)) K m Eb (.slice A1 (Eo m L).length C1) (Eo m L) (Eo m L):=
     ⟨heap_set nY.out.head 2 _,Bl nY.out.lo hs5 (hgK nY.out.lo),Bl hr1 hs5 (hgK hr1),λy hy hc=>by have h1:=BJ HG.out.lo y hy;have h2:=BH HR1.1 y hc;omega⟩
    have EZ:=Bl nY.out.u hs5 (hgK nY.out.u);have hv5:=Bl nY.out.v hs5 (hgK nY.out.v);have hn5:∀{x:Value} {l:List Sp},CY.row wr (K+1) x l->∀y∈blk x,y∉blk (.slice A1 (Eo m L).length C1):=λhx y hy hc=>by have h1:=BJ hx y hy;have h2:=BH HR1.1 y hc;omega
    have HN5:=Ap (hn5 HG.out.u) (hn5 HG.out.v);have Nv:=AX (DJ.out.trans' hs5 (λy hy=>.inr (by simp at hy;have h2:=HK.out;omega)));generalize (w1.setCell ⟨K,2,none⟩ (.slice A1 (Eo m L).length C1))=W5 at hM5 EZ hv5 Nv |-;generalize (Value.slice A1 (Eo m L).length C1)=Gh at hM5 HN5 |-;have c52:=hM5.cells.2.2.1;have nR:=AX (jV (K+1) Gh (Eo m L) W5 hM5.hi HB1.out);have yZ:=Aq hM5 EZ hv5;clear hs5 hgK hwz hr1 hM5 EZ hv5 hn5;go_wp2_with fail
    go_fit nR.out
    rintro e w6 ⟨rfl,u6,l',hp,hpw,r6⟩
    have hM6:yX w6 K m Eb Gh (Eo m L) l':=
     ⟨(u6.block K (lt_of_block yZ.1.head) (λhc=>by have:=BH yZ.1.hi K hc;omega)).trans yZ.1.head,Bl yZ.1.lo u6 yZ.1.lh,r6,yZ.1.lh⟩
    have hU6:=Nv.out.trans' u6 (λy hy=>.inr (by have h1:=BH yZ.1.hi y hy;have h2:=HK.out;omega));have hl6:=See.BU (Bl yZ.2.1 u6 HN5.1);have hv6:=See.BU (Bl yZ.2.2 u6 HN5.2);have qN:=HV.1.BF hU6;obtain ⟨X1,Y1,a3X,a3Y,-⟩:=See.take (K:=KL) (P:=Tryz.prog) Tryz.underlying57 hi0 hx1 qN a (by rw [HN.1];omega);have a1K:=qN;unfold See at a1K;obtain ⟨X2,Y2,a1L,a3Z,-⟩:=Jw (P:=Tryz.prog) (t:=57) Tryz.underlying57 hi0 hx1 a1K (a+1) (by rw [HN.1];omega);rw [HN.1] at a1L;have a8k:∀w',(Instr.slice 57 (.slice (some ⟨b,o,none⟩) n C) none (some (.int .i64 (a:Int))) none).run Tryz.prog w'=.ok (.slice X1 a Y1) w':=a3X;have a8l:∀w',(Instr.slice 57 (.slice (some ⟨b,o,none⟩) n C) (some (.int .i64 ((a:Int)+1))) none none).run Tryz.prog w'=.ok (.slice X2 (n - (a+1)) Y2) w':=a1L;have hdl:(E.drop (a+1)).length=n - (a+1):=by rw [List.length_drop,HN.1]
    have htl:(E.take a).length=a:=by rw [Bf,HN.1];omega
    have hdr:=(Bj.refl [] w6).drew;have hless:(Em m L).length<1000000:=Nat.lt_of_le_of_lt (List.length_filter_le _ _) (by rw [HN.2.1];exact hLb);have hmore:(En m L).length<1000000:=Nat.lt_of_le_of_lt (List.length_filter_le _ _) (by rw [HN.2.1];exact hLb);have y8:=AX (HIH.out (E.take a) (Em m L) _ _ w6.drew (Ac HEH) (by omega) hless (kC.out.less HN.2.2.2) ((a3Y w6 qN).BF hdr) (hl6.BF hdr))
    have hs2:∀w',Bj [] w6 w'->See KL w' (.slice X2 (n - (a+1)) Y2) (E.drop (a+1)):=λw' hu=>by
     have h8:=a3Z w' (qN.BF hu);rw [HN.1] at h8;unfold See;rw [hdl,Kind.Js];exact h8
    have HL2:=AX (λw' (hu:Bj [] w6 w')=>HIH.out (E.drop (a+1)) (En m L) _ _ w' (Ac HEH) (by omega) hmore (kC.out.more HN.2.2.2) (hs2 w' hu) (hv6.BF hu));have HM6:=Aq hM6 hp hpw;have Ik:=AX hU6;have HD6:=AX hdr;have fK:=Ap htl hdl;clear c52 u6 hp hpw r6 hM6 hU6 hl6 hv6 qN a1K a3X a1L a3Y a3Z hdl htl hdr hless hmore hs2;go_upto_region 17 with fail
    have hwr:=HWR.out;refine Bo.start [0,1,2,3,4,5,6,7,8,9,10,11,12,13,14,15,16,17,18] (λ_=>True) (by kernel_rfl) ?_ λhS=>?_
    ·trivial
    refine' Bo.mx 0 78 ?_
    refine' Bo.mx 1 79 ?_
    refine' Bo.mx 2 80 ?_
    refine' Bo.mx 3 81 ?_
    refine' Bo.mx 4 82 ?_
    refine' Bo.mx 5 83 ?_
    refine' Bo.mx 7 85 ?_
    refine' Bo.mx 8 86 ?_
    refine' Bo.mx 9 87 ?_
    refine' Bo.mx 10 88 ?_
    refine' Bo.mx 11 89 ?_
    refine Bo.one (i:=6) (o:=⟨some 84,_,_,_,_,_⟩) rfl (by kernel_rfl) λKt hK=>?_
    go_simp
    go_at_call 173
    go_fit y8.out
    rintro e wA ⟨uA,pA,FA,TA,rfl,kA,gA,dA,oA⟩;obtain ⟨qA,rfl⟩:=kA.ptr;have HA:=Aw uA kA gA dA oA;clear uA kA gA dA oA;refine hK.out _ _ (λh=>(by cases h)) ?_
    clear hK Kt;try simp only [Act.put,sA,sZ,sS]
    refine Bo.one (i:=12) (o:=⟨some 90,_,_,_,_,_⟩) rfl (by kernel_rfl) λKt hK=>?_
    go_simp
    go_at_call 173
    go_fit (HL2.out _ (HD6.out.trans HA.1))
    rintro e wB ⟨uB,pB,FB,TB,rfl,kB,gB,dB,oB⟩;obtain ⟨qB,rfl⟩:=kB.ptr;have hMB:=HM6.1.BF ((HD6.out.trans HA.1).trans uB);have hkids:=hMB.kids (HA.2.1.BF uB) kB (B:=w6.heap.size) (lt_of_block HM6.1.head) (BJ HM6.1.lo) (BJ HM6.1.hi) (λk hk=>Bh HD6.out.size (HA.2.2.1 k hk)) (λk hk=>by have h1:=gB k hk;have h2:=HA.1.size;have h3:=HD6.out.size;omega) (λk hk hc=>by have h1:=HA.2.1.lt k hk;have h2:=gB k hc;omega) HA.2.1.nodup kB.nodup;have Jj:=Aw uB kB gB dB oB;have hh3:=hMB.head;have hh4:=heap_set hMB.head 3 (.pointer qA);have hc3:wB.cell? ⟨K,3,none⟩=some (.pointer none):=by simp [World.cell?,hh3]
    have hf3:wB.frozen? ⟨K,3,none⟩=false:=by simp [World.frozen?,hh3]
    have hc4:(wB.setCell ⟨K,3,none⟩ (.pointer qA)).cell? ⟨K,4,none⟩=some (.pointer none):=by simp [World.cell?,hh4]
    have hf4:(wB.setCell ⟨K,3,none⟩ (.pointer qA)).frozen? ⟨K,4,none⟩=false:=by simp [World.frozen?,hh4]
    clear uB kB gB dB oB hMB hh3 hh4;refine hK.out _ _ (λh=>(by cases h)) ?_
    clear hK Kt;try simp only [Act.put,sA,sZ,sS]
    refine' Bo.mx 13 91 ?_
    refine' Bo.mx 14 92 ?_
    refine Bo.one (i:=15) (o:=⟨none,_,_,_,_,_⟩) rfl (by kernel_rfl) λKt hK=>?_
    go_simp
    clear hc3 hf3;refine hK.out _ _ (λh=>(by cases h)) ?_
    clear hK Kt;try simp only [Act.put,sA,sZ,sS]
    refine' Bo.mx 16 93 ?_
    refine' Bo.mx 17 94 ?_
    refine Bo.one (i:=18) (o:=⟨none,_,_,_,_,_⟩) rfl (by kernel_rfl) λKt hK=>?_
    go_simp
    clear hc4 hf4;refine hK.out _ _ (λh=>(by cases h)) ?_
    clear hK Kt;try simp only [Act.put,sA,sZ,sS]
    refine Bo.done (by kernel_rfl) ?_
    have a4a:=AX hkids;clear hkids;go_wp2_with fail
    go_ret
    have hfin:=HM6.1;have hsz:w.heap.size<=w6.heap.size:=Ik.out.size;refine ⟨((Ik.out.trans HD6.out).trans (HA.1.trans Jj.1)).trans' a4a.2 (λy hy=>.inr (by simp at hy;have h2:=HK.out;omega)),_,_,_,rfl,a4a.1,λk hk=>?_,?_,?_⟩
    ·have h2:=HK.out;simp only [List.mem_cons,List.mem_append] at hk;rcases hk with hk | hk | hk | hk | hk
     ·omega
     ·have:=BH hfin.lo k hk;omega
     ·have:=BH hfin.hi k hk;omega
     ·have h1:=HA.2.2.1 k hk;have h3:=HD6.out.size;omega
     ·have h1:=Jj.2.2.1 k hk;have h3:=HD6.out.size;have h4:=HA.1.size;omega
    ·have h1:=HA.2.2.2.1;have h2:=Jj.2.2.2.1;rw [fK.1] at h1;rw [fK.2] at h2;have h3:=HN.2.2.1;have h4:=GV (n:=n) (by omega) (k:=a) (by omega);have h5:=GV (n:=n) (by omega) (k:=n - (a+1)) (by omega);rw [HN.1];simp only [Kn.depth];omega
    ·exact ⟨⟨List.Perm.refl _,kC.2.2.filter _⟩,⟨HM6.2.1,HM6.2.2⟩,HA.2.2.2.2,Jj.2.2.2.2⟩
structure Jd (w:World) (b:Nat) (p vr:Value) (R:List Sp) (T:Kn) (Fk:List Nat):Prop where
 head:w.heap[b]? = some (.cells #[.bool true,p,vr] 182 (0,0))
 row:CY.row w 0 vr R
 tree:Gy w T p Fk
 bro:b∉blk vr
 btr:b∉Fk
 rtr:∀k∈blk vr,k∉Fk
theorem Jd.upd {w w':World} {b:Nat} {p vr:Value} {R:List Sp} {T:Kn} {Fk:List Nat} (h:Jd w b p vr R T Fk) {F:List Nat} (hu:Bj F w w') (h1:b∉F) (h2:∀k∈blk vr,k∉F) (h3:∀k∈Fk,k∉F):Jd w' b p vr R T Fk:=
 ⟨(hu.block b (lt_of_block h.head) h1).trans h.head,Bl h.row hu h2,h.tree.upd hu h3,h.bro,h.btr,h.rtr⟩
theorem Jd.BF {w w':World} {b:Nat} {p vr:Value} {R:List Sp} {T:Kn} {Fk:List Nat} (h:Jd w b p vr R T Fk) (hu:Bj [] w w'):Jd w' b p vr R T Fk:=h.upd hu (by simp) (by simp) (by simp)
theorem Jd.cells {w:World} {b:Nat} {p vr:Value} {R:List Sp} {T:Kn} {Fk:List Nat} (h:Jd w b p vr R T Fk) :
 w.cell? b=some (.bool true)/\w.cell? ⟨b,1,none⟩=some p/\w.cell? ⟨b,2,none⟩=some vr/\∀j,w.frozen? ⟨b,j,none⟩=false:=by
 have:=h.head;refine ⟨?_,?_,?_,?_⟩<;>simp [World.cell?,World.frozen?,this]
structure KO (w:World) (b:Nat) (F:List Nat) (S:List Sp) (N:Nat):Prop where
 at_:∃(p vr:Value) (R:List Sp) (T:Kn) (Fk:List Nat),Jd w b p vr R T Fk/\(∀k,k=b\/k∈blk vr\/k∈Fk->k∈F)/\R.Perm S/\R.Pairwise (λa b=>a.lo<=b.lo)/\T.ok R/\T.depth<=BA (2*N)
 right:∀s∈S,s.lo<=s.hi
 names:(S.map Sp.id).Nodup
 many:S.length<=N
 few:N<=1000
 flt:∀k∈F,k<w.heap.size
theorem KO.upd {w w':World} {b:Nat} {F:List Nat} {S:List Sp} {N:Nat} (h:KO w b F S N) {G:List Nat} (hu:Bj G w w') (hd:∀k∈F,k∉G):KO w' b F S N:=by
 obtain ⟨p,vr,R,T,Fk,h1,h2,h3⟩:=h.at_;exact ⟨⟨p,vr,R,T,Fk,h1.upd hu (hd _ (h2 _ (.inl rfl))) (λk hk=>hd _ (h2 _ (.inr (.inl hk)))) (λk hk=>hd _ (h2 _ (.inr (.inr hk)))),h2,h3⟩,h.right,h.names,h.many,h.few,λk hk=>Bg (h.flt k hk) hu.size⟩
theorem KO.BF {w w':World} {b:Nat} {F:List Nat} {S:List Sp} {N:Nat} (h:KO w b F S N) (hu:Bj [] w w'):KO w' b F S N:=h.upd hu (by simp)
theorem Yv {l R:List Sp} (hr:∀s∈l,s.lo<=s.hi) (hp:R.Perm l) (hs:R.Pairwise λa b=>a.lo<=b.lo):J7 (QO l) R:=by
 refine ⟨Z8 l,λs h=>?_,hs⟩
 have h1:=hp.mem_iff.1 h;exact ⟨MZ (List.mem_flatMap.2 ⟨s,h1,by simp⟩),MZ (List.mem_flatMap.2 ⟨s,h1,by simp⟩),hr s h1⟩
theorem aB {a b:Nat} (h:a<=b):BA a<=BA b:=BP a _ (Nat.lt_of_le_of_lt h (Di b))
theorem aC (v:Value) (l:List Sp) (w:World) (h:See CY w v l) (hid:∀s∈l,s.id<4294967296) (hl:l.length<=1000) (hr:Oc l=true) :
 Calls Tryz.prog 109 #[v] w λe w'=>Bj [] w w'/\∃b F,e=.returned (.tuple #[.pointer (some ⟨b,0,none⟩),.int .i64 0])/\KO w' b F l l.length/\∀k∈F,w.heap.size<=k:=by
 obtain ⟨A,C,rfl⟩:=h.form;have ZR:=qH _ l w h hid (by omega);rw [hr] at ZR;obtain ⟨hr1,hr2⟩:=J4.1 hr;obtain ⟨N,hN⟩:=AU l.length;rw [hN] at ZR hl |-;obtain ⟨i0,hi0,hz0,hz1,hz2⟩:=info_parts DF;have HR:=AX ZR;have H:=AX h;have HN:=AX hN;have HR1:=Ap hr1 hr2;have b0:(0:Int)<=(N:Int):=AY _;have b1:(N:Int)<=1000:=by omega
 clear h hid hr hN ZR hr1 hr2;go_enter Tryz.func109,Tryz.ntmps109
 go_wp2_with fail
 go_fit HR.out
 rintro e w0 ⟨rfl,u0⟩;have hcl:=fO _ l w0 (H.out.BF u0) (by rw [HN.out];omega);rw [HN.out] at hcl;have yP:=AX hcl;have Gu:=AX u0;clear u0 hcl;go_wp2_with fail
 go_fit yP.out
 rintro e w3 ⟨u3,A3,C3,rfl,r3⟩;have hso:=jW w0.heap.size _ l w3 r3 (by rw [HN.out];omega);rw [HN.out] at hso r3 |-;have nR:=AX hso;have EJ:=Ap r3 (Gu.out.trans u3);clear u3 r3 hso;go_wp2_with fail
 go_fit nR.out
 rintro e w1 ⟨rfl,u1,R,hp,hpw,r1⟩;have hRl:R.length=N:=by rw [hp.length_eq,HN.out]
 obtain ⟨vr,yu⟩:=AU (Value.slice A3 N C3);rw [yu] at r1 u1 EJ |-;have HU:=AX (EJ.2.trans' u1 (λy hy=>.inr (by have h1:=BH r1 y hy;have h2:=Gu.out.size;omega)));have HP:=Aw hp hpw r1 hRl yu;clear u1 hp hpw r1 hRl yu;go_wp2_with fail
 go_loopg [5,20] N (λm s5 s20 wr=>∃(k:Nat) (vo:Value),m+k=N/\s5=vo/\s20=.int .i64 (k:Int)/\KL.row wr w1.heap.size vo (Ht (l.take k))/\Bj [] w1 wr)
 case atStart=>exact ⟨0,_,rfl,rfl,rfl,World.ownsRow_nil _ _ _ _,Bj.refl _ _⟩
 case round=>
  obtain ⟨k,vo,hk,rfl,rfl,hrow,hup⟩:=hrel;have k0:(0:Int)<=(k:Int):=AY _;have hkN:k<=N:=by omega
  have hwz:=hup.size;have HK:=AX hk;have KZ:=AX hrow;have Rz:=AX hup;clear hk hrow hup;by_cases hlt:k<N
  ·obtain ⟨s,hs⟩:∃s,l[k]? = some s:=⟨_,Ba (by rw [HN.out];exact hlt)⟩;have hse:See CY wr (.slice A l.length C) l:=H.out.BF (HU.out.trans Rz.out);obtain ⟨g,o,rfl,-,-,ey⟩:=hse.at hs
   have htk:Ht (l.take (k+1))=Ht (l.take k)++[s.lo,s.hi]:=by
    obtain ⟨h1,h2⟩:=AZ hs;rw [Bd h1,h2,jP];simp [Ht]
   have hlen:(Ht (l.take k)).length=2*k:=by rw [Qg,Bf,HN.out];omega
   have y0:wr.cell? ⟨g,o+k*3,none⟩=some (.int .i64 s.lo):=ey 0 _ rfl;have y1:wr.cell? ⟨g,o+k*3+1,none⟩=some (.int .i64 s.hi):=ey 1 _ rfl;have y2:wr.cell? ⟨g,o+k*3+2,none⟩=some (.int .u32 (s.id:Int)):=ey 2 _ rfl;have b2:(k:Int)<(N:Int):=by omega
   have HTK:=AX htk;have xO:=AX hlen;have hrow2:=KZ.out;unfold Kind.row at hrow2;rw [hlen] at hrow2;have HR2:=AX hrow2;clear hs hse ey htk hlen hrow2;obtain ⟨wl,hwl⟩:∃wl:World,wl=wr:=⟨_,rfl⟩;subst hwl;go_upto_region 11 with fail
   have hu2:Bj [] wl (wl.alloc (.cells #[s.lo,s.hi,.int .u32 (s.id:Int)] 62)):=(Bj.refl _ _).alloc _;have d0:(wl.alloc (.cells #[s.lo,s.hi,.int .u32 (s.id:Int)] 62)).cell? wl.heap.size=some (.int .i64 s.lo):=by rw [World.cell?_alloc_at _ _ _ _ rfl];rfl
   have d1:(wl.alloc (.cells #[s.lo,s.hi,.int .u32 (s.id:Int)] 62)).cell? ⟨wl.heap.size,1,none⟩=some (.int .i64 s.hi):=by rw [World.cell?_alloc_at _ _ _ _ rfl];rfl
   generalize (wl.alloc (.cells #[s.lo,s.hi,.int .u32 (s.id:Int)] 62))=W2 at hu2 d0 d1 |-;have a8A:w1.heap.size<=W2.heap.size:=Bh hwz hu2.size;have Ej:=AX (Rz.out.trans hu2);have HR3:=AX (Bl HR2.out hu2 (by simp));clear hu2 y0 y1 y2;go_wp2_with (at_builtin;refine BM _ rfl _ _ 57 rfl w1.heap.size 2 i0 (.int .i64 0) 1 8 Tryz.underlying57 hi0 hz0 hz1 hz2 rfl (by decide) _ (2*k) (KL.all (Ht (l.take k))) rfl (Bl HR3.out ((Bj.refl [] _).alloc _) (by simp)) _ 2 [s.lo,s.hi] rfl (BK W2 #[s.lo,s.hi] 2 1 2 rfl (by decide)) (by simp [Value.oneCell']) (by unfold maxLen;omega) (by omega) (by simp;omega) ?_)
   intro A2 C2 W3 HP3;have kE:=AX HP3;clear HP3 d0 d1;go_wp2_with fail
   go_roundg (N - (k+1))
   case measure=>have:=HK.out;omega
   case rel=>
    have hu3:=((Bj.refl _ W2).alloc (.cells #[s.lo,s.hi] 2)).trans kE.out.upd;refine ⟨k+1,_,Ac HK,rfl,by go_num,?_,Ej.out.trans' hu3 (λy hy=>.inr (BH HR3.out y hy))⟩
    rw [HTK.out];unfold Kind.row;rw [Bc,xO.out,KL.BZ];exact kE.out.own
  ·have yR:k=N:=by omega
   have hL':l.take k=l:=by rw [yR,<-HN.out];exact List.take_length
   have hrow:=KZ.out;rw [hL'] at hrow;obtain ⟨Ae,Ce,rfl⟩:=BD hrow;have hle:=Qg l;rw [HN.out] at hle;have qE:=TJ _ (Ht l) wr (See.BU hrow) (by omega);rw [hle] at qE;rw [hle];have HSQ:=AX qE;have pG:=AX Rz.out;clear hL' hrow qE hle yR;go_wp2_with fail
   go_fit HSQ.out
   rintro e w2 ⟨A2,C2,rfl,s1,s2⟩;have hE1:(QO l).length<=2*N:=by have:=jQ l;rw [HN.out] at this;exact this
   have a1M:=pG.out.trans s2;have hgr:=a1I (QO l).length (QO l) R (.slice A2 (QO l).length C2) vr w2 (Nat.le_refl _) (by omega) (by rw [HP.2.2.2.1];omega) (Yv HR1.1 HP.1 HP.2.1) (See.BU s1) (See.BU (Bl HP.2.2.1 a1M (by simp)));have HGR:=AX hgr;have HE1:=AX hE1;have a4b:=AX a1M;clear hgr hE1 s1 s2 a1M;unfold QO at HGR;go_wp2_with fail
   go_fit HGR.out
   rintro e w5 ⟨u5,p,Fk,T,rfl,kT,gT,dT,oT⟩;obtain ⟨q,rfl⟩:=kT.ptr;have HT:=Aw u5 kT gT dT oT;have HVR:=AX HP.2.2.2.2;clear u5 kT gT dT oT;subst vr;go_wp2_with fail
   go_ret2
   have a1N:=a4b.out.trans HT.1;have FI:Bj [] w5 (w5.alloc (.cells #[.bool true,.pointer q,.slice A3 N C3] 182)):=(Bj.refl _ _).alloc _;have hrw:=HP.2.2.1;have hlt1:=BJ hrw;have a6P:=BH hrw;have hz0:=Gu.out.size;have hz1:=HU.out.size;have hz5:=a1N.size;have hz2:=a4b.out.size
   refine ⟨(HU.out.trans a1N).trans FI,w5.heap.size,w5.heap.size::(blk (.slice A3 N C3)++Fk),rfl,⟨⟨.pointer q,.slice A3 N C3,R,T,Fk,⟨heap_alloc_new _ _,own_base (Bl hrw (a1N.trans FI) (by simp)) (Nat.zero_le _),HT.2.1.BF FI,λhc=>by have:=hlt1 _ hc;omega,λhc=>by have:=HT.2.1.lt _ hc;omega,λk hk hc=>by have h1:=hlt1 k hk;have h2:=HT.2.2.1 k hc;omega⟩,
    λk hk=>?_,HP.1,HP.2.1,HT.2.2.2.2,Bh HT.2.2.2.1 (aB HE1.out)⟩,HR1.1,HR1.2,by rw [HN.out];omega,by omega,λk hk=>?_⟩,λk hk=>?_⟩
   ·simp only [List.mem_cons,List.mem_append];exact hk
   ·simp only [List.mem_cons,List.mem_append] at hk;have hza:=FI.size;have hzb:w5.heap.size<(w5.alloc (.cells #[.bool true,.pointer q,.slice A3 N C3] 182)).heap.size:=by simp
    rcases hk with hk | hk | hk
    ·omega
    ·have:=hlt1 k hk;omega
    ·have:=HT.2.1.lt k hk;omega
   ·simp only [List.mem_cons,List.mem_append] at hk;rcases hk with hk | hk | hk
    ·omega
    ·have:=a6P k hk;omega
    ·have:=HT.2.2.1 k hk;omega
