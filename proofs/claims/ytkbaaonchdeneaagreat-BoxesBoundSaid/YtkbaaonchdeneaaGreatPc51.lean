/- rim.steps: a sweep's steps, one by one. rim.Rim: the two sweeps' sum. -/
import Derived.Test.YtkbaaonchdeneaaGreatPc49
import Derived.Test.YtkbaaonchdeneaaGreatPc50
set_option maxHeartbeats 8000000
set_option maxRecDepth 100000
namespace Go.Proofs.YtkbaaonchdeneaaGreat
open Go.RowKit
theorem Wv:∀(l:List Bx),(∀b∈l,b.counts=true)->(BL l).length=2*l.length/\∀i,i<(BL l).length->∃b,l[i / 2]? = some b/\(BL l)[i]? = some (if i % 2=0 then ⟨b.x1,b,false⟩ else ⟨b.x2,b,true⟩)
 | [],_=>⟨rfl,λi h=>by simp [BL] at h⟩
 |b::r,h=>by
  obtain ⟨h1,h2⟩:=Wv r λx hx=>h x (by simp [hx])
  have e:BL (b::r)=⟨b.x1,b,false⟩::⟨b.x2,b,true⟩::BL r:=by
   unfold BL;rw [List.filter_cons,if_pos (h b (by simp))];rfl
  rw [e];refine ⟨by simp only [List.length_cons,h1];omega,λi hi=>?_⟩
  match i with
  |0=>exact ⟨b,rfl,rfl⟩
  |1=>exact ⟨b,rfl,rfl⟩
  |i+2=>
   obtain ⟨c,h3,h4⟩:=h2 i (by simpa using hi);refine ⟨c,?_,?_⟩
   ·rw [show (i+2) / 2=i / 2+1 by omega,List.getElem?_cons_succ];exact h3
   ·rw [show (i+2) % 2=i % 2 by omega,List.getElem?_cons_succ,List.getElem?_cons_succ];exact h4
structure Duo (B:Nat) (w:World) (kv:Value) (T:List Tn) (mv:Value) (M:List Int):Prop where
 rk:KK.row w B kv (keysT T)
 rm:KL.row w B mv M
 km:∀k∈blk kv,k∉blk mv
theorem Duo.BF {B:Nat} {w w':World} {kv mv:Value} {T:List Tn} {M:List Int} (h:Duo B w kv T mv M) (hu:Bj [] w w'):Duo B w' kv T mv M:=
 ⟨Bl h.rk hu (by simp),Bl h.rm hu (by simp),h.km⟩
theorem Wy {l:List Bx} (hb:∀b∈l,b.CS) {t:Tn} (ht:t∈BL l) : -9223372036854775808<=t.x/\t.x<=9223372036854775807:=by
 have hx:=(IJ t.x).1 (List.mem_map.2 ⟨t,ht,rfl⟩);unfold Gg at hx;obtain ⟨b,h1,h2⟩:=List.mem_flatMap.1 hx;have h3:=hb b (List.mem_filter.1 h1).1;unfold Bx.CS at h3;simp at h2;rcases h2 with h2 | h2<;>rw [h2]
 ·exact h3.1
 ·exact h3.2.1
theorem dP {l:List Bx} {Y:List Int} {T:List Tn} (hY:Fq (BX l)=Y) (hp:T.Perm (BL l)) (hs:T.Pairwise (λs t=>s.x<=t.x)) {j:Nat} (hj:j<T.length):Legal l ((Fe Y T).take j++[UO Y T j]):=by
 rw [<-UQ Y T hj];refine ⟨T,hp,hs,?_⟩
 rw [hY,Bf,Wu,Nat.min_eq_left (by omega)]
theorem dQ {T:List Tn} (hs:T.Pairwise (λs t=>s.x<=t.x)) {j:Nat} {t u:Tn} (ht:T[j]? = some t) (hu:T[j+1]? = some u):MI t.x u.x=(JM T j:Int):=by
 have htu:=(Kz hs ht).2 u (List.mem_of_getElem? (i:=1) (by rw [List.getElem?_drop];exact hu));have et:mf (T.map Tn.x) j=t.x:=by unfold mf;rw [List.getElem?_map,ht];rfl
 have eu:mf (T.map Tn.x) (j+1)=u.x:=by unfold mf;rw [List.getElem?_map,hu];rfl
 have hlt:j+1<T.length:=by
  rcases Nat.lt_or_ge (j+1) T.length with h | h
  ·exact h
  ·rw [List.getElem?_eq_none h] at hu;cases hu
 unfold JM MI;rw [if_pos hlt,et,eu];split<;>omega
theorem dS {T:List Tn} {j:Nat} (h:¬j+1<T.length):JM T j=0:=by unfold JM;rw [if_neg h]
def encS (s:Nat×Nat×Nat):Array Value:=#[.agg #[(s.1:Int),.int .u64 (s.2.1:Int),(s.2.2:Int)]]
theorem iZ (A:Option Addr) (n C:Nat) (w:World):Calls Tryz.prog 106 #[.slice A n C] w λe w'=>e=.returned (.func (.func 167) #[] #[.pointer (some w.heap.size)])/\w'=w.alloc (.cells #[.slice A n C] 149):=by
 go_enter Tryz.func106,Tryz.ntmps106
 go_wp2
 go_ret
 exact ⟨rfl,rfl⟩
structure Vo (w:World) (B0 B p:Nat) (kv pv fv:Value) (K:List (Int×Nat)) (P:List Nat) (l:List Bx):Prop where
 rk:KK.row w B0 kv K
 sp:See KN w pv P
 rf:MO.row w B fv l
 cp:w.cell? p=some fv
theorem Vo.upd {w w':World} {B0 B p:Nat} {kv pv fv:Value} {K:List (Int×Nat)} {P:List Nat} {l:List Bx} (h:Vo w B0 B p kv pv fv K P l) {G:List Nat} (hu:Bj G w w')
 (h1:∀k∈blk kv,k∉G) (h2:∀k∈blk pv,k∉G) (h3:∀k∈blk fv,k∉G) (h4:p∉G):Vo w' B0 B p kv pv fv K P l:=
 ⟨Bl h.rk hu h1,h.sp.upd hu λ_ k hk _=>h2 k hk,Bl h.rf hu h3,(hu.cell (p:=⟨p,0,none⟩) (World.block_lt_of_cell? w _ h.cp) h4).trans h.cp⟩
theorem Vo.BF {w w':World} {B0 B p:Nat} {kv pv fv:Value} {K:List (Int×Nat)} {P:List Nat} {l:List Bx} (h:Vo w B0 B p kv pv fv K P l) (hu:Bj [] w w'):Vo w' B0 B p kv pv fv K P l:=
 h.upd hu (by simp) (by simp) (by simp) (by simp)
theorem wP (A:Option Addr) (C:Nat) (l:List Bx) (w:World) (p B:Nat) (hp:w.cell? p=some (.slice A l.length C)) (hpB:B<=p) (hrow:MO.row w B (.slice A l.length C) l) (hl:l.length<100000) (hb:∀b∈l,b.CS) (hc:∀b∈l,b.counts=true) :
 XR Tryz.prog 167 #[.pointer (some p)] encS (Full l) (Legal l) B w:=by
 intro n rid J W hW hr1 hr2 hJ hY h0;refine callsIn_wide.2 ?_
 obtain ⟨iK,hiK,hK0,hK1,hK2⟩:=info_parts Yn;obtain ⟨iM,hiM,hM0,hM1,hM2⟩:=info_parts QM;have hpw:p<w.heap.size:=World.block_lt_of_cell? w _ hp;have hcp:=(hW.cell (p:=⟨p,0,none⟩) hpw (by simp)).trans hp;have hrf:MO.row W B (.slice A l.length C) l:=Bl hrow hW (by simp);have hfw:∀k∈blk (.slice A l.length C),B<=k/\k<w.heap.size:=λk hk=>⟨BH hrow k hk,BJ hrow k hk⟩
 have hM:=Hz hb hl;obtain ⟨hU2,hUg⟩:=Wv l hc;have htl:=EG l;obtain ⟨B0,hB0⟩:=AU W.heap.size;have HPW:=Ap hpB hpw;have HCP:=AX hcp;have HRF:=AX hrf;have HFW:=AX hfw;have HM:=AX hM;have HUG:=Aq hU2 hUg htl;have HL:=AX hl;have a6e:=AX hb;have HB0:=AX hB0;have a7Y:=AX hc;have Zo:=Ap hr1 hr2;have HJ:=AX hJ;have HY:=AX hY;have HJ0:=AX h0;have hll:(l.length:Int)<100000:=by omega
 clear hp hpB hrow hl hb hc hW hr1 hr2 hJ hY h0 hpw hcp hrf hfw hM hU2 hUg htl hB0;have hc0:=HCP.out;go_enter Tryz.func167,Tryz.ntmps167
 go_wp2_with fail
 clear hc0
 go_loopg [3,4,18] l.length (λm s3 s4 s18 wr=>∃k Ak Ck Am Cm,m+k=l.length/\s3=.slice Ak (keysT (BL (l.take k))).length Ck/\s4=.slice Am (BX (l.take k)).length Cm/\s18=.int .i64 (k:Int)/\
  Duo B0 wr (.slice Ak (keysT (BL (l.take k))).length Ck) (BL (l.take k)) (.slice Am (BX (l.take k)).length Cm) (BX (l.take k))/\Bj [] W wr)
 case atStart=>exact ⟨0,none,0,none,0,rfl,rfl,rfl,rfl,⟨World.ownsRow_nil _ _ _ _,World.ownsRow_nil _ _ _ _,by simp [blk]⟩,Bj.refl _ _⟩
 case round=>
  obtain ⟨k,Ak,Ck,Am,Cm,hk,rfl,rfl,rfl,ht,hu⟩:=hrel;have b0:(0:Int)<=(k:Int):=AY _;by_cases hlt:k<l.length
  ·obtain ⟨b,hb⟩:∃b,l[k]? = some b:=⟨_,Ba hlt⟩;have hcb:b.counts=true:=a7Y.out b (List.mem_of_getElem? hb);obtain ⟨bl,ol,hA,-,-,l0,l1,l2,l3⟩:=MO.at ((See.BU HRF.out).BF hu) hb;subst hA;have htt:=TK l hb;have hty:=VI l hb;rw [if_pos hcb] at htt hty;have hlen:=EG (l.take k);have htl:(l.take k).length<=l.length:=by rw [Bf];omega
   obtain ⟨T,hT⟩:=AU (BL (l.take k));obtain ⟨M,hM⟩:=AU (BX (l.take k));rw [hT] at htt ht hlen |-;rw [hM] at hty ht hlen |-;obtain ⟨x1,x2,y1,y2,bi⟩:=b;dsimp only at l0 l1 l2 l3 htt hty;have hkl:(keysT T).length=T.length:=FY T;have b1:(k:Int)<(l.length:Int):=by omega
   have HT:=AX ht;have U5:=AX htt;have fF:=AX hty;have PU:=AX (show M.length<900000/\(keysT T).length<900000 by have:=HL.out;omega);have HU:=AX hu;have HK:=Ap hk hlt;have FI:Bj [] wr (wr.alloc (.cells #[x1,x2,y1,y2] 245)):=(Bj.refl _ _).alloc _;have hbx:(wr.alloc (.cells #[x1,x2,y1,y2] 245)).heap[wr.heap.size]? = some (.cells #[x1,x2,y1,y2] 245 (0,0)):=heap_alloc_new _ _;have Hr:=AX FI;have G7:=AX hbx;clear ht htt hty hlen htl hu hk hlt hT hM hkl FI hbx hb hcb;go_upto_region 5 with fail
   have Nw:=AX (HT.out.BF Hr.out);have ZY:=AX (show ∀j∈blk (.slice Ak (keysT T).length Ck),j<wr.heap.size from BJ HT.out.rk);have fJ:=AX (HU.out.trans Hr.out);generalize (wr.alloc (.cells #[x1,x2,y1,y2] 245))=Wb at G7 Nw fJ Hr |-;generalize wr.heap.size=q at G7 ZY |-;have c0:Wb.cell? q=some (.int .i64 x1):=by have:=G7.out;simp [World.cell?,this]
   have c1:Wb.cell? ⟨q,1,none⟩=some (.int .i64 x2):=by have:=G7.out;simp [World.cell?,this]
   have HBw:=AX (show B0<=Wb.heap.size by have:=fJ.out.size;rw [HB0.out] at this;exact this);go_wp2_with (at_builtin;refine BM _ rfl _ _ 216 rfl B0 218 iK (.agg #[.int .i64 0,.int .u32 0]) 2 16 Tryz.underlying216 hiK hK0 hK1 hK2 rfl (by decide) _ _ _ rfl (Bl Nw.out.rk ((Bj.refl [] _).alloc _) (by simp)) _ 2 [x1,.int .u32 0,x2,.int .u32 0] rfl (BK Wb #[x1,.int .u32 0,x2,.int .u32 0] 218 2 2 rfl (by decide)) (by simp [Value.oneCell']) (by have:=PU.2;unfold maxLen;omega) (Ac PU.2) (by have:=HBw.out;simp;omega) ?_)
   intro A7 C7 w7 HP;have u7:Bj (blk (.slice Ak (keysT T).length Ck)) Wb w7:=((Bj.refl _ _).alloc _).trans HP.upd
   have k7:KK.row w7 B0 (.slice A7 ((keysT T).length+2) C7) (keysT T++[(x1,0),(x2,0)]):=by
    have:=HP.own;unfold Kind.row;rw [Kind.BZ,Bc];exact this
   have m7:KL.row w7 B0 (.slice Am M.length Cm) M:=Bl Nw.out.rm u7 (λj hj hc=>Nw.out.km j hc hj);have am7:=Hq HP (u:=.slice Am M.length Cm) (λj hj=>Bg (BJ Nw.out.rm j hj) (by simp)) Nw.out.km;have hq7:q∉blk (.slice Ak (keysT T).length Ck):=λh=>by have:=ZY.out q h;omega
   have h7:=(u7.block q (lt_of_block G7.out) hq7).trans G7.out;have d2:w7.cell? ⟨q,2,none⟩=some (.int .i64 y1):=by simp [World.cell?,h7]
   have d3:w7.cell? ⟨q,3,none⟩=some (.int .i64 y2):=by simp [World.cell?,h7]
   have Oz:=AX (show Bj [] W w7 from fJ.out.trans' u7 (λj hj=>.inr (by rw [HB0.out];exact BH Nw.out.rk j hj)));have X3:=Aq k7 m7 am7;have a1H:=AX (Bh HBw.out u7.size);clear HP u7 k7 m7 am7 hq7 h7 c0 c1;go_wp2_with (at_builtin;refine BM _ rfl _ _ 57 rfl B0 2 iM (.int .i64 0) 1 8 Tryz.underlying57 hiM hM0 hM1 hM2 rfl (by decide) _ _ _ rfl (Bl X3.2.1 ((Bj.refl [] _).alloc _) (by simp)) _ 2 [y1,y2] rfl (BK w7 #[y1,y2] 2 1 2 rfl (by decide)) (by simp [Value.oneCell']) (by have:=PU.1;unfold maxLen;omega) (Ac PU.1) (by have:=a1H.out;simp;omega) ?_)
   intro A8 C8 w8 HP;have u8:Bj (blk (.slice Am M.length Cm)) w7 w8:=((Bj.refl _ _).alloc _).trans HP.upd
   have m8:KL.row w8 B0 (.slice A8 (M.length+2) C8) (M++[y1,y2]):=by
    have:=HP.own;unfold Kind.row;rw [Kind.BZ,Bc];exact this
   have k8:=Bl X3.1 u8 (λj hj hc=>X3.2.2 j hj hc);have ak8:∀j∈blk (.slice A7 ((keysT T).length+2) C7),j∉blk (.slice A8 (M.length+2) C8):=λj hj hc=>Hq HP (u:=.slice A7 ((keysT T).length+2) C7) (λj hj=>Bg (BJ X3.1 j hj) (by simp)) (λj hj hc=>X3.2.2 j hc hj) j hc hj
   have nS:=AX (show Bj [] W w8 from Oz.out.trans' u8 (λj hj=>.inr (by rw [HB0.out];exact BH Nw.out.rm j hj)));have nT:=Aq k8 m8 ak8;clear HP u8 m8 k8 ak8 d2 d3;go_wp2_with fail
   go_roundg (l.length - (k+1))
   case measure=>have:=HK.out;omega
   case rel=>
    have ekk:keysT (T++[⟨x1,⟨x1,x2,y1,y2,bi⟩,false⟩,⟨x2,⟨x1,x2,y1,y2,bi⟩,true⟩])=keysT T++[(x1,0),(x2,0)]:=by simp [keysT]
    refine ⟨k+1,A7,C7,A8,C8,Ac HK,?_,?_,by go_num,?_,nS.out⟩
    ·rw [U5.out,ekk,Bc];rfl
    ·rw [fF.out,Bc];rfl
    ·rw [U5.out,fF.out,ekk,Bc,Bc];exact ⟨by rw [ekk];exact nT.1,nT.2.1,nT.2.2⟩
  ·have hke:l.take k=l:=List.take_of_length_le (by omega);rw [hke] at ht |-;have b1:¬(k:Int)<(l.length:Int):=by omega
   clear hk hke hlt;obtain ⟨U,hU⟩:=AU (BL l);obtain ⟨M,hMe⟩:=AU (BX l);obtain ⟨Y,hYe⟩:=AU (Fq (BX l));have hug:=HUG.out;have hmk:=HM.out;rw [hU,hMe] at hug;rw [hYe] at hmk;rw [hU,hMe] at ht |-;have hYM:Fq M=Y:=by rw [<-hMe];exact hYe
   have hML:M.length<400000/\U.length<400000:=Ac HL;obtain ⟨K,hK⟩:=AU (keysT U);have hKL:K.length=U.length:=by rw [<-hK];exact FY U
   have hrk:=ht.rk;rw [hK] at hrk;rw [hK];have qE:=TJ (.slice Am M.length Cm) M wr (See.BU ht.rm) (by omega);unfold fH at qE;rw [hYM] at qE;have HSQ:=AX qE;have pW:=AX hrk;have HWR:=AX hu;have mY:=Au hYe hU hMe hK;have HMK:=AX hmk;have a6f:=AX hug;have HLEN:=Ap hML hKL;have HKN:=AX (show (K.length:Int)<400000 by omega);clear ht hu hug hmk hYM hML hKL hrk qE hU hMe hYe hK;go_wp2_with fail
   go_fit HSQ.out
   rintro e w1 ⟨A1,C1,rfl,r1,u1⟩;have HN:=AX (newC (.slice A1 Y.length C1) Y w1 (See.BU r1) HMK.out);have DJ:=AX u1;clear r1 u1;go_wp2_with fail
   go_fit HN.out
   rintro e w2 ⟨b,F,rfl,c2,u2,f2⟩;have Ej:=Au c2 (DJ.out.trans u2) f2 c2.lt;have nR:=AX (VH (.slice Ak K.length Ck) K w2 (See.BU (Bl pW.out (DJ.out.trans u2) (by simp))) (Ac HLEN));clear c2 u2 f2 HN HSQ;go_wp2_with fail
   go_fit nR.out
   rintro e w3 ⟨A3,C3,P,wrt,rfl,s3,p3,q3,u3,k3⟩;have Z4:=AX (OV (T:=U) (M:=P) (by rw [mY.2.2.2];exact p3) (by rw [mY.2.2.2];exact q3) ⟨0,⟨0,0,0,0,0⟩,false⟩);have hPl:P.length=K.length:=by have:=p3.length_eq;rw [List.length_range] at this;exact this
   have hPi:∀i∈P,i<K.length:=λi hi=>List.mem_range.1 (p3.mem_iff.1 hi)
   have hww:Bj [] wr w3:=Ej.2.1.trans u3
   have hst:Vo w3 B0 B p (.slice Ak K.length Ck) (.slice A3 K.length C3) (.slice A l.length C) K P l:=
    ⟨Bl pW.out hww (by simp),by have:=s3;exact this,Bl HRF.out (HWR.out.trans hww) (by simp),((HWR.out.trans hww).cell (p:=⟨p,0,none⟩) (World.block_lt_of_cell? W _ HCP.out) (by simp)).trans HCP.out⟩
   have hdis:(∀y∈F,B0<=y)/\(∀k∈blk (.slice Ak K.length Ck),k∉F/\B0<=k)/\(∀k∈blk (.slice A3 K.length C3),k∉F/\B0<=k):=by
    have z1:=DJ.out.size;have z0:=HWR.out.size;have z2:=Ej.2.1.size;rw [HB0.out] at z0;refine ⟨λy hy=>by have:=Ej.2.2.1 y hy;omega,λk hk=>⟨λhf=>?_,BH pW.out k hk⟩,λk hk=>⟨λhf=>?_,by have:=k3 k hk;omega⟩⟩
    ·have h1:=Ej.2.2.1 k hf;have h2:=BJ pW.out k hk;omega
    ·have h1:=Ej.2.2.2 k hf;have h2:=k3 k hk;omega
   obtain ⟨T,hT⟩:∃T,(P.map λi=>U[i]?.getD ⟨0,⟨0,0,0,0,0⟩,false⟩)=T:=⟨_,rfl⟩;obtain ⟨N0,hN0⟩:=AU K.length;have hTl:T.length=N0:=by rw [<-hT,List.length_map,hPl,hN0]
   have Le:=AX hdis;have HST:=AX hst;have U5:=AX hT;rw [hT] at Z4;rw [hN0] at HST Le hPl hPi HKN HLEN pW |-;have HP:=Aq hPl hPi hTl;have HCV:=AX (Ej.1.BF u3);have HW3:=AX (HWR.out.trans hww);have Qb:=AX hN0;have hKn:=HKN.out;clear s3 p3 q3 u3 k3 hPl hPi hww hst hdis hT hTl hN0 Ej nR;go_wp2_with fail
   go_loopg [55] N0 (λm s55 wr=>∃k N,m+k=N0/\N<=k/\s55=.int .i64 (k:Int)/\J ((Fe Y T).take k) wr/\DR wr b F Y (sw Y (T.take k)) N/\Vo wr B0 B p (.slice Ak N0 Ck) (.slice A3 N0 C3) (.slice A l.length C) K P l/\B0<=wr.heap.size)
   case atStart=>exact ⟨0,0,by omega,Nat.le_refl _,rfl,HJ.out [] W w3 HJ0.out HW3.out.below,HCV.out,HST.out,by have:=HW3.out.size;rw [HB0.out] at this;exact this⟩
   case round=>
    clear b1;obtain ⟨j,N,hk,hNk,rfl,hJk,hcv,hst,hsz⟩:=hrel;have b0:(0:Int)<=(j:Int):=AY _;by_cases hlt:j<N0
    ·have b1:(j:Int)<(N0:Int):=by omega
     obtain ⟨i,hi⟩:∃i,P[j]? = some i:=⟨_,Ba (by rw [HP.1];exact hlt)⟩;have hiN:=HP.2.1 i (List.mem_of_getElem? hi);have hUL:U.length=N0:=HLEN.2.symm;obtain ⟨bb,hbb,hUi⟩:=a6f.2.1 i (by omega);have hh0:i / 2<l.length:=Ac a6f.1;obtain ⟨t,ht⟩:∃t:Tn,(if i % 2=0 then ⟨bb.x1,bb,false⟩ else ⟨bb.x2,bb,true⟩)=t:=⟨_,rfl⟩;rw [ht] at hUi;have hTj:T[j]? = some t:=by rw [<-U5.out,List.getElem?_map,hi];simp [hUi]
     have hKi:K[i]? = some (t.x,0):=by rw [<-mY.2.2.2];unfold keysT;rw [List.getElem?_map,hUi];rfl
     obtain ⟨gp,op,hA3,-,-,cpl⟩:=KN.at hst.sp hi;obtain ⟨gf,of,hAf,-,-,l0,l1,l2,l3⟩:=MO.at (See.BU hst.rf) hbb;obtain ⟨gk,ok,hAk,-,-,hkc⟩:=(See.BU hst.rk).at hKi;have k0:wr.cell? ⟨gk,ok+i*2,none⟩=some (.int .i64 t.x):=hkc 0 _ rfl;clear hkc;obtain ⟨h,hh⟩:=AU (i / 2);rw [hh] at l0 l1 l2 l3 hh0;have e2:(i:Int) / 2=(h:Int):=by omega
     have h0:(0:Int)<=(h:Int):=AY _;have h1:(h:Int)<(l.length:Int):=by omega
     subst hA3 hAf hAk;have ccp:=hst.cp;have HX:=AO hk hNk hlt hiN hbb ht hTj hi hUi;have HJK:=AX hJk;have a6g:=AX hcv;have a6h:=AX hst;have eY:=AX hsz;have HK0:=Ap k0 cpl;clear hk hNk hJk hcv hst hsz hlt hi hiN hUL hbb hUi ht hTj hKi k0 hh hh0;have FI:Bj [] wr ((wr.alloc (.cells #[bb.x1,bb.x2,bb.y1,bb.y2] 245)).alloc (.cells #[.int .i64 0,.int .u64 0,.int .i64 0] 156)):=((Bj.refl _ _).alloc _).alloc _
     have hbx:((wr.alloc (.cells #[bb.x1,bb.x2,bb.y1,bb.y2] 245)).alloc (.cells #[.int .i64 0,.int .u64 0,.int .i64 0] 156)).heap[wr.heap.size]? = some (.cells #[bb.x1,bb.x2,bb.y1,bb.y2] 245 (0,0))/\((wr.alloc (.cells #[bb.x1,bb.x2,bb.y1,bb.y2] 245)).alloc (.cells #[.int .i64 0,.int .u64 0,.int .i64 0] 156)).heap[wr.heap.size+1]? = some (.cells #[.int .i64 0,.int .u64 0,.int .i64 0] 156 (0,0)):=
      ⟨(Below.heap_alloc _ _ _ (by simp)).trans (heap_alloc_new _ _),by have:=heap_alloc_new (wr.alloc (.cells #[bb.x1,bb.x2,bb.y1,bb.y2] 245)) (.cells #[.int .i64 0,.int .u64 0,.int .i64 0] 156);rwa [World.size_alloc] at this⟩
     have hqf:(∀y∈F,y<wr.heap.size)/\(∀k∈blk (.slice (some ⟨gk,ok,none⟩) N0 Ck),k<wr.heap.size)/\(∀k∈blk (.slice (some ⟨gp,op,none⟩) N0 C3),k<wr.heap.size)/\W.heap.size<=wr.heap.size/\w.heap.size<=wr.heap.size:=
      ⟨a6g.out.lt,BJ a6h.out.rk,λk hk=>by simp [blk] at hk;subst hk;exact World.block_lt_of_cell? wr _ HK0.2,by rw [HB0.out];exact eY.out,by have:=Zo.out;rw [HB0.out] at this;have:=eY.out;omega⟩
     have hsl:(sw Y (T.take j)).length<=1000000:=by have h1:=wE Y (T.take j);rw [Bf] at h1;have:=HP.2.2;have:=HKN.out;omega
     have hsn:sw Y (T.take (j+1))=stepT Y (sw Y (T.take j)) t/\vV Y (sw Y (T.take j)) t=Zv Y T j:=by
      have htj:=HX.2.2.2.2.2.2.1;refine ⟨by rw [show T.take (j+1)=T.take j++[t] by rw [List.take_add_one,htj];rfl,XM],?_⟩
      have h1:=Zf (l:=l) (T:=T) (by rw [mY.2.1];exact Z4.1) Z4.2 htj;rw [mY.1] at h1;rw [h1];unfold Zv;rw [htj]
     have Hr:=AX FI;have G7:=AX hbx;have Jr:=AX hqf;have HSL:=AX hsl;have HSN:=AX hsn;clear FI hbx hqf hsl hsn;obtain ⟨g,hg⟩:∃g,((i:Int) % 2==0)=g:=⟨_,rfl⟩;go_upto_if 68 with fail
     have HG:=AX hg;clear hg e2 h0 h1 l0 l1 l2 l3 ccp;have HSb:=AX (a6h.out.BF Hr.out);have HCb:=AX (a6g.out.BF Hr.out);have HJb:=AX (HJ.out _ _ _ HJK.out (Hr.out.below.mono Jr.2.2.2.1));have wQ:=AX (Bh eY.out Hr.out.size);generalize ((wr.alloc (.cells #[bb.x1,bb.x2,bb.y1,bb.y2] 245)).alloc (.cells #[.int .i64 0,.int .u64 0,.int .i64 0] 156))=Wb at G7 HSb HCb HJb wQ Hr |-;have HKS:=AX (show Bj [] wr Wb from Hr.out);generalize hq:wr.heap.size=q at G7 Jr |-;have QI:=AX hq;clear hq;have c2:Wb.cell? ⟨q,2,none⟩=some (.int .i64 bb.y1):=by have:=G7.1;simp [World.cell?,this]
     have c3:Wb.cell? ⟨q,3,none⟩=some (.int .i64 bb.y2):=by have:=G7.1;simp [World.cell?,this]
     go_cut [] (λwc=>(∃N',N'<=j+1/\DR wc b F Y (sw Y (T.take (j+1))) N')/\Vo wc B0 B p (.slice (some ⟨gk,ok,none⟩) N0 Ck) (.slice (some ⟨gp,op,none⟩) N0 C3) (.slice (some ⟨gf,of,none⟩) l.length C) K P l/\J ((Fe Y T).take j) wc/\wc.heap[q+1]? = some (.cells #[.int .i64 0,.int .u64 0,.int .i64 (Zv Y T j:Int)] 156 (0,0))/\B0<=wc.heap.size)
     case first=>
      by_cases hpar:i % 2=0
      ·
       have htt:t=⟨bb.x1,bb,false⟩:=by rw [<-HX.2.2.2.2.2.1];rw [if_pos hpar]
       have g1:g=true:=by rw [<-HG.out,beq_iff_eq];omega
       subst g1;have had:=a5R b F Y (sw Y (T.take j)) N Wb bb.y1 bb.y2 HCb.out HMK.out (Ag HX.2.1 HX.2.2.1 HKN) HSL.out;unfold XL at had;have e1:Qp Y (sw Y (T.take j)) bb.y1 bb.y2=sw Y (T.take (j+1)):=by rw [HSN.1,htt];rfl
       have e3:Y7 Y bb.y1 bb.y2=Zv Y T j:=by rw [<-HSN.2,htt];rfl
       rw [e1,e3] at had;obtain ⟨E,hE⟩:=AU (Zv Y T j);rw [hE] at had;have HAD:=AX had;have HE:=AX hE;clear htt had e1 e3 hpar hE;go_wp2_with fail
       go_fit HAD.out
       rintro e w4 ⟨rfl,⟨N',hN',hc4⟩,EI⟩;clear c2 c3;have hq4:=(EI.block (q+1) (lt_of_block G7.2) (λh=>by have:=Jr.1 _ h;omega)).trans G7.2;have d2:w4.cell? ⟨q+1,2,none⟩=some (.int .i64 0):=by simp [World.cell?,hq4]
       have f2:w4.frozen? ⟨q+1,2,none⟩=false:=by simp [World.frozen?,hq4]
       have Oq:=HSb.out.upd EI (λk hk=>(Le.2.1 k hk).1) (λk hk=>(Le.2.2 k hk).1) (λk hk hf=>by have:=Le.1 k hf;have:=(HFW.out k hk).2;have:=Zo.out;rw [HB0.out] at this;omega) (λhf=>by have:=Le.1 p hf;have:=HPW.2;have:=Zo.out;rw [HB0.out] at this;omega);have hJ4:=HJ.out _ _ _ HJb.out (show Below W.heap.size Wb w4 from ⟨EI.os,EI.tape,EI.output,EI.size,λk hk=>EI.block k (by have:=wQ.out;rw [HB0.out] at hk;omega) (λhf=>by have:=Le.1 k hf;rw [HB0.out] at hk;omega)⟩);have hus:Bj [q+1] w4 (w4.setCell ⟨q+1,2,none⟩ (.int .i64 (E:Int))):=(Bj.refl _ _).setCell (.inl (by simp)) _
       have HR4:=AX (AV (show ∃N',N'<=j+1/\DR (w4.setCell ⟨q+1,2,none⟩ (.int .i64 (E:Int))) b F Y (sw Y (T.take (j+1))) N' from ⟨N',Ac HX.2.1,hc4.upd hus (λy hy hc=>by simp at hc;have:=Jr.1 _ hy;omega)⟩)
        (AV (Oq.upd hus (λk hk hc=>by simp at hc;have:=Jr.2.1 _ hk;omega) (λk hk hc=>by simp at hc;have:=Jr.2.2.1 _ hk;omega) (λk hk hc=>by simp at hc;have:=(HFW.out k hk).2;have:=Jr.2.2.2;omega) (λhc=>by simp at hc;have:=HPW.2;have:=Jr.2.2.2;omega))
        (AV (HJ.out _ _ _ hJ4 (show Below W.heap.size w4 (w4.setCell ⟨q+1,2,none⟩ (.int .i64 (E:Int))) from ⟨hus.os,hus.tape,hus.output,hus.size,λk hk=>Below.heap_setCell _ _ _ _ (by have:=Jr.2.2.2;show k≠q+1;omega)⟩))
        (AV (show (w4.setCell ⟨q+1,2,none⟩ (.int .i64 (E:Int))).heap[q+1]? = some (.cells #[.int .i64 0,.int .u64 0,(E:Int)] 156 (0,0)) from heap_set hq4 2 _)
        (show B0<=(w4.setCell ⟨q+1,2,none⟩ (.int .i64 (E:Int))).heap.size from Bh (Bh wQ.out EI.size) hus.size)))))
       clear hq4 Oq hJ4 hus hc4 EI hN';go_wp2_with fail
       clear d2 f2;go_meet
       case rel=>rw [HE.out];exact HR4.out
      ·
       have htt:t=⟨bb.x2,bb,true⟩:=by rw [<-HX.2.2.2.2.2.1];rw [if_neg hpar]
       have g1:g=false:=by rw [<-HG.out,beq_eq_false_iff_ne];omega
       subst g1;have had:=a1n b F Y (sw Y (T.take j)) N Wb bb.y1 bb.y2 HCb.out HMK.out (Ag HX.2.1 HX.2.2.1 HKN) HSL.out;unfold XL at had;have e1:JG Y (sw Y (T.take j)) bb.y1 bb.y2=sw Y (T.take (j+1)):=by rw [HSN.1,htt];rfl
       have e3:NJ Y (sw Y (T.take j)) bb.y1 bb.y2=Zv Y T j:=by rw [<-HSN.2,htt];rfl
       rw [e1,e3] at had;obtain ⟨E,hE⟩:=AU (Zv Y T j);rw [hE] at had;have HAD:=AX had;have HE:=AX hE;clear htt had e1 e3 hpar hE;go_wp2_with fail
       go_fit HAD.out
       rintro e w4 ⟨rfl,⟨N',hN',hc4⟩,EI⟩;clear c2 c3;have hq4:=(EI.block (q+1) (lt_of_block G7.2) (λh=>by have:=Jr.1 _ h;omega)).trans G7.2;have d2:w4.cell? ⟨q+1,2,none⟩=some (.int .i64 0):=by simp [World.cell?,hq4]
       have f2:w4.frozen? ⟨q+1,2,none⟩=false:=by simp [World.frozen?,hq4]
       have Oq:=HSb.out.upd EI (λk hk=>(Le.2.1 k hk).1) (λk hk=>(Le.2.2 k hk).1) (λk hk hf=>by have:=Le.1 k hf;have:=(HFW.out k hk).2;have:=Zo.out;rw [HB0.out] at this;omega) (λhf=>by have:=Le.1 p hf;have:=HPW.2;have:=Zo.out;rw [HB0.out] at this;omega);have hJ4:=HJ.out _ _ _ HJb.out (show Below W.heap.size Wb w4 from ⟨EI.os,EI.tape,EI.output,EI.size,λk hk=>EI.block k (by have:=wQ.out;rw [HB0.out] at hk;omega) (λhf=>by have:=Le.1 k hf;rw [HB0.out] at hk;omega)⟩);have hus:Bj [q+1] w4 (w4.setCell ⟨q+1,2,none⟩ (.int .i64 (E:Int))):=(Bj.refl _ _).setCell (.inl (by simp)) _
       have HR4:=AX (AV (show ∃N',N'<=j+1/\DR (w4.setCell ⟨q+1,2,none⟩ (.int .i64 (E:Int))) b F Y (sw Y (T.take (j+1))) N' from ⟨N',Ac HX.2.1,hc4.upd hus (λy hy hc=>by simp at hc;have:=Jr.1 _ hy;omega)⟩)
        (AV (Oq.upd hus (λk hk hc=>by simp at hc;have:=Jr.2.1 _ hk;omega) (λk hk hc=>by simp at hc;have:=Jr.2.2.1 _ hk;omega) (λk hk hc=>by simp at hc;have:=(HFW.out k hk).2;have:=Jr.2.2.2;omega) (λhc=>by simp at hc;have:=HPW.2;have:=Jr.2.2.2;omega))
        (AV (HJ.out _ _ _ hJ4 (show Below W.heap.size w4 (w4.setCell ⟨q+1,2,none⟩ (.int .i64 (E:Int))) from ⟨hus.os,hus.tape,hus.output,hus.size,λk hk=>Below.heap_setCell _ _ _ _ (by have:=Jr.2.2.2;show k≠q+1;omega)⟩))
        (AV (show (w4.setCell ⟨q+1,2,none⟩ (.int .i64 (E:Int))).heap[q+1]? = some (.cells #[.int .i64 0,.int .u64 0,(E:Int)] 156 (0,0)) from heap_set hq4 2 _)
        (show B0<=(w4.setCell ⟨q+1,2,none⟩ (.int .i64 (E:Int))).heap.size from Bh (Bh wQ.out EI.size) hus.size)))))
       clear hq4 Oq hJ4 hus hc4 EI hN';go_wp2_with fail
       clear d2 f2;go_meet
       case rel=>rw [HE.out];exact HR4.out
     case rest=>
      obtain ⟨⟨N',hN',hc4⟩,Oq,hJ4,hq4,pV⟩:=hcut;clear c2 c3;have hru:=a5S b F Y (sw Y (T.take (j+1))) N' wc hc4;rw [wH HMK.out T j] at hru;obtain ⟨R,hR⟩:=AU (Rq Y T j);obtain ⟨E,hE⟩:=AU (Zv Y T j);rw [hR] at hru;rw [hE] at hq4;have HRU:=AX hru;have VE:=Ap hR hE;have RY:=Aw (⟨N',hN',hc4⟩:∃N',N'<=j+1/\DR wc b F Y (sw Y (T.take (j+1))) N') Oq hJ4 hq4 pV;clear hN' hc4 Oq hJ4 hq4 pV hru hR hE;go_wp2_with fail
      go_fit HRU.out
      rintro e w5 ⟨rfl,EZ⟩
      have Ua:=AX (AV (RY.1.elim λN' h=>(⟨N',h.1,h.2.BF EZ⟩:∃N',N'<=j+1/\DR w5 b F Y (sw Y (T.take (j+1))) N')) (AV (RY.2.1.BF EZ) (AV (HJ.out _ _ _ RY.2.2.1 (EZ.below.mono (by have:=RY.2.2.2.2;rw [HB0.out];exact this)))
       (AV ((EZ.block (q+1) (lt_of_block RY.2.2.2.1) (by simp)).trans RY.2.2.2.1) (Bh RY.2.2.2.2 EZ.size)))))
      have d0:w5.cell? ⟨q+1,0,none⟩=some (.int .i64 0):=by have:=Ua.2.2.2.1;simp [World.cell?,this]
      have f0:w5.frozen? ⟨q+1,0,none⟩=false:=by have:=Ua.2.2.2.1;simp [World.frozen?,this]
      have hus:Bj [q+1] w5 (w5.setCell ⟨q+1,0,none⟩ (.int .i64 (R:Int))):=(Bj.refl _ _).setCell (.inl (by simp)) _
      have oD:=AX (AV (Ua.1.elim λN' h=>(⟨N',h.1,h.2.upd hus (λy hy hc=>by simp at hc;have:=Jr.1 _ hy;omega)⟩:∃N',N'<=j+1/\DR (w5.setCell ⟨q+1,0,none⟩ (.int .i64 (R:Int))) b F Y (sw Y (T.take (j+1))) N'))
       (AV (Ua.2.1.upd hus (λk hk hc=>by simp at hc;have:=Jr.2.1 _ hk;omega) (λk hk hc=>by simp at hc;have:=Jr.2.2.1 _ hk;omega) (λk hk hc=>by simp at hc;have:=(HFW.out k hk).2;have:=Jr.2.2.2;omega) (λhc=>by simp at hc;have:=HPW.2;have:=Jr.2.2.2;omega))
       (AV (HJ.out _ _ _ Ua.2.2.1 (show Below W.heap.size w5 (w5.setCell ⟨q+1,0,none⟩ (.int .i64 (R:Int))) from ⟨hus.os,hus.tape,hus.output,hus.size,λk hk=>Below.heap_setCell _ _ _ _ (by have:=Jr.2.2.2;show k≠q+1;omega)⟩))
       (AV (show (w5.setCell ⟨q+1,0,none⟩ (.int .i64 (R:Int))).heap[q+1]? = some (.cells #[(R:Int),.int .u64 0,(E:Int)] 156 (0,0)) from heap_set Ua.2.2.2.1 0 _)
       (show B0<=(w5.setCell ⟨q+1,0,none⟩ (.int .i64 (R:Int))).heap.size from Bh Ua.2.2.2.2 hus.size)))))
      clear hus;clear EZ;obtain ⟨gb,hgb⟩:∃gb,decide ((j:Int)+1<(N0:Int))=gb:=⟨_,rfl⟩;go_upto_if 96 with fail
      have HGB:=AX hgb;clear d0 f0 hgb;generalize w5.setCell ⟨q+1,0,none⟩ (.int .i64 (R:Int))=W6 at oD |-;go_cut [] (λwd=>(∃N',N'<=j+1/\DR wd b F Y (sw Y (T.take (j+1))) N')/\Vo wd B0 B p (.slice (some ⟨gk,ok,none⟩) N0 Ck) (.slice (some ⟨gp,op,none⟩) N0 C3) (.slice (some ⟨gf,of,none⟩) l.length C) K P l/\J ((Fe Y T).take j) wd/\wd.heap[q+1]? = some (.cells #[(R:Int),.int .u64 (JM T j:Int),(E:Int)] 156 (0,0))/\B0<=wd.heap.size)
      case first=>
       by_cases hend:j+1<N0
       ·have g1:gb=true:=by rw [<-HGB.out,decide_eq_true_eq];omega
        subst g1;obtain ⟨i',hi'⟩:∃i',P[j+1]? = some i':=⟨_,Ba (by rw [HP.1];exact hend)⟩;have a7Z:=HP.2.1 i' (List.mem_of_getElem? hi');have hUL:U.length=N0:=HLEN.2.symm;obtain ⟨u,a0y⟩:∃u,U[i']? = some u:=⟨_,Ba (by omega)⟩;have hTj':T[j+1]? = some u:=by rw [<-U5.out,List.getElem?_map,hi'];simp [a0y]
        have a6i:K[i']? = some (u.x,0):=by rw [<-mY.2.2.2];unfold keysT;rw [List.getElem?_map,a0y];rfl
        have hKi:K[i]? = some (t.x,0):=by rw [<-mY.2.2.2];unfold keysT;rw [List.getElem?_map,HX.2.2.2.2.2.2.2.2];rfl
        obtain ⟨_,_,hA,-,-,hkc⟩:=(See.BU oD.2.1.rk).at hKi
        cases hA
        obtain ⟨_,_,hA,-,-,a3e⟩:=(See.BU oD.2.1.rk).at a6i
        cases hA
        obtain ⟨_,_,hA,-,-,hpl⟩:=KN.at oD.2.1.sp hi'
        cases hA
        have hs0:W6.cell? ⟨gk,ok+i*2,none⟩=some (.int .i64 t.x)/\W6.cell? ⟨gp,op+(j+1),none⟩=some (.int .i64 (i':Int))/\W6.cell? ⟨gk,ok+i'*2,none⟩=some (.int .i64 u.x)/\W6.cell? ⟨gk,ok+i'*2,none⟩=some (.int .i64 u.x):=⟨hkc 0 _ rfl,hpl,a3e 0 _ rfl,a3e 0 _ rfl⟩;have hdx:=dQ Z4.2 HX.2.2.2.2.2.2.1 hTj';have a3f:=Wy a6e.out (t:=t) (by rw [mY.2.1];exact List.mem_of_getElem? HX.2.2.2.2.2.2.2.2);have hu64:=Wy a6e.out (t:=u) (by rw [mY.2.1];exact List.mem_of_getElem? a0y);obtain ⟨LG,mX⟩:=AU (JM T j);obtain ⟨tx,htx⟩:=AU t.x;obtain ⟨ux,RS⟩:=AU u.x;rw [htx,RS,mX] at hdx;rw [htx] at hs0 a3f;rw [RS] at hs0 hu64;have hdf:=λw=>iL tx ux w a3f hu64
        rw [hdx] at hdf;have HDF:=AX hdf;have HLG:=AX mX;have HS0:=AX hs0;have v0:(0:Int)<=(i:Int):=AY _;have v1:(i:Int)<(N0:Int):=Ac HX.2.2.2.1;have v2:(0:Int)<=(i':Int):=AY _;have v3:(i':Int)<(N0:Int):=by omega
        have v4:(j:Int)+1<(N0:Int):=by omega
        clear hend hi' a7Z hUL a0y hTj' a6i hKi hkc a3e hpl hs0 hdx a3f hu64 mX htx RS hdf;go_upto_region 20 with fail
        have wk:IntKind.i64.wrap ((j:Int)+1)=(j:Int)+1:=IntWalk.i64_in _ ⟨by omega,by omega⟩;have kp:(0:Int)<=(j:Int)+1:=by omega
        have kn:((j:Int)+1).toNat=j+1:=by omega
        obtain ⟨Wd,hWd⟩:∃Wd,Wd=W6.drew:=⟨_,rfl⟩;have hud:Bj [] W6 Wd:=by rw [hWd];exact (Bj.refl _ _).drew
        have wR:=AX (Jg HS0.out hud)
        have wM:=AX (AV (oD.1.elim λN' h=>(⟨N',h.1,h.2.BF hud⟩:∃N',N'<=j+1/\DR Wd b F Y (sw Y (T.take (j+1))) N')) (AV (oD.2.1.BF hud) (AV (HJ.out _ _ _ oD.2.2.1 (hud.below.mono (by have:=oD.2.2.2.2;rw [HB0.out];exact this)))
         (AV ((hud.block (q+1) (lt_of_block oD.2.2.2.1) (by simp)).trans oD.2.2.2.1) (Bh oD.2.2.2.2 hud.size)))))
        clear hud;refine Bo.start [14,15,16] (λw'=>w'.cell? ⟨gk,ok+i*2,none⟩=some (.int .i64 tx)/\w'.cell? ⟨gp,op+(j+1),none⟩=some (.int .i64 (i':Int))/\w'.cell? ⟨gk,ok+i'*2,none⟩=some (.int .i64 ux)/\w'.cell? ⟨gk,ok+i'*2,none⟩=some (.int .i64 ux)) (by kernel_rfl) ?_ λhS=>?_
        ·exact by rw [<-hWd];exact wR.out
        rw [<-hWd] at hS |-;clear hWd;refine' Bo.mx 0 97 ?_
        refine' Bo.mx 1 98 ?_
        refine' Bo.mx 2 99 ?_
        refine' Bo.mx 3 100 ?_
        refine' Bo.ty 4 4 101 ?_
        refine' Bo.mx 5 102 ?_
        refine' Bo.mx 6 103 ?_
        refine' Bo.mx 7 104 ?_
        refine' Bo.mx 8 105 ?_
        refine' Bo.mx 9 106 ?_
        refine' Bo.ty 4 10 107 ?_
        refine' Bo.mx 11 108 ?_
        refine' Bo.mx 12 109 ?_
        refine' Bo.ty 4 13 110 ?_
        refine Bo.one (i:=14) (o:=⟨some 111,_,_,_,_,_⟩) rfl (by kernel_rfl) λK hK=>?_
        go_simp
        go_at_call 98
        go_fit (HDF.out _)
        rintro e w' ⟨rfl,rfl⟩;refine hK.out _ _ (λh=>(by cases h)) ?_
        clear hK K;try simp only [Act.put,sA,sZ,sS]
        have z1:Wd.cell? ⟨q+1,1,none⟩=some (.int .u64 0):=by have:=wM.2.2.2.1;simp [World.cell?,this]
        have zf:Wd.frozen? ⟨q+1,1,none⟩=false:=by have:=wM.2.2.2.1;simp [World.frozen?,this]
        refine' Bo.mx 15 112 ?_
        refine Bo.one (i:=16) (o:=⟨none,_,_,_,_,_⟩) rfl (by kernel_rfl) λK hK=>?_
        go_simp
        refine hK.out _ _ (λh=>(by cases h)) ?_
        clear hK K;try simp only [Act.put,sA,sZ,sS]
        refine Bo.done (by kernel_rfl) ?_
        clear wk kp kn v0 v1 v2 v3 v4;have hus:Bj [q+1] Wd (Wd.setCell ⟨q+1,1,none⟩ (.int .u64 (LG:Int))):=(Bj.refl _ _).setCell (.inl (by simp)) _
        have HC7:=AX (AV (wM.1.elim λN' h=>(⟨N',h.1,h.2.upd hus (λy hy hc=>by simp at hc;have:=Jr.1 _ hy;omega)⟩:∃N',N'<=j+1/\DR (Wd.setCell ⟨q+1,1,none⟩ (.int .u64 (LG:Int))) b F Y (sw Y (T.take (j+1))) N'))
         (AV (wM.2.1.upd hus (λk hk hc=>by simp at hc;have:=Jr.2.1 _ hk;omega) (λk hk hc=>by simp at hc;have:=Jr.2.2.1 _ hk;omega) (λk hk hc=>by simp at hc;have:=(HFW.out k hk).2;have:=Jr.2.2.2;omega) (λhc=>by simp at hc;have:=HPW.2;have:=Jr.2.2.2;omega))
         (AV (HJ.out _ _ _ wM.2.2.1 (show Below W.heap.size Wd (Wd.setCell ⟨q+1,1,none⟩ (.int .u64 (LG:Int))) from ⟨hus.os,hus.tape,hus.output,hus.size,λk hk=>Below.heap_setCell _ _ _ _ (by have:=Jr.2.2.2;show k≠q+1;omega)⟩))
         (AV (show (Wd.setCell ⟨q+1,1,none⟩ (.int .u64 (LG:Int))).heap[q+1]? = some (.cells #[(R:Int),.int .u64 (LG:Int),(E:Int)] 156 (0,0)) from heap_set wM.2.2.2.1 1 _)
         (show B0<=(Wd.setCell ⟨q+1,1,none⟩ (.int .u64 (LG:Int))).heap.size from Bh wM.2.2.2.2 hus.size)))))
        clear hus;clear z1 zf;go_wp2_with fail
        go_meet
        case rel=>rw [HLG.out];exact HC7.out
       ·have g1:gb=false:=by rw [<-HGB.out,decide_eq_false_iff_not];omega
        subst g1;have hz:=dS (T:=T) (j:=j) (by rw [HP.2.2];exact hend);have HZ:=AX hz;clear hz hend;go_wp2_with fail
        go_meet
        case rel=>rw [HZ.out];exact oD.out
      case rest=>
       obtain ⟨hc7,Zp,hJ7,hq7,hz7⟩:=hcut;have hYY:=HY.out _ (UO Y T j) wc hJ7 (dP mY.1 (by rw [mY.2.1];exact Z4.1) Z4.2 (by rw [HP.2.2];exact HX.2.2.1)) (by rw [HB0.out];exact hz7);rw [<-UQ Y T (by rw [HP.2.2];exact HX.2.2.1)] at hYY;obtain ⟨LG,mX⟩:=AU (JM T j);have hsk:encS (UO Y T j)=#[.agg #[(R:Int),.int .u64 (LG:Int),(E:Int)]]:=by unfold encS UO;rw [VE.1,VE.2,mX]
       rw [mX] at hq7;rw [hsk] at hYY;have z0:wc.cell? ⟨q+1,0,none⟩=some (.int .i64 (R:Int)):=by simp [World.cell?,hq7]
       have z1:wc.cell? ⟨q+1,1,none⟩=some (.int .u64 (LG:Int)):=by simp [World.cell?,hq7]
       have z2:wc.cell? ⟨q+1,2,none⟩=some (.int .i64 (E:Int)):=by simp [World.cell?,hq7]
       have HC7:=Aq hc7 Zp hz7;have HYY:=AX hYY;clear hc7 Zp hJ7 hq7 hz7 hYY hsk mX;go_upto_region 21 with fail
       refine (wpIn_wide (n:=n+1)).1 ?_
       obtain ⟨fn,tm,asg,bod,hy,hR⟩:=HYY.out;gi_wp2
       refine hR.mono ?_
       rintro e w8 ⟨rfl,hJ8,G,gX,hG8⟩;clear hy hR z0 z1 z2
       have hgn:∀g∈G,g<B0/\(g<B\/g=rid):=λg hg=>by
        have h1:=Zo.out;rw [HB0.out] at h1;have h2:=HPW.out;rcases hG8 g hg with h | h
        ·exact ⟨by omega,.inl h⟩
        ·exact ⟨by omega,.inr h⟩
       have a6j:=HC7.2.1.upd gX (λk hk hc=>by have:=(Le.2.1 k hk).2;have:=(hgn k hc).1;omega) (λk hk hc=>by have:=(Le.2.2 k hk).2;have:=(hgn k hc).1;omega)
        (λk hk hc=>by have h1:=HFW.out k hk;have h2:=Zo.out;rcases (hgn k hc).2 with h | h<;>omega) (λhc=>by have h1:=HPW.out;have h2:=Zo.out;rcases (hgn p hc).2 with h | h<;>omega)
       have hc8:∃N',N'<=j+1/\DR w8 b F Y (sw Y (T.take (j+1))) N':=HC7.1.elim λN' h=>⟨N',h.1,h.2.upd gX (λy hy hc=>by have:=Le.1 y hy;have:=(hgn y hc).1;omega)⟩
       have H8:=Au hJ8 a6j hc8 (Bh HC7.2.2 gX.size);clear hJ8 gX hG8 hgn a6j hc8;gi_wp2
       go_wp2_with fail
       obtain ⟨hJ9,a0z,⟨N9,hN9,hc9⟩,hz9⟩:=H8.out;go_roundg (N0 - (j+1))
       case measure=>have:=HX.1;have:=HX.2.2.1;omega
       case rel=>exact ⟨j+1,N9,Ad HX.1 HX.2.2.1,hN9,by go_num,hJ9,hc9,a0z,hz9⟩
    ·have htk:(Fe Y T).take j=Fe Y T:=List.take_of_length_le (by rw [Wu,HP.2.2];omega);rw [htk] at hJk;have HEN:=AX (show ∃xs,Full l xs/\J xs wr from ⟨_,⟨T,by rw [mY.2.1];exact Z4.1,Z4.2,by rw [mY.1]⟩,hJk⟩);have b1:¬(j:Int)<(N0:Int):=by omega
     clear htk hJk hcv hst hsz hk hNk hlt;go_wp2_with fail
     go_end0
     exact ⟨⟨_,rfl⟩,HEN.out⟩
attribute [local go_sem] Oper.semAt_some
def SH (l:List Bx) (w:World) (e:Ending) (w':World):Prop:=
 e=.returned (.tuple #[Fp (IL l).toNat,.int .i64 (a0w l:Int)])/\Bj [] w w'
theorem a3g {l:List Bx} (hb:∀b∈l,b.CS) (hl:l.length<100000):NC (JL l).toNat:=by
 have h1:=XP hb hl;unfold NC;omega
theorem Rw (l:List Bx):0<=JL l:=MJ l _ _ _ _
theorem U0 (l:List Bx):(IL l).toNat=(JL l).toNat+(JL (l.map Ii)).toNat:=by
 have h1:=Rw l;have h2:=Rw (l.map Ii);unfold IL;omega
theorem a3h {F:List Nat} {w w':World} {a1 a2 a3 a4:Addr} {v1 v2 v3 v4:Value} (h:w.cell? a1=some v1/\w.cell? a2=some v2/\w.cell? a3=some v3/\w.cell? a4=some v4) (hu:Bj F w w') (h1:a1.block∉F) (h2:a2.block∉F) (h3:a3.block∉F) (h4:a4.block∉F) :
 w'.cell? a1=some v1/\w'.cell? a2=some v2/\w'.cell? a3=some v3/\w'.cell? a4=some v4:=by
 have e:∀{a:Addr} {v:Value},a.block∉F->w.cell? a=some v->w'.cell? a=some v:=λ{a v} hb ha=>(hu.cell (World.block_lt_of_cell? w _ ha) hb).trans ha
 exact ⟨e h1 h.1,e h2 h.2.1,e h3 h.2.2.1,e h4 h.2.2.2⟩
structure PK (wi:World) (p4 p5:Nat) (a e:Nat) (W:World):Prop where
 sum:Ef W p4 a
 ent:W.heap[p5]? = some (.cells #[(e:Int)] 3 (0,0))
 up:Bj [p4,p5] wi W
theorem PK.below {wi:World} {p4 p5 a e:Nat} {C D:World} (h:PK wi p4 p5 a e C) (h4:p4<wi.heap.size) (h5:p5<wi.heap.size) (hb:Below wi.heap.size C D):PK wi p4 p5 a e D:=
 ⟨(hb.block p4 h4).trans h.sum,(hb.block p5 h5).trans h.ent,⟨hb.os.trans h.up.os,hb.tape.trans h.up.tape,hb.output.trans h.up.output,Bh h.up.size hb.size,λk hk hf=>(hb.block k hk).trans (h.up.block k hk hf)⟩⟩
theorem PK.upd {wi:World} {p4 p5 a e:Nat} {C D:World} (h:PK wi p4 p5 a e C) (hu:Bj [] C D):PK wi p4 p5 a e D:=
 ⟨h.sum.BF hu,(hu.block p5 (lt_of_block h.ent) (by simp)).trans h.ent,h.up.trans (hu.mono (by simp))⟩
theorem a3i (v:Value) (l:List Bx) (w:World) (hs:See LP w v l) (hl:l.length<100000) (hb:∀b∈l,b.CS) :
 Calls Tryz.prog 54 #[v] w (SH l w):=by
 obtain ⟨A,C,rfl⟩:=hs.form;unfold SH;refine (callsIn_wide (n:=9)).1 ?_
 refine callsIn_of_wp_marks Tryz.func54 rfl trivial ?_ rfl
 simp only [Tryz.ntmps54,List.size_toArray,List.length_cons,List.length_nil,Nat.reduceAdd,Nat.reduceSub,Array.replicate_succ,Array.replicate_zero,List.push_toArray,List.append_toArray,List.nil_append,List.cons_append];refine wpIn_wide.2 ?_
 have hr:=λw1 (hu:Bj [] w w1)=>wJ (.slice A l.length C) l w1 (hs.BF hu) (by omega)
 have hup:=λw1 (hu:Bj [] w w1)=>upF (.slice A l.length C) l w1 (hs.BF hu) (by omega)
 have HR:=AX hr;have Rz:=AX hup;have HL:=AX hl;have HB:=AX hb;have w3e:∃w3:World,w3=((w.alloc (.cells #[.int .u64 0,.int .u64 0] 52)).alloc (.cells #[.int .u64 0,.int .u64 0] 52)).alloc (.cells #[.int .i64 0] 3):=⟨_,rfl⟩;obtain ⟨w3,hw3⟩:=w3e;obtain ⟨p2,hp2⟩:=AU w.heap.size;have hu3:Bj [] w w3:=by rw [hw3];exact (((Bj.refl _ _).alloc _).alloc _).alloc _
 have hz3:w3.heap.size=p2+3:=by rw [hw3,<-hp2];simp
 have h2:w3.heap[p2]? = some (.cells #[.int .u64 0,.int .u64 0] 52 (0,0)):=by
  rw [hw3,<-hp2];exact (Below.heap_alloc _ _ _ (by simp;omega)).trans ((Below.heap_alloc _ _ _ (by simp)).trans (heap_alloc_new _ _))
 have h4:w3.heap[p2+1]? = some (.cells #[.int .u64 0,.int .u64 0] 52 (0,0)):=by
  have:=heap_alloc_new (w.alloc (.cells #[.int .u64 0,.int .u64 0] 52)) (.cells #[.int .u64 0,.int .u64 0] 52);rw [World.size_alloc,hp2] at this;rw [hw3];exact (Below.heap_alloc _ _ _ (by simp;omega)).trans this
 have h5:w3.heap[p2+1+1]? = some (.cells #[.int .i64 0] 3 (0,0)):=by
  have:=heap_alloc_new ((w.alloc (.cells #[.int .u64 0,.int .u64 0] 52)).alloc (.cells #[.int .u64 0,.int .u64 0] 52)) (.cells #[.int .i64 0] 3);rw [World.size_alloc,World.size_alloc,hp2] at this;rw [hw3];exact this
 have H3:=Aw hu3 hz3 h2 h4 h5;have HP2:=AX hp2;clear hs hl hb hr hup hu3 hz3 h2 h4 h5;go_upto_region 3 with fail
 rw [<-hw3];clear hw3;go_wp2_with fail
 go_fit (HR.out w3 H3.1)
 rintro e w4 ⟨A1,C1,rfl,r1,u1⟩;have H4:=Aq r1 u1 (H3.1.trans u1);clear r1 u1;go_wp2_with fail
 go_fit (Rz.out w4 H4.2.2)
 rintro e w5 ⟨A2,C2,rfl,r2,u2⟩;have hfl:=DV l;obtain ⟨n,hn⟩:=AU ((CB l).length);have hml:((CB l).map Ii).length=n:=by rw [List.length_map];exact hn
 have H5:=Aq r2 u2 (H4.2.2.trans u2);rw [hn] at H4 H5 hfl |-;have HN:=Aq hn hml hfl;have hnl:(n:Int)<100000:=Ac HL;clear r2 u2 hn hml hfl;have hA:∃w6:World,w6=w5.alloc (.cells #[.slice A1 n C1,.slice A2 n C2] 149):=⟨_,rfl⟩;obtain ⟨w6,hw6⟩:=hA;obtain ⟨q,hq⟩:=AU w5.heap.size;have h6:w6.heap[q]? = some (.cells #[.slice A1 n C1,.slice A2 n C2] 149 (0,0)):=by rw [hw6,<-hq];exact heap_alloc_new _ _
 have Jb:Bj [] w5 w6:=by rw [hw6];exact (Bj.refl _ _).alloc _
 have H6:=Aq h6 Jb (H5.2.2.trans Jb);have HQ:=AX hq;have HW6:=AX hw6;clear h6 Jb hw6;go_wp2_with fail
 rw [<-HW6.out];refine (wpIn_wide (n:=9)).1 ?_
 refine wpIn_loop_rounds 3 ?_
 rw [roundsIn_succ];refine wpIn_wide.2 ?_
 have c0:w6.cell? q=some (.slice A1 n C1):=by have:=H6.1;simp [World.cell?,this]
 go_wp2_with fail
 go_fit (iZ A1 n C1 w6)
 rintro e w7 ⟨rfl,hw7⟩;clear c0;obtain ⟨p6,Zx⟩:=AU w6.heap.size;rw [Zx];have hc7:w7.cell? p6=some (.slice A1 n C1):=by rw [hw7,World.cell?_alloc_at _ _ _ _ Zx.symm];rfl
 have QN:Bj [] w6 w7:=by rw [hw7];exact (Bj.refl _ _).alloc _
 have hz7:p2+3<=p6/\p6<w7.heap.size/\q<w7.heap.size:=by
  have h1:=H4.2.1.size;have h2:=H5.2.1.size;have h3:=H6.2.1.size;have h4:=H3.2.1;have h5:=lt_of_block H6.1;have h6:=QN.size;have h7:=World.block_lt_of_cell? w7 _ hc7;exact ⟨by omega,h7,by omega⟩
 have hr7:MO.row w7 (p2+3) (.slice A1 (CB l).length C1) (CB l):=by
  rw [HN.1];exact own_base (Bl H4.1 (H5.2.1.trans (H6.2.1.trans QN)) (by simp)) (by rw [H3.2.1];exact Nat.le_refl _)
 have hq7:XR Tryz.prog 167 #[.pointer (some p6)] encS (Full (CB l)) (Legal (CB l)) (p2+3) w7:=
  wP A1 C1 (CB l) w7 p6 (p2+3) (by rw [HN.1];exact hc7) hz7.1 hr7 (by rw [HN.1];have:=HN.2.2;have:=HL.out;omega) (FN HB.out) (ML l)
 have hI7:PK w7 (p2+1) (p2+1+1) 0 0 w7:=by
  have a6k:Bj [] w3 w7:=H4.2.1.trans (H5.2.1.trans (H6.2.1.trans QN));exact ⟨(show Ef w3 (p2+1) 0 from H3.2.2.2.1).BF a6k,(a6k.block _ (lt_of_block H3.2.2.2.2) (by simp)).trans H3.2.2.2.2,Bj.refl _ _⟩
 have H7:=Au QN hz7 hq7 hI7;clear hw7 Zx hc7 QN hz7 hr7 hq7 hI7;go_wp2_with fail
 refine (wpIn_wide (n:=7+2)).1 ?_
 refine KW (n:=7) (gf:=167) (lb:=#[.pointer (some p6)]) rfl (enters_of Tryz.func167 (by kernel_rfl) rfl) (B:=p2+3) (Ac H7.2.1) H7.2.2.1 (λ_=>rfl)
  (λpre W=>PK w7 (p2+1) (p2+1+1) (0+Lj pre) (0+Ll pre) W) (λs C D h hb=>h.below (Ac H7.2.1) (Ac H7.2.1) hb) H7.2.2.2 ?round ?done
 case round=>
  rintro rid pre ⟨R,LG,E⟩ W hI wS hsz;have HI:=Aq hI wS hsz;clear hI wS hsz hnl;simp only [encS];gi_wp2
  refine ⟨Beyond.of ((Bj.refl _ _).alloc _),?_⟩
  rintro W2 ⟨o,hW2⟩;have hsz:=HI.2.2
  have hst:W2.heap[W.heap.size]? = some (.cells #[(R:Int),.int .u64 (LG:Int),(E:Int)] 156 (0,0)):=by
   rw [hW2];exact (World.putObj_heap_other (by omega)).trans (heap_alloc_new _ _)
  have hi2:PK w7 (p2+1) (p2+1+1) (0+Lj pre) (0+Ll pre) W2:=by
   rw [hW2];exact (HI.1.upd ((Bj.refl _ _).alloc _)).below (Ac H7.2.1) (Ac H7.2.1) (Nr _ _ (by omega))
  have hsb:p2+3<=W.heap.size:=Ac H7.2.1;obtain ⟨s,hs⟩:=AU W.heap.size;rw [hs] at hst hsb;rw [hs];clear hW2;have hmem:=(HI.2.1.mem (FN HB.out) (by have:=DV l;have:=HL.out;omega)) (R,LG,E) (by simp);have htot:=HI.2.1.tot (FN HB.out) (by have:=DV l;have:=HL.out;omega);rw [Np,Nq] at htot;dsimp only at hmem htot;have htl:=show CG (Fq (BX (CB l))) (BL (CB l))<=100000000 from by have h1:=JK (Fq (BX (CB l))) (Hz (FN HB.out) (by have:=DV l;have:=HL.out;omega)).len (BL (CB l));have h2:=EG (CB l);have h3:=DV l;have h4:=HL.out;omega
  obtain ⟨a,ha⟩:=AU (0+Lj pre);obtain ⟨en,he⟩:=AU (0+Ll pre);rw [ha,he] at hi2;have hml:=λw=>iR LG (2*R) hmem.2.1 (by omega) w
  obtain ⟨M,hM⟩:=AU (LG*(2*R));rw [hM] at hml htot;have hwm:NC (a+M):=(show NC ((JL (CB l)).toNat) from ((a3g (FN HB.out) (by have:=DV l;have:=HL.out;omega)))).mono (by rw [<-ha,Nat.zero_add];exact htot.1);have had:=λw=>iU a M hwm w
  obtain ⟨h,hh⟩:=AU (a / 18446744073709551616);obtain ⟨lo,hlo⟩:=AU (a % 18446744073709551616);obtain ⟨h2,hh2⟩:∃h,(a+M) / 18446744073709551616=h:=⟨_,rfl⟩;obtain ⟨lo2,hlo2⟩:∃lo,(a+M) % 18446744073709551616=lo:=⟨_,rfl⟩;obtain ⟨mh,wL⟩:∃h,M / 18446744073709551616=h:=⟨_,rfl⟩;obtain ⟨ml,UW⟩:∃lo,M % 18446744073709551616=lo:=⟨_,rfl⟩;unfold Fp at had hml;simp only [hh,hlo,hh2,hlo2,wL,UW] at had hml;have hnew:0+Lj (pre++[(R,LG,E)])=a+M/\0+Ll (pre++[(R,LG,E)])=en+E:=by rw [Np,Nq];dsimp only;omega
  have jZ:(en:Int)+(E:Int)<100000000000:=by omega
  have hRb:(R:Int)<=200000:=by omega
  obtain ⟨R2,hR2⟩:=AU (2*R);rw [hR2] at hml;have HS:=Au hi2 hst hsb hnew;have dO:=AX hml;have Xy:=AX had;have HV:=Au hh hlo hh2 hlo2;have HBD:=Aq jZ hRb hR2;have HAE:=Ap ha he;clear hwm hsz hst hi2 hsb hs hmem htot htl hml had hh hlo hh2 hlo2 wL UW hnew jZ hRb ha he hM hR2;refine wpIn_block ?_
  refine wpIn_seq ?_
  obtain ⟨Wd,hWd⟩:∃Wd,Wd=W2.drew:=⟨_,rfl⟩;have hud:Bj [] W2 Wd:=by rw [hWd];exact (Bj.refl _ _).drew
  have dU:=Ap (HS.1.upd hud) ((hud.block s (lt_of_block HS.2.1) (by simp)).trans HS.2.1);have yE:=AX hud
  have wR:Wd.cell? ⟨p2+1,0,none⟩=some (.int .u64 (h:Int))/\Wd.cell? ⟨p2+1,1,none⟩=some (.int .u64 (lo:Int))/\Wd.cell? s=some (.int .i64 (R:Int))/\Wd.cell? ⟨s,1,none⟩=some (.int .u64 (LG:Int)):=by
   obtain ⟨z0,z1,-⟩:=dU.1.sum.cells;rw [HV.1] at z0;rw [HV.2.1] at z1;exact ⟨z0,z1,by simp [World.cell?,dU.2],by simp [World.cell?,dU.2]⟩
  have wR:=AX wR;clear hud;have hcv:IntKind.u64.wrap (R:Int)=(R:Int):=by have:=HBD.2.1;rw [Hy];omega
  have hm2:IntKind.u64.wrap (2*(R:Int))=(R2:Int):=by have:=HBD.2.1;have:=HBD.2.2;rw [Hy];omega
  refine Bo.iY [8,9,10,11,12] (λw'=>w'.cell? ⟨p2+1,0,none⟩=some (.int .u64 (h:Int))/\w'.cell? ⟨p2+1,1,none⟩=some (.int .u64 (lo:Int))/\w'.cell? s=some (.int .i64 (R:Int))/\w'.cell? ⟨s,1,none⟩=some (.int .u64 (LG:Int))) (by kernel_rfl) (by kernel_rfl) ?hq ?_ λhS=>?_
  case hq=>rintro ⟨_,_,h⟩;exact h
  ·exact by rw [<-hWd];exact wR.out
  rw [<-hWd] at hS |-;clear hWd;refine' Bo.ty 6 0 23 ?_
  refine' Bo.mx 1 24 ?_
  refine' Bo.ty 6 2 25 ?_
  refine' Bo.mx 3 26 ?_
  refine' Bo.ty 6 4 27 ?_
  refine' Bo.mx 5 28 ?_
  refine' Bo.mx 6 29 ?_
  refine Bo.one (i:=7) (o:=⟨some 30,_,_,_,_,_⟩) rfl (by kernel_rfl) λK hK=>?_
  go_simp
  go_at_call 96
  go_fit (dO.out _)
  rintro e w5 ⟨rfl,EZ⟩;refine hK.out _ _ (λ_ h=>?_) ?_
  ·exact Jg h EZ
  clear hK K;try simp only [Act.put,sA,sZ,sS]
  have Nv:=AX EZ;clear EZ;refine Bo.one (i:=8) (o:=⟨some 31,_,_,_,_,_⟩) rfl (by kernel_rfl) λK hK=>?_
  go_simp
  go_at_call 44
  go_fit (Xy.out _)
  rintro e w6 ⟨rfl,Jb⟩;refine hK.out _ _ (λh=>(by cases h)) ?_
  clear hK K;try simp only [Act.put,sA,sZ,sS]
  have Ik:=AX (Nv.out.trans Jb);have hsm:=dU.1.sum.BF Ik.out;obtain ⟨z0,z1,zf⟩:=hsm.cells;have zf0:=zf 0;have zf1:=zf 1;have tX:=AX hsm;clear Jb zf hsm;refine' Bo.mx 9 22 ?_
  refine' Bo.mx 10 32 ?_
  refine' Bo.mx 11 33 ?_
  refine Bo.one (i:=12) (o:=⟨none,_,_,_,_,_⟩) rfl (by kernel_rfl) λK hK=>?_
  go_simp
  refine hK.out _ _ (λh=>(by cases h)) ?_
  clear hK K;try simp only [Act.put,sA,sZ,sS]
  refine Bo.done (by kernel_rfl) ?_
  clear hcv hm2;have XU:=AX (tX.out.set HV.2.2.1.symm HV.2.2.2.symm);have hpu:Bj [p2+1] w6 ((w6.setCell ⟨p2+1,0,none⟩ (.int .u64 h2)).setCell ⟨p2+1,1,none⟩ (.int .u64 lo2)):=((Bj.refl _ _).setCell (.inl (by simp)) _).setCell (.inl (by simp)) _;have hi6:=dU.1.upd Ik.out;have Vj:=(Ik.out.block s (lt_of_block dU.2) (by simp)).trans dU.2;have Zp:=(hpu.block s (lt_of_block Vj) (by have:=HS.2.2.1;simp;omega)).trans Vj;have wU:=(hpu.block (p2+1+1) (lt_of_block hi6.ent) (by simp)).trans hi6.ent;have Oz:=Au (hi6.up.trans (hpu.mono (by simp))) Zp wU ((yE.out.trans Ik.out).mono (G:=[p2+1]) (by simp) |>.trans hpu);clear z0 z1 zf0 zf1 hpu hi6 Vj Zp wU;generalize ((w6.setCell ⟨p2+1,0,none⟩ (.int .u64 h2)).setCell ⟨p2+1,1,none⟩ (.int .u64 lo2))=W9 at XU Oz |-;have x5:W9.cell? ⟨p2+1+1,0,none⟩=some (.int .i64 (en:Int)):=by simp [World.cell?,Oz.2.2.1]
  have f5:W9.frozen? ⟨p2+1+1,0,none⟩=false:=by simp [World.frozen?,Oz.2.2.1]
  have xs:W9.cell? ⟨s,2,none⟩=some (.int .i64 (E:Int)):=by simp [World.cell?,Oz.2.1]
  have hwE:IntKind.i64.wrap ((en:Int)+(E:Int))=((en+E:Nat):Int):=by have:=HBD.1;rw [IntWalk.i64_in _ ⟨by omega,by omega⟩];omega
  gi_wp2
  have hus:Bj [p2+1+1] W9 (W9.setCell ⟨p2+1+1,0,none⟩ (.int .i64 ((en+E:Nat):Int))):=(Bj.refl _ _).setCell (.inl (by simp)) _;show Beyond (p2+3) W2 _/\PK w7 (p2+1) (p2+1+1) (0+Lj (pre++[(R,LG,E)])) (0+Ll (pre++[(R,LG,E)])) _
  rw [HS.2.2.2.1,HS.2.2.2.2];exact ⟨(Beyond.refl _ _).upd Oz.2.2.2 (by simp) |>.upd hus (by simp),⟨XU.out.upd hus (by simp),by have:=heap_set Oz.2.2.1 0 (.int .i64 ((en+E:Nat):Int));exact this,Oz.1.trans (hus.mono (by simp))⟩⟩
 case done=>
  rintro D1 xs1 W hD1 hS1 hI1 hK1;rw [Qy (FN HB.out) (by have:=DV l;have:=HL.out;omega) hS1,Qz hS1,iW l,IQ (Qw l),Nat.zero_add,Nat.zero_add] at hI1;obtain ⟨a1,ha1⟩:∃a,(JL l).toNat=a:=⟨_,rfl⟩;obtain ⟨e1,he1⟩:∃e,CG (Fq (BX l)) (BL l)=e:=⟨_,rfl⟩;rw [ha1,he1] at hI1
  have c1:W.cell? ⟨q,1,none⟩=some (.slice A2 n C2):=by
   have h1:=(H7.1.block q (lt_of_block H6.1) (by simp)).trans H6.1;have h2:=(hI1.up.block q H7.2.1.2.2 (by have h1:=H3.2.1;have h2:=H4.2.1.size;have h3:=H5.2.1.size;have h4:=HQ.out;simp;omega)).trans h1;simp [World.cell?,h2]
  have HA1:=Ap ha1 he1;have HI1:=Aq hI1 hK1 hD1;clear hD1 hS1 hI1 hK1 ha1 he1;go_wp2_with fail
  rw [roundsIn_succ];refine wpIn_wide.2 ?_
  go_wp2_with fail
  go_fit (iZ A2 n C2 W)
  rintro e w9 ⟨rfl,hw9⟩;clear c1;obtain ⟨p9,oH⟩:=AU W.heap.size;rw [oH];have hc9:w9.cell? p9=some (.slice A2 n C2):=by rw [hw9,World.cell?_alloc_at _ _ _ _ oH.symm];rfl
  have X6:Bj [] W w9:=by rw [hw9];exact (Bj.refl _ _).alloc _
  have hz9:p2+3<=p9/\p9<w9.heap.size/\w7.heap.size<=p9:=by
   have h1:=HI1.1.up.size;have h2:=H7.2.1;exact ⟨by omega,World.block_lt_of_cell? w9 _ hc9,by omega⟩
  have hr9:MO.row w9 (p2+3) (.slice A2 (CB (l.map Ii)).length C2) (CB (l.map Ii)):=by
   rw [<-Zm,HN.2.1];have h1:=Bl H5.1 (H6.2.1.trans H7.1) (by simp);have hge:=BH H5.1;have h2:=Bl h1 HI1.1.up (λk hk hc=>by have:=hge k hk;have h3:=H3.2.1;have h4:=H4.2.1.size;simp at hc;omega);exact own_base (Bl h2 X6 (by simp)) (by have h3:=H3.2.1;have h4:=H4.2.1.size;omega)
  have hn2:(CB (l.map Ii)).length=n:=by rw [<-Zm];exact HN.2.1
  have hq9:XR Tryz.prog 167 #[.pointer (some p9)] encS (Full (CB (l.map Ii))) (Legal (CB (l.map Ii))) (p2+3) w9:=
   wP A2 C2 (CB (l.map Ii)) w9 p9 (p2+3) (by rw [hn2];exact hc9) hz9.1 hr9 (by rw [hn2];have:=HN.2.2;have:=HL.out;omega) (FN (Qv HB.out)) (ML _)
  have hI9:PK w9 (p2+1) (p2+1+1) (a1+Lj []) (e1+Ll []) w9:=⟨HI1.1.sum.BF X6,(X6.block _ (lt_of_block HI1.1.ent) (by simp)).trans HI1.1.ent,Bj.refl _ _⟩;have H9:=Au X6 (show p2+3<=p9/\p9<w9.heap.size/\w7.heap.size<=p9 from hz9) hq9 hI9;clear hw9 oH hc9 X6 hz9 hr9 hq9 hI9 hn2;go_wp2_with fail
  refine (wpIn_wide (n:=7+2)).1 ?_
  refine KW (n:=7) (gf:=167) (lb:=#[.pointer (some p9)]) rfl (enters_of Tryz.func167 (by kernel_rfl) rfl) (B:=p2+3) (Ac H9.2.1) H9.2.2.1 (λ_=>rfl)
   (λpre W=>PK w9 (p2+1) (p2+1+1) (a1+Lj pre) (e1+Ll pre) W) (λs C D h hb=>h.below (Ac H9.2.1) (Ac H9.2.1) hb) H9.2.2.2 ?round ?done
  case round=>
   rintro rid pre ⟨R,LG,E⟩ W hI wS hsz;have HI:=Aq hI wS hsz;clear hI wS hsz hnl;simp only [encS];gi_wp2
   refine ⟨Beyond.of ((Bj.refl _ _).alloc _),?_⟩
   rintro W2 ⟨o,hW2⟩;have hsz:=HI.2.2
   have hst:W2.heap[W.heap.size]? = some (.cells #[(R:Int),.int .u64 (LG:Int),(E:Int)] 156 (0,0)):=by
    rw [hW2];exact (World.putObj_heap_other (by omega)).trans (heap_alloc_new _ _)
   have hi2:PK w9 (p2+1) (p2+1+1) (a1+Lj pre) (e1+Ll pre) W2:=by
    rw [hW2];exact (HI.1.upd ((Bj.refl _ _).alloc _)).below (Ac H9.2.1) (Ac H9.2.1) (Nr _ _ (by omega))
   have hsb:p2+3<=W.heap.size:=Ac H9.2.1;obtain ⟨s,hs⟩:=AU W.heap.size;rw [hs] at hst hsb;rw [hs];clear hW2;have hmem:=(HI.2.1.mem (FN (Qv HB.out)) (by have:=DV (l.map Ii);rw [List.length_map] at this;have:=HL.out;omega)) (R,LG,E) (by simp);have htot:=HI.2.1.tot (FN (Qv HB.out)) (by have:=DV (l.map Ii);rw [List.length_map] at this;have:=HL.out;omega);rw [Np,Nq] at htot;dsimp only at hmem htot;have htl:=show CG (Fq (BX (CB (l.map Ii)))) (BL (CB (l.map Ii)))<=100000000 from by have h1:=JK (Fq (BX (CB (l.map Ii)))) (Hz (FN (Qv HB.out)) (by have:=DV (l.map Ii);rw [List.length_map] at this;have:=HL.out;omega)).len (BL (CB (l.map Ii)));have h2:=EG (CB (l.map Ii));have h3:=DV (l.map Ii);rw [List.length_map] at h3;have h4:=HL.out;omega
   obtain ⟨a,ha⟩:=AU (a1+Lj pre);obtain ⟨en,he⟩:=AU (e1+Ll pre);rw [ha,he] at hi2;have hml:=λw=>iR LG (2*R) hmem.2.1 (by omega) w
   obtain ⟨M,hM⟩:=AU (LG*(2*R));rw [hM] at hml htot;have hwm:NC (a+M):=(show NC (IL l).toNat from a2Y HB.out HL.out).mono (by rw [<-ha,<-HA1.1,U0];have h1:=htot.1;rw [IQ (Qw (l.map Ii))] at h1;rw [Nat.add_assoc];exact Nat.add_le_add_left h1 _);have had:=λw=>iU a M hwm w
   obtain ⟨h,hh⟩:=AU (a / 18446744073709551616);obtain ⟨lo,hlo⟩:=AU (a % 18446744073709551616);obtain ⟨h2,hh2⟩:∃h,(a+M) / 18446744073709551616=h:=⟨_,rfl⟩;obtain ⟨lo2,hlo2⟩:∃lo,(a+M) % 18446744073709551616=lo:=⟨_,rfl⟩;obtain ⟨mh,wL⟩:∃h,M / 18446744073709551616=h:=⟨_,rfl⟩;obtain ⟨ml,UW⟩:∃lo,M % 18446744073709551616=lo:=⟨_,rfl⟩;unfold Fp at had hml;simp only [hh,hlo,hh2,hlo2,wL,UW] at had hml;have hnew:a1+Lj (pre++[(R,LG,E)])=a+M/\e1+Ll (pre++[(R,LG,E)])=en+E:=by rw [Np,Nq];dsimp only;omega
   have he1:e1<=100000000:=by rw [<-HA1.2];have h1:=JK (Fq (BX l)) (Hz HB.out HL.out).len (BL l);have h2:=EG l;have h4:=HL.out;omega
   have jZ:(en:Int)+(E:Int)<100000000000:=by omega
   have hRb:(R:Int)<=200000:=by omega
   obtain ⟨R2,hR2⟩:=AU (2*R);rw [hR2] at hml;have HS:=Au hi2 hst hsb hnew;have dO:=AX hml;have Xy:=AX had;have HV:=Au hh hlo hh2 hlo2;have HBD:=Aq jZ hRb hR2;have HAE:=Ap ha he;clear he1 hwm hsz hst hi2 hsb hs hmem htot htl hml had hh hlo hh2 hlo2 wL UW hnew jZ hRb ha he hM hR2;refine wpIn_block ?_
   refine wpIn_seq ?_
   obtain ⟨Wd,hWd⟩:∃Wd,Wd=W2.drew:=⟨_,rfl⟩;have hud:Bj [] W2 Wd:=by rw [hWd];exact (Bj.refl _ _).drew
   have dU:=Ap (HS.1.upd hud) ((hud.block s (lt_of_block HS.2.1) (by simp)).trans HS.2.1);have yE:=AX hud
   have wR:Wd.cell? ⟨p2+1,0,none⟩=some (.int .u64 (h:Int))/\Wd.cell? ⟨p2+1,1,none⟩=some (.int .u64 (lo:Int))/\Wd.cell? s=some (.int .i64 (R:Int))/\Wd.cell? ⟨s,1,none⟩=some (.int .u64 (LG:Int)):=by
    obtain ⟨z0,z1,-⟩:=dU.1.sum.cells;rw [HV.1] at z0;rw [HV.2.1] at z1;exact ⟨z0,z1,by simp [World.cell?,dU.2],by simp [World.cell?,dU.2]⟩
   have wR:=AX wR;clear hud;have hcv:IntKind.u64.wrap (R:Int)=(R:Int):=by have:=HBD.2.1;rw [Hy];omega
   have hm2:IntKind.u64.wrap (2*(R:Int))=(R2:Int):=by have:=HBD.2.1;have:=HBD.2.2;rw [Hy];omega
   refine Bo.iY [8,9,10,11,12] (λw'=>w'.cell? ⟨p2+1,0,none⟩=some (.int .u64 (h:Int))/\w'.cell? ⟨p2+1,1,none⟩=some (.int .u64 (lo:Int))/\w'.cell? s=some (.int .i64 (R:Int))/\w'.cell? ⟨s,1,none⟩=some (.int .u64 (LG:Int))) (by kernel_rfl) (by kernel_rfl) ?hq ?_ λhS=>?_
   case hq=>rintro ⟨_,_,h⟩;exact h
   ·exact by rw [<-hWd];exact wR.out
   rw [<-hWd] at hS |-;clear hWd;refine' Bo.ty 6 0 23 ?_
   refine' Bo.mx 1 24 ?_
   refine' Bo.ty 6 2 25 ?_
   refine' Bo.mx 3 26 ?_
   refine' Bo.ty 6 4 27 ?_
   refine' Bo.mx 5 28 ?_
   refine' Bo.mx 6 29 ?_
   refine Bo.one (i:=7) (o:=⟨some 30,_,_,_,_,_⟩) rfl (by kernel_rfl) λK hK=>?_
   go_simp
   go_at_call 96
   go_fit (dO.out _)
   rintro e w5 ⟨rfl,EZ⟩;refine hK.out _ _ (λ_ h=>?_) ?_
   ·exact Jg h EZ
   clear hK K;try simp only [Act.put,sA,sZ,sS]
   have Nv:=AX EZ;clear EZ;refine Bo.one (i:=8) (o:=⟨some 31,_,_,_,_,_⟩) rfl (by kernel_rfl) λK hK=>?_
   go_simp
   go_at_call 44
   go_fit (Xy.out _)
   rintro e w6 ⟨rfl,Jb⟩;refine hK.out _ _ (λh=>(by cases h)) ?_
   clear hK K;try simp only [Act.put,sA,sZ,sS]
   have Ik:=AX (Nv.out.trans Jb);have hsm:=dU.1.sum.BF Ik.out;obtain ⟨z0,z1,zf⟩:=hsm.cells;have zf0:=zf 0;have zf1:=zf 1;have tX:=AX hsm;clear Jb zf hsm;refine' Bo.mx 9 22 ?_
   refine' Bo.mx 10 32 ?_
   refine' Bo.mx 11 33 ?_
   refine Bo.one (i:=12) (o:=⟨none,_,_,_,_,_⟩) rfl (by kernel_rfl) λK hK=>?_
   go_simp
   refine hK.out _ _ (λh=>(by cases h)) ?_
   clear hK K;try simp only [Act.put,sA,sZ,sS]
   refine Bo.done (by kernel_rfl) ?_
   clear hcv hm2;have XU:=AX (tX.out.set HV.2.2.1.symm HV.2.2.2.symm);have hpu:Bj [p2+1] w6 ((w6.setCell ⟨p2+1,0,none⟩ (.int .u64 h2)).setCell ⟨p2+1,1,none⟩ (.int .u64 lo2)):=((Bj.refl _ _).setCell (.inl (by simp)) _).setCell (.inl (by simp)) _;have hi6:=dU.1.upd Ik.out;have Vj:=(Ik.out.block s (lt_of_block dU.2) (by simp)).trans dU.2;have Zp:=(hpu.block s (lt_of_block Vj) (by have:=HS.2.2.1;simp;omega)).trans Vj;have wU:=(hpu.block (p2+1+1) (lt_of_block hi6.ent) (by simp)).trans hi6.ent;have Oz:=Au (hi6.up.trans (hpu.mono (by simp))) Zp wU ((yE.out.trans Ik.out).mono (G:=[p2+1]) (by simp) |>.trans hpu);clear z0 z1 zf0 zf1 hpu hi6 Vj Zp wU;generalize ((w6.setCell ⟨p2+1,0,none⟩ (.int .u64 h2)).setCell ⟨p2+1,1,none⟩ (.int .u64 lo2))=W9 at XU Oz |-;have x5:W9.cell? ⟨p2+1+1,0,none⟩=some (.int .i64 (en:Int)):=by simp [World.cell?,Oz.2.2.1]
   have f5:W9.frozen? ⟨p2+1+1,0,none⟩=false:=by simp [World.frozen?,Oz.2.2.1]
   have xs:W9.cell? ⟨s,2,none⟩=some (.int .i64 (E:Int)):=by simp [World.cell?,Oz.2.1]
   have hwE:IntKind.i64.wrap ((en:Int)+(E:Int))=((en+E:Nat):Int):=by have:=HBD.1;rw [IntWalk.i64_in _ ⟨by omega,by omega⟩];omega
   gi_wp2
   have hus:Bj [p2+1+1] W9 (W9.setCell ⟨p2+1+1,0,none⟩ (.int .i64 ((en+E:Nat):Int))):=(Bj.refl _ _).setCell (.inl (by simp)) _;show Beyond (p2+3) W2 _/\PK w9 (p2+1) (p2+1+1) (a1+Lj (pre++[(R,LG,E)])) (e1+Ll (pre++[(R,LG,E)])) _
   rw [HS.2.2.2.1,HS.2.2.2.2];exact ⟨(Beyond.refl _ _).upd Oz.2.2.2 (by simp) |>.upd hus (by simp),⟨XU.out.upd hus (by simp),by have:=heap_set Oz.2.2.1 0 (.int .i64 ((en+E:Nat):Int));exact this,Oz.1.trans (hus.mono (by simp))⟩⟩
  case done=>
   rintro D2 xs2 W2 hD2 hS2 hI2 hK2;rw [Qy (FN (Qv HB.out)) (by have:=DV (l.map Ii);rw [List.length_map] at this;have:=HL.out;omega) hS2,Qz hS2,iW (l.map Ii),IQ (Qw (l.map Ii))] at hI2;have hsum:a1+(JL (l.map Ii)).toNat=(IL l).toNat:=by rw [<-HA1.1,U0]
   have hent:e1+CG (Fq (BX (l.map Ii))) (BL (l.map Ii))=a0w l:=by rw [<-HA1.2];rfl
   rw [hsum,hent] at hI2;obtain ⟨AA,hAA⟩:∃a,(IL l).toNat=a:=⟨_,rfl⟩;obtain ⟨EE,hEE⟩:∃e,a0w l=e:=⟨_,rfl⟩;rw [hAA,hEE] at hI2;have hb2:∀k,k<W.heap.size->k≠p2+1->k≠p2+1+1->W2.heap[k]? = W.heap[k]?:=λk h1 h2 h3=>(hI2.up.block k (by have:=H9.1.size;omega) (by simp;omega)).trans (H9.1.block k h1 (by simp))
   have hd1:=(hb2 D1 (lt_of_block HI1.2.1) (Ad HI1.2.2 H7.2.1) (Ad HI1.2.2 H7.2.1)).trans HI1.2.1;have hu2:Bj [p2+1,p2+1+1] w3 W2:=((((H4.2.1.trans (H5.2.1.trans (H6.2.1.trans H7.1))).mono (by simp)).trans HI1.1.up).trans (H9.1.mono (by simp))).trans hI2.up;have hp2':=(hu2.block p2 (lt_of_block H3.2.2.1) (by simp;omega)).trans H3.2.2.1;obtain ⟨h,hh⟩:=AU (AA / 18446744073709551616);obtain ⟨lo,hlo⟩:=AU (AA % 18446744073709551616);have hdd:D1≠D2/\p2+3<=D1/\p2+3<=D2:=by have h1:=lt_of_block HI1.2.1;have h2:=HI1.2.2;have h3:=H9.1.size;have h4:=H7.2.1;have h5:=H9.2.1;exact ⟨by omega,by omega,by omega⟩
   have HF:=AL hI2 hK2 hd1 hu2 hp2' hh hlo hdd;have HAE:=Ap hAA hEE;clear hD2 hS2 hI2 hK2 hsum hent hAA hEE hb2 hd1 hu2 hp2' hh hlo hdd;go_wp2_with fail
   rw [roundsIn_succ];refine wpIn_wide.2 ?_
   go_wp2_with fail
   obtain ⟨Wd,hWd⟩:∃Wd,Wd=W2.drew:=⟨_,rfl⟩;have hud:Bj [] W2 Wd:=by rw [hWd];exact (Bj.refl _ _).drew
   have hId:=HF.1.upd hud
   have hSd:Wd.cell? ⟨p2+1,0,none⟩=some (.int .u64 (h:Int))/\Wd.cell? ⟨p2+1,1,none⟩=some (.int .u64 (lo:Int))/\Wd.cell? ⟨p2+1+1,0,none⟩=some (.int .i64 (EE:Int))/\Wd.cell? ⟨p2+1+1,0,none⟩=some (.int .i64 (EE:Int)):=by
    obtain ⟨z0,z1,-⟩:=hId.sum.cells;rw [HF.2.2.2.2.2.1] at z0;rw [HF.2.2.2.2.2.2.1] at z1;exact ⟨z0,z1,by simp [World.cell?,hId.ent],by simp [World.cell?,hId.ent]⟩
   have wR:=AX hSd;have hk2:=(hud.block D2 (lt_of_block HF.2.1) (by simp)).trans HF.2.1;have hk1:=(hud.block D1 (lt_of_block HF.2.2.1) (by simp)).trans HF.2.2.1;have hpp:=(hud.block p2 (lt_of_block HF.2.2.2.2.1) (by simp)).trans HF.2.2.2.2.1;have HD:=Au hk2 hk1 hpp (HF.2.2.2.1.trans (hud.mono (by simp)));clear hud hId hSd hk2 hk1 hpp;refine wp_region_noPanic ?_
   refine Bo.start [3] (λw'=>w'.cell? ⟨p2+1,0,none⟩=some (.int .u64 (h:Int))/\w'.cell? ⟨p2+1,1,none⟩=some (.int .u64 (lo:Int))/\w'.cell? ⟨p2+1+1,0,none⟩=some (.int .i64 (EE:Int))/\w'.cell? ⟨p2+1+1,0,none⟩=some (.int .i64 (EE:Int))) (by kernel_rfl) ?_ λhS=>?_
   ·exact by rw [<-hWd];exact wR.out
   rw [<-hWd] at hS |-;clear hWd;refine' Bo.ty 1 0 39 ?_
   refine' Bo.ty 1 1 40 ?_
   refine Bo.one (i:=2) (o:=⟨none,_,_,_,_,_⟩) rfl (by kernel_rfl) λK hK=>?_
   have z0:Wd.cell? p2=some (.int .u64 0):=by simp [World.cell?,HD.2.2.1]
   have z1:Wd.cell? ⟨p2,1,none⟩=some (.int .u64 0):=by simp [World.cell?,HD.2.2.1]
   have zf0:Wd.frozen? p2=false:=by simp [World.frozen?,HD.2.2.1]
   have zf1:Wd.frozen? ⟨p2,1,none⟩=false:=by simp [World.frozen?,HD.2.2.1]
   go_simp
   refine hK.out _ _ (λ_ h=>?_) ?_
   ·exact a3h h (((Bj.refl [p2] _).setCell (.inl (by simp)) _).setCell (.inl (by simp)) _) (λhc=>by have:=List.mem_singleton.1 hc;dsimp only at this;omega) (λhc=>by have:=List.mem_singleton.1 hc;dsimp only at this;omega) (λhc=>by have:=List.mem_singleton.1 hc;dsimp only at this;omega) (λhc=>by have:=List.mem_singleton.1 hc;dsimp only at this;omega)
   clear hK K;try simp only [Act.put,sA,sZ,sS]
   clear z0 z1 zf0 zf1;refine' Bo.mx 3 3 ?_
   refine Bo.done (by kernel_rfl) ?_
   have hpu:Bj [p2] Wd ((Wd.setCell p2 (.int .u64 (h:Int))).setCell ⟨p2,1,none⟩ (.int .u64 (lo:Int))):=((Bj.refl _ _).setCell (.inl (by simp)) _).setCell (.inl (by simp)) _;have hr:=heap_set (heap_set HD.2.2.1 0 (.int .u64 (h:Int))) 1 (.int .u64 (lo:Int));have hdd:=HF.2.2.2.2.2.2.2;have hk2:=(hpu.block D2 (lt_of_block HD.1) (by simp;omega)).trans HD.1;have hk1:=(hpu.block D1 (lt_of_block HD.2.1) (by simp;omega)).trans HD.2.1;have HZ:=Au hk2 hk1 hr ((HD.2.2.2.mono (G:=[p2,p2+1,p2+1+1]) (λx hx=>.inl (by simp at hx |-;omega))).trans (hpu.mono (by simp)));clear hpu hr hdd hk2 hk1;generalize ((Wd.setCell p2 (.int .u64 (h:Int))).setCell ⟨p2,1,none⟩ (.int .u64 (lo:Int)))=Wf at HZ |-;refine NoPanic.normal ?_
   go_wp2_with fail
   refine ⟨by simp,.inl ⟨_,_,rfl,run_takeDeferred HZ.1,?_⟩⟩
   have hk1:(Wf.putObj D2 (Obj.deferred none)).heap[D1]? = some (.deferred (some [])):=(World.putObj_heap_other HF.2.2.2.2.2.2.2.1).trans HZ.2.1;refine ⟨by simp,.inl ⟨_,_,rfl,run_takeDeferred hk1,?_⟩⟩
   have hdd:=HF.2.2.2.2.2.2.2;have hr2:((Wf.putObj D2 (Obj.deferred none)).putObj D1 (Obj.deferred none)).heap[p2]? = some (.cells #[.int .u64 (h:Int),.int .u64 (lo:Int)] 52 (0,0)):=(World.putObj_heap_other (by omega)).trans ((World.putObj_heap_other (by omega)).trans HZ.2.2.1);have x0:((Wf.putObj D2 (Obj.deferred none)).putObj D1 (Obj.deferred none)).cell? p2=some (.int .u64 (h:Int)):=by simp [World.cell?,hr2]
   have x1:((Wf.putObj D2 (Obj.deferred none)).putObj D1 (Obj.deferred none)).cell? ⟨p2,1,none⟩=some (.int .u64 (lo:Int)):=by simp [World.cell?,hr2]
   refine ⟨.tuple #[.agg #[.int .u64 (h:Int),.int .u64 (lo:Int)],(EE:Int)],?_,?_,?_⟩
   ·simp [results,Tryz.results54,go_sem,x0,x1]
   ·rw [HAE.1,HAE.2];unfold Fp;rw [HF.2.2.2.2.2.1,HF.2.2.2.2.2.2.1]
   ·have h1:=HZ.2.2.2;have h2:Bj [p2,p2+1,p2+1+1,D2,D1] w3 ((Wf.putObj D2 (Obj.deferred none)).putObj D1 (Obj.deferred none)):=((h1.mono (by simp)).trans ((UR Wf (l:=D2) (Obj.deferred none)).mono (by simp))).trans ((UR _ (l:=D1) (Obj.deferred none)).mono (by simp));exact H3.1.trans' h2 (λk hk=>.inr (by rw [HP2.out];simp at hk;omega))
