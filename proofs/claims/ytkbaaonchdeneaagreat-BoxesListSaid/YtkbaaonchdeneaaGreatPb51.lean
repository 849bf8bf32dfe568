/- rim.steps: a sweep's steps, one by one. rim.Rim: the two sweeps' sum. -/
import Derived.Test.YtkbaaonchdeneaaGreatPbBoxesCoverP4
import Derived.Test.YtkbaaonchdeneaaGreatPb50
set_option maxHeartbeats 8000000
set_option maxRecDepth 100000
namespace Go.Proofs.YtkbaaonchdeneaaGreat
open Go.RowKit
theorem Zg:∀(l:List Bx),(∀b∈l,b.counts=true)→(BF l).length=2*l.length∧∀i,i<(BF l).length→∃b,l[i / 2]? = some b∧(BF l)[i]? = some (if i % 2=0 then ⟨b.x1,b,false⟩ else ⟨b.x2,b,true⟩)
 | [],_=>⟨rfl,fun i h=>by simp [BF] at h⟩
 |b::r,h=>by
  obtain ⟨h1,h2⟩:=Zg r fun x hx=>h x (by simp [hx])
  have e:BF (b::r)=⟨b.x1,b,false⟩::⟨b.x2,b,true⟩::BF r:=by
   unfold BF;rw [List.filter_cons,if_pos (h b (by simp))];rfl
  rw [e];refine ⟨by simp only [List.length_cons,h1];omega,fun i hi=>?_⟩
  match i with
  |0=>exact ⟨b,rfl,rfl⟩
  |1=>exact ⟨b,rfl,rfl⟩
  |i+2=>
   obtain ⟨c,h3,h4⟩:=h2 i (by simpa using hi);refine ⟨c,?_,?_⟩
   ·rw [show (i+2) / 2=i / 2+1 by omega,List.getElem?_cons_succ];exact h3
   ·rw [show (i+2) % 2=i % 2 by omega,List.getElem?_cons_succ,List.getElem?_cons_succ];exact h4
structure Duo (B:Nat) (w:World) (kv:Value) (T:List Tn) (mv:Value) (M:List Int):Prop where
 rk:KK.row w B kv (keysT T)
 rm:KL.row w B mv M
 km:∀k∈blk kv,k∉blk mv
theorem Duo.Bh {B:Nat} {w w':World} {kv mv:Value} {T:List Tn} {M:List Int} (h:Duo B w kv T mv M) (hu:Bf [] w w'):Duo B w' kv T mv M:=
 ⟨Bg h.rk hu (by simp),Bg h.rm hu (by simp),h.km⟩
theorem Zh {l:List Bx} (hb:∀b∈l,b.BO) {t:Tn} (ht:t∈BF l) : -9223372036854775808≤t.x∧t.x≤9223372036854775807:=by
 have hx:=(Gi t.x).1 (List.mem_map.2 ⟨t,ht,rfl⟩);unfold Eu at hx;obtain ⟨b,h1,h2⟩:=List.mem_flatMap.1 hx;have h3:=hb b (List.mem_filter.1 h1).1;unfold Bx.BO at h3;simp at h2;rcases h2 with h2 | h2<;>rw [h2]
 ·exact h3.1
 ·exact h3.2.1
theorem kS {l:List Bx} {Y:List Int} {T:List Tn} (hY:Dv (BG l)=Y) (hp:T.Perm (BF l)) (hs:T.Pairwise (fun s t=>s.x≤t.x)) {j:Nat} (hj:j<T.length):Legal l ((CS Y T).take j++[Lm Y T j]):=by
 rw [←OH Y T hj];refine ⟨T,hp,hs,?_⟩
 rw [hY,Ba,QT,Nat.min_eq_left (by omega)]
theorem kU {T:List Tn} (hs:T.Pairwise (fun s t=>s.x≤t.x)) {j:Nat} {t u:Tn} (ht:T[j]? = some t) (hu:T[j+1]? = some u):PV t.x u.x=(FP T j:Int):=by
 have htu:=(Ko hs ht).2 u (List.mem_of_getElem? (i:=1) (by rw [List.getElem?_drop];exact hu));have et:mf (T.map Tn.x) j=t.x:=by unfold mf;rw [List.getElem?_map,ht];rfl
 have eu:mf (T.map Tn.x) (j+1)=u.x:=by unfold mf;rw [List.getElem?_map,hu];rfl
 have hlt:j+1<T.length:=by
  rcases Nat.lt_or_ge (j+1) T.length with h | h
  ·exact h
  ·rw [List.getElem?_eq_none h] at hu;cases hu
 unfold FP PV;rw [if_pos hlt,et,eu];split<;>omega
theorem kV {T:List Tn} {j:Nat} (h:¬j+1<T.length):FP T j=0:=by unfold FP;rw [if_neg h]
def encS (s:Nat×Nat×Nat):Array Value:=#[.agg #[.int .i64 (s.1:Int),.int .u64 (s.2.1:Int),.int .i64 (s.2.2:Int)]]
theorem nU (A:Option Addr) (n C:Nat) (w:World):Calls Tryz.prog 106 #[.slice A n C] w fun e w'=>e=.returned (.func (.func 167) #[] #[.pointer (some ⟨w.heap.size,0,none⟩)])∧w'=w.alloc (.cells #[.slice A n C] 149):=by
 go_enter Tryz.func106,Tryz.ntmps106
 go_wp2
 go_ret
 exact ⟨rfl,rfl⟩
structure Yz (w:World) (B0 B p:Nat) (kv pv fv:Value) (K:List (Int×Nat)) (P:List Nat) (l:List Bx):Prop where
 rk:KK.row w B0 kv K
 sp:See KN w pv P
 rf:EO.row w B fv l
 cp:w.cell? ⟨p,0,none⟩=some fv
theorem Yz.upd {w w':World} {B0 B p:Nat} {kv pv fv:Value} {K:List (Int×Nat)} {P:List Nat} {l:List Bx} (h:Yz w B0 B p kv pv fv K P l) {G:List Nat} (hu:Bf G w w')
 (h1:∀k∈blk kv,k∉G) (h2:∀k∈blk pv,k∉G) (h3:∀k∈blk fv,k∉G) (h4:p∉G):Yz w' B0 B p kv pv fv K P l:=
 ⟨Bg h.rk hu h1,h.sp.upd hu fun _ k hk _=>h2 k hk,Bg h.rf hu h3,(hu.cell (p:=⟨p,0,none⟩) (World.block_lt_of_cell? w _ h.cp) h4).trans h.cp⟩
theorem Yz.Bh {w w':World} {B0 B p:Nat} {kv pv fv:Value} {K:List (Int×Nat)} {P:List Nat} {l:List Bx} (h:Yz w B0 B p kv pv fv K P l) (hu:Bf [] w w'):Yz w' B0 B p kv pv fv K P l:=
 h.upd hu (by simp) (by simp) (by simp) (by simp)
theorem zG (A:Option Addr) (C:Nat) (l:List Bx) (w:World) (p B:Nat) (hp:w.cell? ⟨p,0,none⟩=some (.slice A l.length C)) (hpB:B≤p) (hrow:EO.row w B (.slice A l.length C) l) (hl:l.length<100000) (hb:∀b∈l,b.BO) (hc:∀b∈l,b.counts=true) :
 Qi Tryz.prog 167 #[.pointer (some ⟨p,0,none⟩)] encS (Full l) (Legal l) B w:=by
 intro n rid J W hW hr1 hr2 hJ hY h0;refine callsIn_wide.2 ?_
 obtain ⟨iK,hiK,hK0,hK1,hK2⟩:=info_parts cu;obtain ⟨iM,hiM,hM0,hM1,hM2⟩:=info_parts Vq;have hpw:p<w.heap.size:=World.block_lt_of_cell? w _ hp;have hcp:=(hW.cell (p:=⟨p,0,none⟩) hpw (by simp)).trans hp;have hrf:EO.row W B (.slice A l.length C) l:=Bg hrow hW (by simp);have hfw:∀k∈blk (.slice A l.length C),B≤k∧k<w.heap.size:=fun k hk=>⟨BD hrow k hk,BK hrow k hk⟩
 have hM:=Gn hb hl;obtain ⟨hU2,hUg⟩:=Zg l hc;have htl:=Ea l;obtain ⟨B0,hB0⟩:=AO W.heap.size;have HPW:=Ai hpB hpw;have HCP:=AQ hcp;have HRF:=AQ hrf;have HFW:=AQ hfw;have HM:=AQ hM;have HUG:=Aj hU2 hUg htl;have HL:=AQ hl;have a8r:=AQ hb;have HB0:=AQ hB0;have b1P:=AQ hc;have fZ:=Ai hr1 hr2;have HJ:=AQ hJ;have HY:=AQ hY;have HJ0:=AQ h0;have hll:(l.length:Int)<100000:=by omega
 clear hp hpB hrow hl hb hc hW hr1 hr2 hJ hY h0 hpw hcp hrf hfw hM hU2 hUg htl hB0;have hc0:=HCP.out;go_enter Tryz.func167,Tryz.ntmps167
 go_wp2_with fail
 clear hc0
 go_loopg [3,4,18] l.length (fun m s3 s4 s18 wr=>∃k Ak Ck Am Cm,m+k=l.length∧s3=.slice Ak (keysT (BF (l.take k))).length Ck∧s4=.slice Am (BG (l.take k)).length Cm∧s18=.int .i64 (k:Int)∧
  Duo B0 wr (.slice Ak (keysT (BF (l.take k))).length Ck) (BF (l.take k)) (.slice Am (BG (l.take k)).length Cm) (BG (l.take k))∧Bf [] W wr)
 case atStart=>exact ⟨0,none,0,none,0,rfl,rfl,rfl,rfl,⟨World.ownsRow_nil _ _ _ _,World.ownsRow_nil _ _ _ _,by simp [blk]⟩,Bf.refl _ _⟩
 case round=>
  obtain ⟨k,Ak,Ck,Am,Cm,hk,rfl,rfl,rfl,ht,hu⟩:=hrel;have b0:(0:Int)≤(k:Int):=AU _;by_cases hlt:k<l.length
  ·obtain ⟨b,hb⟩:∃b,l[k]? = some b:=⟨_,AX hlt⟩;have hcb:b.counts=true:=b1P.out b (List.mem_of_getElem? hb);obtain ⟨bl,ol,hA,-,-,l0,l1,l2,l3⟩:=EO.at ((See.BX HRF.out).Bh hu) hb;subst hA;have htt:=Xd l hb;have hty:=YP l hb;rw [if_pos hcb] at htt hty;have hlen:=Ea (l.take k);have htl:(l.take k).length≤l.length:=by rw [Ba];omega
   obtain ⟨T,hT⟩:=AO (BF (l.take k));obtain ⟨M,hM⟩:=AO (BG (l.take k));rw [hT] at htt ht hlen ⊢;rw [hM] at hty ht hlen ⊢;obtain ⟨x1,x2,y1,y2,bi⟩:=b;dsimp only at l0 l1 l2 l3 htt hty;have hkl:(keysT T).length=T.length:=Ie T;have b1:(k:Int)<(l.length:Int):=by omega
   have HT:=AQ ht;have OL:=AQ htt;have lX:=AQ hty;have Om:=AQ (show M.length<900000∧(keysT T).length<900000 by have:=HL.out;omega);have HU:=AQ hu;have HK:=Ai hk hlt;have FM:Bf [] wr (wr.alloc (.cells #[.int .i64 x1,.int .i64 x2,.int .i64 y1,.int .i64 y2] 245)):=(Bf.refl _ _).alloc _;have hbx:(wr.alloc (.cells #[.int .i64 x1,.int .i64 x2,.int .i64 y1,.int .i64 y2] 245)).heap[wr.heap.size]? = some (.cells #[.int .i64 x1,.int .i64 x2,.int .i64 y1,.int .i64 y2] 245 (0,0)):=heap_alloc_new _ _;have Gl:=AQ FM;have EH:=AQ hbx;clear ht htt hty hlen htl hu hk hlt hT hM hkl FM hbx hb hcb;go_upto_region 5 with fail
   have JZ:=AQ (HT.out.Bh Gl.out);have iZ:=AQ (show ∀j∈blk (.slice Ak (keysT T).length Ck),j<wr.heap.size from BK HT.out.rk);have Ur:=AQ (HU.out.trans Gl.out);generalize (wr.alloc (.cells #[.int .i64 x1,.int .i64 x2,.int .i64 y1,.int .i64 y2] 245))=Wb at EH JZ Ur Gl ⊢;generalize wr.heap.size=q at EH iZ ⊢;have c0:Wb.cell? ⟨q,0,none⟩=some (.int .i64 x1):=by have:=EH.out;simp [World.cell?,this]
   have c1:Wb.cell? ⟨q,1,none⟩=some (.int .i64 x2):=by have:=EH.out;simp [World.cell?,this]
   have uZ:=AQ (show B0≤Wb.heap.size by have:=Ur.out.size;rw [HB0.out] at this;exact this);go_wp2_with (at_builtin;refine BL _ rfl _ _ 216 rfl B0 218 iK (.agg #[.int .i64 0,.int .u32 0]) 2 16 Tryz.underlying216 hiK hK0 hK1 hK2 rfl (by decide) _ _ _ rfl (Bg JZ.out.rk ((Bf.refl [] _).alloc _) (by simp)) _ 2 [.int .i64 x1,.int .u32 0,.int .i64 x2,.int .u32 0] rfl (BM Wb #[.int .i64 x1,.int .u32 0,.int .i64 x2,.int .u32 0] 218 2 2 rfl (by decide)) (by simp [Value.oneCell']) (by have:=Om.2;unfold maxLen;omega) (Ac Om.2) (by have:=uZ.out;simp;omega) ?_)
   intro A7 C7 w7 HP;have u7:Bf (blk (.slice Ak (keysT T).length Ck)) Wb w7:=((Bf.refl _ _).alloc _).trans HP.upd
   have k7:KK.row w7 B0 (.slice A7 ((keysT T).length+2) C7) (keysT T++[(x1,0),(x2,0)]):=by
    have:=HP.own;unfold Kind.row;rw [Kind.Ci,AY];exact this
   have m7:KL.row w7 B0 (.slice Am M.length Cm) M:=Bg JZ.out.rm u7 (fun j hj hc=>JZ.out.km j hc hj);have am7:=JH HP (u:=.slice Am M.length Cm) (fun j hj=>Bc (BK JZ.out.rm j hj) (by simp)) JZ.out.km;have hq7:q∉blk (.slice Ak (keysT T).length Ck):=fun h=>by have:=iZ.out q h;omega
   have h7:=(u7.block q (lt_of_block EH.out) hq7).trans EH.out;have d2:w7.cell? ⟨q,2,none⟩=some (.int .i64 y1):=by simp [World.cell?,h7]
   have d3:w7.cell? ⟨q,3,none⟩=some (.int .i64 y2):=by simp [World.cell?,h7]
   have V3:=AQ (show Bf [] W w7 from Ur.out.trans' u7 (fun j hj=>.inr (by rw [HB0.out];exact BD JZ.out.rk j hj)));have aV:=Aj k7 m7 am7;have a3R:=AQ (Bd uZ.out u7.size);clear HP u7 k7 m7 am7 hq7 h7 c0 c1;go_wp2_with (at_builtin;refine BL _ rfl _ _ 57 rfl B0 2 iM (.int .i64 0) 1 8 Tryz.underlying57 hiM hM0 hM1 hM2 rfl (by decide) _ _ _ rfl (Bg aV.2.1 ((Bf.refl [] _).alloc _) (by simp)) _ 2 [.int .i64 y1,.int .i64 y2] rfl (BM w7 #[.int .i64 y1,.int .i64 y2] 2 1 2 rfl (by decide)) (by simp [Value.oneCell']) (by have:=Om.1;unfold maxLen;omega) (Ac Om.1) (by have:=a3R.out;simp;omega) ?_)
   intro A8 C8 w8 HP;have u8:Bf (blk (.slice Am M.length Cm)) w7 w8:=((Bf.refl _ _).alloc _).trans HP.upd
   have m8:KL.row w8 B0 (.slice A8 (M.length+2) C8) (M++[y1,y2]):=by
    have:=HP.own;unfold Kind.row;rw [Kind.Ci,AY];exact this
   have k8:=Bg aV.1 u8 (fun j hj hc=>aV.2.2 j hj hc);have ak8:∀j∈blk (.slice A7 ((keysT T).length+2) C7),j∉blk (.slice A8 (M.length+2) C8):=fun j hj hc=>JH HP (u:=.slice A7 ((keysT T).length+2) C7) (fun j hj=>Bc (BK aV.1 j hj) (by simp)) (fun j hj hc=>aV.2.2 j hc hj) j hc hj
   have tH:=AQ (show Bf [] W w8 from V3.out.trans' u8 (fun j hj=>.inr (by rw [HB0.out];exact BD JZ.out.rm j hj)));have tJ:=Aj k8 m8 ak8;clear HP u8 m8 k8 ak8 d2 d3;go_wp2_with fail
   go_roundg (l.length - (k+1))
   case measure=>have:=HK.out;omega
   case rel=>
    have ekk:keysT (T++[⟨x1,⟨x1,x2,y1,y2,bi⟩,false⟩,⟨x2,⟨x1,x2,y1,y2,bi⟩,true⟩])=keysT T++[(x1,0),(x2,0)]:=by simp [keysT]
    refine ⟨k+1,A7,C7,A8,C8,Ac HK,?_,?_,by go_num,?_,tH.out⟩
    ·rw [OL.out,ekk,AY];rfl
    ·rw [lX.out,AY];rfl
    ·rw [OL.out,lX.out,ekk,AY,AY];exact ⟨by rw [ekk];exact tJ.1,tJ.2.1,tJ.2.2⟩
  ·have hke:l.take k=l:=List.take_of_length_le (by omega);rw [hke] at ht ⊢;have b1:¬(k:Int)<(l.length:Int):=by omega
   clear hk hke hlt;obtain ⟨U,hU⟩:=AO (BF l);obtain ⟨M,hMe⟩:=AO (BG l);obtain ⟨Y,aG⟩:=AO (Dv (BG l));have hug:=HUG.out;have hmk:=HM.out;rw [hU,hMe] at hug;rw [aG] at hmk;rw [hU,hMe] at ht ⊢;have hYM:Dv M=Y:=by rw [←hMe];exact aG
   have hML:M.length<400000∧U.length<400000:=Ac HL;obtain ⟨K,hK⟩:=AO (keysT U);have hKL:K.length=U.length:=by rw [←hK];exact Ie U
   have hrk:=ht.rk;rw [hK] at hrk;rw [hK];have vg:=Xc (.slice Am M.length Cm) M wr (See.BX ht.rm) (by omega);unfold lZ at vg;rw [hYM] at vg;have HSQ:=AQ vg;have HRK:=AQ hrk;have HWR:=AQ hu;have sJ:=Ap aG hU hMe hK;have HMK:=AQ hmk;have a8s:=AQ hug;have HLEN:=Ai hML hKL;have HKN:=AQ (show (K.length:Int)<400000 by omega);clear ht hu hug hmk hYM hML hKL hrk vg hU hMe aG hK;go_wp2_with fail
   (with_reducible refine HSQ.out.mono ?_);rintro e w1 ⟨A1,C1,rfl,r1,u1⟩;have HN:=AQ (newC (.slice A1 Y.length C1) Y w1 (See.BX r1) HMK.out);have FY:=AQ u1;clear r1 u1;go_wp2_with fail
   (with_reducible refine HN.out.mono ?_);rintro e w2 ⟨b,F,rfl,c2,u2,f2⟩;have Fq:=Ap c2 (FY.out.trans u2) f2 c2.lt;have tC:=AQ (YO (.slice Ak K.length Ck) K w2 (See.BX (Bg HRK.out (FY.out.trans u2) (by simp))) (Ac HLEN));clear c2 u2 f2 HN HSQ;go_wp2_with fail
   (with_reducible refine tC.out.mono ?_);rintro e w3 ⟨A3,C3,P,wrt,rfl,s3,p3,q3,u3,k3⟩;have jc:=AQ (Tm (T:=U) (M:=P) (by rw [sJ.2.2.2];exact p3) (by rw [sJ.2.2.2];exact q3) ⟨0,⟨0,0,0,0,0⟩,false⟩);have hPl:P.length=K.length:=by have:=p3.length_eq;rw [List.length_range] at this;exact this
   have hPi:∀i∈P,i<K.length:=fun i hi=>List.mem_range.1 (p3.mem_iff.1 hi)
   have hww:Bf [] wr w3:=Fq.2.1.trans u3
   have hst:Yz w3 B0 B p (.slice Ak K.length Ck) (.slice A3 K.length C3) (.slice A l.length C) K P l:=
    ⟨Bg HRK.out hww (by simp),by have:=s3;exact this,Bg HRF.out (HWR.out.trans hww) (by simp),((HWR.out.trans hww).cell (p:=⟨p,0,none⟩) (World.block_lt_of_cell? W _ HCP.out) (by simp)).trans HCP.out⟩
   have hdis:(∀y∈F,B0≤y)∧(∀k∈blk (.slice Ak K.length Ck),k∉F∧B0≤k)∧(∀k∈blk (.slice A3 K.length C3),k∉F∧B0≤k):=by
    have z1:=FY.out.size;have z0:=HWR.out.size;have z2:=Fq.2.1.size;rw [HB0.out] at z0;refine ⟨fun y hy=>by have:=Fq.2.2.1 y hy;omega,fun k hk=>⟨fun hf=>?_,BD HRK.out k hk⟩,fun k hk=>⟨fun hf=>?_,by have:=k3 k hk;omega⟩⟩
    ·have h1:=Fq.2.2.1 k hf;have h2:=BK HRK.out k hk;omega
    ·have h1:=Fq.2.2.2 k hf;have h2:=k3 k hk;omega
   obtain ⟨T,hT⟩:∃T,(P.map fun i=>U[i]?.getD ⟨0,⟨0,0,0,0,0⟩,false⟩)=T:=⟨_,rfl⟩;obtain ⟨N0,hN0⟩:=AO K.length;have hTl:T.length=N0:=by rw [←hT,List.length_map,hPl,hN0]
   have O4:=AQ hdis;have HST:=AQ hst;have OL:=AQ hT;rw [hT] at jc;rw [hN0] at HST O4 hPl hPi HKN HLEN HRK ⊢;have HP:=Aj hPl hPi hTl;have HCV:=AQ (Fq.1.Bh u3);have HW3:=AQ (HWR.out.trans hww);have HN0:=AQ hN0;have hKn:=HKN.out;clear s3 p3 q3 u3 k3 hPl hPi hww hst hdis hT hTl hN0 Fq tC;go_wp2_with fail
   go_loopg [55] N0 (fun m s55 wr=>∃k N,m+k=N0∧N≤k∧s55=.int .i64 (k:Int)∧J ((CS Y T).take k) wr∧Ej wr b F Y (sw Y (T.take k)) N∧Yz wr B0 B p (.slice Ak N0 Ck) (.slice A3 N0 C3) (.slice A l.length C) K P l∧B0≤wr.heap.size)
   case atStart=>exact ⟨0,0,by omega,Nat.le_refl _,rfl,HJ.out [] W w3 HJ0.out HW3.out.below,HCV.out,HST.out,by have:=HW3.out.size;rw [HB0.out] at this;exact this⟩
   case round=>
    clear b1;obtain ⟨j,N,hk,hNk,rfl,hJk,hcv,hst,hsz⟩:=hrel;have b0:(0:Int)≤(j:Int):=AU _;by_cases hlt:j<N0
    ·have b1:(j:Int)<(N0:Int):=by omega
     obtain ⟨i,hi⟩:∃i,P[j]? = some i:=⟨_,AX (by rw [HP.1];exact hlt)⟩;have hiN:=HP.2.1 i (List.mem_of_getElem? hi);have hUL:U.length=N0:=HLEN.2.symm;obtain ⟨bb,hbb,hUi⟩:=a8s.2.1 i (by omega);have hh0:i / 2<l.length:=Ac a8s.1;obtain ⟨t,ht⟩:∃t:Tn,(if i % 2=0 then ⟨bb.x1,bb,false⟩ else ⟨bb.x2,bb,true⟩)=t:=⟨_,rfl⟩;rw [ht] at hUi;have hTj:T[j]? = some t:=by rw [←OL.out,List.getElem?_map,hi];simp [hUi]
     have hKi:K[i]? = some (t.x,0):=by rw [←sJ.2.2.2];unfold keysT;rw [List.getElem?_map,hUi];rfl
     obtain ⟨gp,op,hA3,-,-,cpl⟩:=KN.at hst.sp hi;obtain ⟨gf,of,hAf,-,-,l0,l1,l2,l3⟩:=EO.at (See.BX hst.rf) hbb;obtain ⟨gk,ok,hAk,-,-,hkc⟩:=(See.BX hst.rk).at hKi;have k0:wr.cell? ⟨gk,ok+i*2,none⟩=some (.int .i64 t.x):=hkc 0 _ rfl;clear hkc;obtain ⟨h,hh⟩:=AO (i / 2);rw [hh] at l0 l1 l2 l3 hh0;have e2:(i:Int) / 2=(h:Int):=by omega
     have h0:(0:Int)≤(h:Int):=AU _;have h1:(h:Int)<(l.length:Int):=by omega
     subst hA3 hAf hAk;have ccp:=hst.cp;have HX:=AB hk hNk hlt hiN hbb ht hTj hi hUi;have HJK:=AQ hJk;have a8t:=AQ hcv;have a8u:=AQ hst;have mZ:=AQ hsz;have HK0:=Ai k0 cpl;clear hk hNk hJk hcv hst hsz hlt hi hiN hUL hbb hUi ht hTj hKi k0 hh hh0;have FM:Bf [] wr ((wr.alloc (.cells #[.int .i64 bb.x1,.int .i64 bb.x2,.int .i64 bb.y1,.int .i64 bb.y2] 245)).alloc (.cells #[.int .i64 0,.int .u64 0,.int .i64 0] 156)):=((Bf.refl _ _).alloc _).alloc _
     have hbx:((wr.alloc (.cells #[.int .i64 bb.x1,.int .i64 bb.x2,.int .i64 bb.y1,.int .i64 bb.y2] 245)).alloc (.cells #[.int .i64 0,.int .u64 0,.int .i64 0] 156)).heap[wr.heap.size]? = some (.cells #[.int .i64 bb.x1,.int .i64 bb.x2,.int .i64 bb.y1,.int .i64 bb.y2] 245 (0,0))∧((wr.alloc (.cells #[.int .i64 bb.x1,.int .i64 bb.x2,.int .i64 bb.y1,.int .i64 bb.y2] 245)).alloc (.cells #[.int .i64 0,.int .u64 0,.int .i64 0] 156)).heap[wr.heap.size+1]? = some (.cells #[.int .i64 0,.int .u64 0,.int .i64 0] 156 (0,0)):=
      ⟨(Below.heap_alloc _ _ _ (by simp)).trans (heap_alloc_new _ _),by have:=heap_alloc_new (wr.alloc (.cells #[.int .i64 bb.x1,.int .i64 bb.x2,.int .i64 bb.y1,.int .i64 bb.y2] 245)) (.cells #[.int .i64 0,.int .u64 0,.int .i64 0] 156);rwa [World.size_alloc] at this⟩
     have hqf:(∀y∈F,y<wr.heap.size)∧(∀k∈blk (.slice (some ⟨gk,ok,none⟩) N0 Ck),k<wr.heap.size)∧(∀k∈blk (.slice (some ⟨gp,op,none⟩) N0 C3),k<wr.heap.size)∧W.heap.size≤wr.heap.size∧w.heap.size≤wr.heap.size:=
      ⟨a8t.out.lt,BK a8u.out.rk,fun k hk=>by simp [blk] at hk;subst hk;exact World.block_lt_of_cell? wr _ HK0.2,by rw [HB0.out];exact mZ.out,by have:=fZ.out;rw [HB0.out] at this;have:=mZ.out;omega⟩
     have hsl:(sw Y (T.take j)).length≤1000000:=by have h1:=zy Y (T.take j);rw [Ba] at h1;have:=HP.2.2;have:=HKN.out;omega
     have hsn:sw Y (T.take (j+1))=stepT Y (sw Y (T.take j)) t∧zk Y (sw Y (T.take j)) t=QO Y T j:=by
      have htj:=HX.2.2.2.2.2.2.1;refine ⟨by rw [show T.take (j+1)=T.take j++[t] by rw [List.take_add_one,htj];rfl,aC],?_⟩
      have h1:=fP (l:=l) (T:=T) (by rw [sJ.2.1];exact jc.1) jc.2 htj;rw [sJ.1] at h1;rw [h1];unfold QO;rw [htj]
     have Gl:=AQ FM;have EH:=AQ hbx;have OW:=AQ hqf;have HSL:=AQ hsl;have HSN:=AQ hsn;clear FM hbx hqf hsl hsn;obtain ⟨g,hg⟩:∃g,((i:Int) % 2==0)=g:=⟨_,rfl⟩;go_upto_if 68 with fail
     have HG:=AQ hg;clear hg e2 h0 h1 l0 l1 l2 l3 ccp;have HSb:=AQ (a8u.out.Bh Gl.out);have HCb:=AQ (a8t.out.Bh Gl.out);have HJb:=AQ (HJ.out _ _ _ HJK.out (Gl.out.below.mono OW.2.2.2.1));have zH:=AQ (Bd mZ.out Gl.out.size);generalize ((wr.alloc (.cells #[.int .i64 bb.x1,.int .i64 bb.x2,.int .i64 bb.y1,.int .i64 bb.y2] 245)).alloc (.cells #[.int .i64 0,.int .u64 0,.int .i64 0] 156))=Wb at EH HSb HCb HJb zH Gl ⊢;have HKS:=AQ (show Bf [] wr Wb from Gl.out);generalize hq:wr.heap.size=q at EH OW ⊢;have HQQ:=AQ hq;clear hq;have c2:Wb.cell? ⟨q,2,none⟩=some (.int .i64 bb.y1):=by have:=EH.1;simp [World.cell?,this]
     have c3:Wb.cell? ⟨q,3,none⟩=some (.int .i64 bb.y2):=by have:=EH.1;simp [World.cell?,this]
     go_cut [] (fun wc=>(∃N',N'≤j+1∧Ej wc b F Y (sw Y (T.take (j+1))) N')∧Yz wc B0 B p (.slice (some ⟨gk,ok,none⟩) N0 Ck) (.slice (some ⟨gp,op,none⟩) N0 C3) (.slice (some ⟨gf,of,none⟩) l.length C) K P l∧J ((CS Y T).take j) wc∧wc.heap[q+1]? = some (.cells #[.int .i64 0,.int .u64 0,.int .i64 (QO Y T j:Int)] 156 (0,0))∧B0≤wc.heap.size)
     case first=>
      by_cases hpar:i % 2=0
      ·
       have htt:t=⟨bb.x1,bb,false⟩:=by rw [←HX.2.2.2.2.2.1];rw [if_pos hpar]
       have g1:g=true:=by rw [←HG.out,beq_iff_eq];omega
       subst g1;have had:=a8g b F Y (sw Y (T.take j)) N Wb bb.y1 bb.y2 HCb.out HMK.out (Ah HX.2.1 HX.2.2.1 HKN) HSL.out;unfold aB at had;have e1:U4 Y (sw Y (T.take j)) bb.y1 bb.y2=sw Y (T.take (j+1)):=by rw [HSN.1,htt];rfl
       have e3:fF Y bb.y1 bb.y2=QO Y T j:=by rw [←HSN.2,htt];rfl
       rw [e1,e3] at had;obtain ⟨E,hE⟩:=AO (QO Y T j);rw [hE] at had;have HAD:=AQ had;have HE:=AQ hE;clear htt had e1 e3 hpar hE;go_wp2_with fail
       (with_reducible refine HAD.out.mono ?_);rintro e w4 ⟨rfl,⟨N',hN',hc4⟩,Gt⟩;clear c2 c3;have hq4:=(Gt.block (q+1) (lt_of_block EH.2) (fun h=>by have:=OW.1 _ h;omega)).trans EH.2;have d2:w4.cell? ⟨q+1,2,none⟩=some (.int .i64 0):=by simp [World.cell?,hq4]
       have f2:w4.frozen? ⟨q+1,2,none⟩=false:=by simp [World.frozen?,hq4]
       have Sr:=HSb.out.upd Gt (fun k hk=>(O4.2.1 k hk).1) (fun k hk=>(O4.2.2 k hk).1) (fun k hk hf=>by have:=O4.1 k hf;have:=(HFW.out k hk).2;have:=fZ.out;rw [HB0.out] at this;omega) (fun hf=>by have:=O4.1 p hf;have:=HPW.2;have:=fZ.out;rw [HB0.out] at this;omega);have hJ4:=HJ.out _ _ _ HJb.out (show Below W.heap.size Wb w4 from ⟨Gt.os,Gt.tape,Gt.output,Gt.size,fun k hk=>Gt.block k (by have:=zH.out;rw [HB0.out] at hk;omega) (fun hf=>by have:=O4.1 k hf;rw [HB0.out] at hk;omega)⟩);have hus:Bf [q+1] w4 (w4.setCell ⟨q+1,2,none⟩ (.int .i64 (E:Int))):=(Bf.refl _ _).setCell (.inl (by simp)) _
       have HR4:=AQ (AP (show ∃N',N'≤j+1∧Ej (w4.setCell ⟨q+1,2,none⟩ (.int .i64 (E:Int))) b F Y (sw Y (T.take (j+1))) N' from ⟨N',Ac HX.2.1,hc4.upd hus (fun y hy hc=>by simp at hc;have:=OW.1 _ hy;omega)⟩)
        (AP (Sr.upd hus (fun k hk hc=>by simp at hc;have:=OW.2.1 _ hk;omega) (fun k hk hc=>by simp at hc;have:=OW.2.2.1 _ hk;omega) (fun k hk hc=>by simp at hc;have:=(HFW.out k hk).2;have:=OW.2.2.2;omega) (fun hc=>by simp at hc;have:=HPW.2;have:=OW.2.2.2;omega))
        (AP (HJ.out _ _ _ hJ4 (show Below W.heap.size w4 (w4.setCell ⟨q+1,2,none⟩ (.int .i64 (E:Int))) from ⟨hus.os,hus.tape,hus.output,hus.size,fun k hk=>Below.heap_setCell _ _ _ _ (by have:=OW.2.2.2;show k≠q+1;omega)⟩))
        (AP (show (w4.setCell ⟨q+1,2,none⟩ (.int .i64 (E:Int))).heap[q+1]? = some (.cells #[.int .i64 0,.int .u64 0,.int .i64 (E:Int)] 156 (0,0)) from heap_set hq4 2 _)
        (show B0≤(w4.setCell ⟨q+1,2,none⟩ (.int .i64 (E:Int))).heap.size from Bd (Bd zH.out Gt.size) hus.size)))))
       clear hq4 Sr hJ4 hus hc4 Gt hN';go_wp2_with fail
       clear d2 f2;go_meet
       case rel=>rw [HE.out];exact HR4.out
      ·
       have htt:t=⟨bb.x2,bb,true⟩:=by rw [←HX.2.2.2.2.2.1];rw [if_neg hpar]
       have g1:g=false:=by rw [←HG.out,beq_eq_false_iff_ne];omega
       subst g1;have had:=a2k b F Y (sw Y (T.take j)) N Wb bb.y1 bb.y2 HCb.out HMK.out (Ah HX.2.1 HX.2.2.1 HKN) HSL.out;unfold aB at had;have e1:NG Y (sw Y (T.take j)) bb.y1 bb.y2=sw Y (T.take (j+1)):=by rw [HSN.1,htt];rfl
       have e3:Rw Y (sw Y (T.take j)) bb.y1 bb.y2=QO Y T j:=by rw [←HSN.2,htt];rfl
       rw [e1,e3] at had;obtain ⟨E,hE⟩:=AO (QO Y T j);rw [hE] at had;have HAD:=AQ had;have HE:=AQ hE;clear htt had e1 e3 hpar hE;go_wp2_with fail
       (with_reducible refine HAD.out.mono ?_);rintro e w4 ⟨rfl,⟨N',hN',hc4⟩,Gt⟩;clear c2 c3;have hq4:=(Gt.block (q+1) (lt_of_block EH.2) (fun h=>by have:=OW.1 _ h;omega)).trans EH.2;have d2:w4.cell? ⟨q+1,2,none⟩=some (.int .i64 0):=by simp [World.cell?,hq4]
       have f2:w4.frozen? ⟨q+1,2,none⟩=false:=by simp [World.frozen?,hq4]
       have Sr:=HSb.out.upd Gt (fun k hk=>(O4.2.1 k hk).1) (fun k hk=>(O4.2.2 k hk).1) (fun k hk hf=>by have:=O4.1 k hf;have:=(HFW.out k hk).2;have:=fZ.out;rw [HB0.out] at this;omega) (fun hf=>by have:=O4.1 p hf;have:=HPW.2;have:=fZ.out;rw [HB0.out] at this;omega);have hJ4:=HJ.out _ _ _ HJb.out (show Below W.heap.size Wb w4 from ⟨Gt.os,Gt.tape,Gt.output,Gt.size,fun k hk=>Gt.block k (by have:=zH.out;rw [HB0.out] at hk;omega) (fun hf=>by have:=O4.1 k hf;rw [HB0.out] at hk;omega)⟩);have hus:Bf [q+1] w4 (w4.setCell ⟨q+1,2,none⟩ (.int .i64 (E:Int))):=(Bf.refl _ _).setCell (.inl (by simp)) _
       have HR4:=AQ (AP (show ∃N',N'≤j+1∧Ej (w4.setCell ⟨q+1,2,none⟩ (.int .i64 (E:Int))) b F Y (sw Y (T.take (j+1))) N' from ⟨N',Ac HX.2.1,hc4.upd hus (fun y hy hc=>by simp at hc;have:=OW.1 _ hy;omega)⟩)
        (AP (Sr.upd hus (fun k hk hc=>by simp at hc;have:=OW.2.1 _ hk;omega) (fun k hk hc=>by simp at hc;have:=OW.2.2.1 _ hk;omega) (fun k hk hc=>by simp at hc;have:=(HFW.out k hk).2;have:=OW.2.2.2;omega) (fun hc=>by simp at hc;have:=HPW.2;have:=OW.2.2.2;omega))
        (AP (HJ.out _ _ _ hJ4 (show Below W.heap.size w4 (w4.setCell ⟨q+1,2,none⟩ (.int .i64 (E:Int))) from ⟨hus.os,hus.tape,hus.output,hus.size,fun k hk=>Below.heap_setCell _ _ _ _ (by have:=OW.2.2.2;show k≠q+1;omega)⟩))
        (AP (show (w4.setCell ⟨q+1,2,none⟩ (.int .i64 (E:Int))).heap[q+1]? = some (.cells #[.int .i64 0,.int .u64 0,.int .i64 (E:Int)] 156 (0,0)) from heap_set hq4 2 _)
        (show B0≤(w4.setCell ⟨q+1,2,none⟩ (.int .i64 (E:Int))).heap.size from Bd (Bd zH.out Gt.size) hus.size)))))
       clear hq4 Sr hJ4 hus hc4 Gt hN';go_wp2_with fail
       clear d2 f2;go_meet
       case rel=>rw [HE.out];exact HR4.out
     case rest=>
      obtain ⟨⟨N',hN',hc4⟩,Sr,hJ4,hq4,hz4⟩:=hcut;clear c2 c3;have hru:=a8h b F Y (sw Y (T.take (j+1))) N' wc hc4;rw [X7 HMK.out T j] at hru;obtain ⟨R,hR⟩:=AO (Gy Y T j);obtain ⟨E,hE⟩:=AO (QO Y T j);rw [hR] at hru;rw [hE] at hq4;have HRU:=AQ hru;have HRE:=Ai hR hE;have Vz:=Aq (⟨N',hN',hc4⟩:∃N',N'≤j+1∧Ej wc b F Y (sw Y (T.take (j+1))) N') Sr hJ4 hq4 hz4;clear hN' hc4 Sr hJ4 hq4 hz4 hru hR hE;go_wp2_with fail
      (with_reducible refine HRU.out.mono ?_);rintro e w5 ⟨rfl,GR⟩
      have Xq:=AQ (AP (Vz.1.elim fun N' h=>(⟨N',h.1,h.2.Bh GR⟩:∃N',N'≤j+1∧Ej w5 b F Y (sw Y (T.take (j+1))) N')) (AP (Vz.2.1.Bh GR) (AP (HJ.out _ _ _ Vz.2.2.1 (GR.below.mono (by have:=Vz.2.2.2.2;rw [HB0.out];exact this)))
       (AP ((GR.block (q+1) (lt_of_block Vz.2.2.2.1) (by simp)).trans Vz.2.2.2.1) (Bd Vz.2.2.2.2 GR.size)))))
      have d0:w5.cell? ⟨q+1,0,none⟩=some (.int .i64 0):=by have:=Xq.2.2.2.1;simp [World.cell?,this]
      have f0:w5.frozen? ⟨q+1,0,none⟩=false:=by have:=Xq.2.2.2.1;simp [World.frozen?,this]
      have hus:Bf [q+1] w5 (w5.setCell ⟨q+1,0,none⟩ (.int .i64 (R:Int))):=(Bf.refl _ _).setCell (.inl (by simp)) _
      have uq:=AQ (AP (Xq.1.elim fun N' h=>(⟨N',h.1,h.2.upd hus (fun y hy hc=>by simp at hc;have:=OW.1 _ hy;omega)⟩:∃N',N'≤j+1∧Ej (w5.setCell ⟨q+1,0,none⟩ (.int .i64 (R:Int))) b F Y (sw Y (T.take (j+1))) N'))
       (AP (Xq.2.1.upd hus (fun k hk hc=>by simp at hc;have:=OW.2.1 _ hk;omega) (fun k hk hc=>by simp at hc;have:=OW.2.2.1 _ hk;omega) (fun k hk hc=>by simp at hc;have:=(HFW.out k hk).2;have:=OW.2.2.2;omega) (fun hc=>by simp at hc;have:=HPW.2;have:=OW.2.2.2;omega))
       (AP (HJ.out _ _ _ Xq.2.2.1 (show Below W.heap.size w5 (w5.setCell ⟨q+1,0,none⟩ (.int .i64 (R:Int))) from ⟨hus.os,hus.tape,hus.output,hus.size,fun k hk=>Below.heap_setCell _ _ _ _ (by have:=OW.2.2.2;show k≠q+1;omega)⟩))
       (AP (show (w5.setCell ⟨q+1,0,none⟩ (.int .i64 (R:Int))).heap[q+1]? = some (.cells #[.int .i64 (R:Int),.int .u64 0,.int .i64 (E:Int)] 156 (0,0)) from heap_set Xq.2.2.2.1 0 _)
       (show B0≤(w5.setCell ⟨q+1,0,none⟩ (.int .i64 (R:Int))).heap.size from Bd Xq.2.2.2.2 hus.size)))))
      clear hus;clear GR;obtain ⟨gb,hgb⟩:∃gb,decide ((j:Int)+1<(N0:Int))=gb:=⟨_,rfl⟩;go_upto_if 96 with fail
      have HGB:=AQ hgb;clear d0 f0 hgb;generalize w5.setCell ⟨q+1,0,none⟩ (.int .i64 (R:Int))=W6 at uq ⊢;go_cut [] (fun wd=>(∃N',N'≤j+1∧Ej wd b F Y (sw Y (T.take (j+1))) N')∧Yz wd B0 B p (.slice (some ⟨gk,ok,none⟩) N0 Ck) (.slice (some ⟨gp,op,none⟩) N0 C3) (.slice (some ⟨gf,of,none⟩) l.length C) K P l∧J ((CS Y T).take j) wd∧wd.heap[q+1]? = some (.cells #[.int .i64 (R:Int),.int .u64 (FP T j:Int),.int .i64 (E:Int)] 156 (0,0))∧B0≤wd.heap.size)
      case first=>
       by_cases hend:j+1<N0
       ·have g1:gb=true:=by rw [←HGB.out,decide_eq_true_eq];omega
        subst g1;obtain ⟨i',hi'⟩:∃i',P[j+1]? = some i':=⟨_,AX (by rw [HP.1];exact hend)⟩;have b1Q:=HP.2.1 i' (List.mem_of_getElem? hi');have hUL:U.length=N0:=HLEN.2.symm;obtain ⟨u,a1C⟩:∃u,U[i']? = some u:=⟨_,AX (by omega)⟩;have hTj':T[j+1]? = some u:=by rw [←OL.out,List.getElem?_map,hi'];simp [a1C]
        have a8v:K[i']? = some (u.x,0):=by rw [←sJ.2.2.2];unfold keysT;rw [List.getElem?_map,a1C];rfl
        have hKi:K[i]? = some (t.x,0):=by rw [←sJ.2.2.2];unfold keysT;rw [List.getElem?_map,HX.2.2.2.2.2.2.2.2];rfl
        obtain ⟨_,_,hA,-,-,hkc⟩:=(See.BX uq.2.1.rk).at hKi
        cases hA
        obtain ⟨_,_,hA,-,-,a5n⟩:=(See.BX uq.2.1.rk).at a8v
        cases hA
        obtain ⟨_,_,hA,-,-,hpl⟩:=KN.at uq.2.1.sp hi'
        cases hA
        have hs0:W6.cell? ⟨gk,ok+i*2,none⟩=some (.int .i64 t.x)∧W6.cell? ⟨gp,op+(j+1),none⟩=some (.int .i64 (i':Int))∧W6.cell? ⟨gk,ok+i'*2,none⟩=some (.int .i64 u.x)∧W6.cell? ⟨gk,ok+i'*2,none⟩=some (.int .i64 u.x):=⟨hkc 0 _ rfl,hpl,a5n 0 _ rfl,a5n 0 _ rfl⟩;have hdx:=kU jc.2 HX.2.2.2.2.2.2.1 hTj';have a5o:=Zh a8r.out (t:=t) (by rw [sJ.2.1];exact List.mem_of_getElem? HX.2.2.2.2.2.2.2.2);have hu64:=Zh a8r.out (t:=u) (by rw [sJ.2.1];exact List.mem_of_getElem? a1C);obtain ⟨LG,sH⟩:=AO (FP T j);obtain ⟨tx,htx⟩:=AO t.x;obtain ⟨ux,SE⟩:=AO u.x;rw [htx,SE,sH] at hdx;rw [htx] at hs0 a5o;rw [SE] at hs0 hu64;have hdf:=fun w=>nG tx ux w a5o hu64
        rw [hdx] at hdf;have HDF:=AQ hdf;have HLG:=AQ sH;have HS0:=AQ hs0;have v0:(0:Int)≤(i:Int):=AU _;have v1:(i:Int)<(N0:Int):=Ac HX.2.2.2.1;have v2:(0:Int)≤(i':Int):=AU _;have v3:(i':Int)<(N0:Int):=by omega
        have v4:(j:Int)+1<(N0:Int):=by omega
        clear hend hi' b1Q hUL a1C hTj' a8v hKi hkc a5n hpl hs0 hdx a5o hu64 sH htx SE hdf;go_upto_region 20 with fail
        have wk:IntKind.i64.wrap ((j:Int)+1)=(j:Int)+1:=IntWalk.i64_in _ ⟨by omega,by omega⟩;have kp:(0:Int)≤(j:Int)+1:=by omega
        have kn:((j:Int)+1).toNat=j+1:=by omega
        obtain ⟨Wd,hWd⟩:∃Wd,Wd=W6.drew:=⟨_,rfl⟩;have hud:Bf [] W6 Wd:=by rw [hWd];exact (Bf.refl _ _).drew
        have zI:=AQ (MF HS0.out hud)
        have zD:=AQ (AP (uq.1.elim fun N' h=>(⟨N',h.1,h.2.Bh hud⟩:∃N',N'≤j+1∧Ej Wd b F Y (sw Y (T.take (j+1))) N')) (AP (uq.2.1.Bh hud) (AP (HJ.out _ _ _ uq.2.2.1 (hud.below.mono (by have:=uq.2.2.2.2;rw [HB0.out];exact this)))
         (AP ((hud.block (q+1) (lt_of_block uq.2.2.2.1) (by simp)).trans uq.2.2.2.1) (Bd uq.2.2.2.2 hud.size)))))
        clear hud;refine Bj.start [14,15,16] (fun w'=>w'.cell? ⟨gk,ok+i*2,none⟩=some (.int .i64 tx)∧w'.cell? ⟨gp,op+(j+1),none⟩=some (.int .i64 (i':Int))∧w'.cell? ⟨gk,ok+i'*2,none⟩=some (.int .i64 ux)∧w'.cell? ⟨gk,ok+i'*2,none⟩=some (.int .i64 ux)) (by kernel_rfl) ?_ fun hS=>?_
        ·exact by rw [←hWd];exact zI.out
        rw [←hWd] at hS ⊢;clear hWd;refine' Bj.mw 0 (oi:=⟨some 97,_,_,_,_,_⟩) ?_
        simp only [Act.put,sA,sZ,sS];refine' Bj.mw 1 (oi:=⟨some 98,_,_,_,_,_⟩) ?_
        simp only [Act.put,sA,sZ,sS];refine' Bj.mw 2 (oi:=⟨some 99,_,_,_,_,_⟩) ?_
        simp only [Act.put,sA,sZ,sS];refine' Bj.mw 3 (oi:=⟨some 100,_,_,_,_,_⟩) ?_
        simp only [Act.put,sA,sZ,sS];refine' Bj.tl 4 4 (oi:=⟨some 101,_,_,_,_,_⟩) ?_
        simp only [Act.put,sA,sZ,sS];refine' Bj.mw 5 (oi:=⟨some 102,_,_,_,_,_⟩) ?_
        simp only [Act.put,sA,sZ,sS];refine' Bj.mw 6 (oi:=⟨some 103,_,_,_,_,_⟩) ?_
        simp only [Act.put,sA,sZ,sS];refine' Bj.mw 7 (oi:=⟨some 104,_,_,_,_,_⟩) ?_
        simp only [Act.put,sA,sZ,sS];refine' Bj.mw 8 (oi:=⟨some 105,_,_,_,_,_⟩) ?_
        simp only [Act.put,sA,sZ,sS];refine' Bj.mw 9 (oi:=⟨some 106,_,_,_,_,_⟩) ?_
        simp only [Act.put,sA,sZ,sS];refine' Bj.tl 4 10 (oi:=⟨some 107,_,_,_,_,_⟩) ?_
        simp only [Act.put,sA,sZ,sS];refine' Bj.mw 11 (oi:=⟨some 108,_,_,_,_,_⟩) ?_
        simp only [Act.put,sA,sZ,sS];refine' Bj.mw 12 (oi:=⟨some 109,_,_,_,_,_⟩) ?_
        simp only [Act.put,sA,sZ,sS];refine' Bj.tl 4 13 (oi:=⟨some 110,_,_,_,_,_⟩) ?_
        simp only [Act.put,sA,sZ,sS];refine Bj.one (i:=14) (o:=⟨some 111,_,_,_,_,_⟩) rfl (by kernel_rfl) fun K hK=>?_
        go_simp
        go_at_call 98
        (with_reducible refine (HDF.out _).mono ?_);rintro e w' ⟨rfl,rfl⟩;refine hK.out _ _ (fun h=>(by cases h)) ?_
        clear hK K;try simp only [Act.put,sA,sZ,sS]
        have z1:Wd.cell? ⟨q+1,1,none⟩=some (.int .u64 0):=by have:=zD.2.2.2.1;simp [World.cell?,this]
        have zf:Wd.frozen? ⟨q+1,1,none⟩=false:=by have:=zD.2.2.2.1;simp [World.frozen?,this]
        refine' Bj.mw 15 (oi:=⟨some 112,_,_,_,_,_⟩) ?_
        simp only [Act.put,sA,sZ,sS];refine Bj.one (i:=16) (o:=⟨none,_,_,_,_,_⟩) rfl (by kernel_rfl) fun K hK=>?_
        go_simp
        refine hK.out _ _ (fun h=>(by cases h)) ?_
        clear hK K;try simp only [Act.put,sA,sZ,sS]
        refine Bj.done (by kernel_rfl) ?_
        clear wk kp kn v0 v1 v2 v3 v4;have hus:Bf [q+1] Wd (Wd.setCell ⟨q+1,1,none⟩ (.int .u64 (LG:Int))):=(Bf.refl _ _).setCell (.inl (by simp)) _
        have HC7:=AQ (AP (zD.1.elim fun N' h=>(⟨N',h.1,h.2.upd hus (fun y hy hc=>by simp at hc;have:=OW.1 _ hy;omega)⟩:∃N',N'≤j+1∧Ej (Wd.setCell ⟨q+1,1,none⟩ (.int .u64 (LG:Int))) b F Y (sw Y (T.take (j+1))) N'))
         (AP (zD.2.1.upd hus (fun k hk hc=>by simp at hc;have:=OW.2.1 _ hk;omega) (fun k hk hc=>by simp at hc;have:=OW.2.2.1 _ hk;omega) (fun k hk hc=>by simp at hc;have:=(HFW.out k hk).2;have:=OW.2.2.2;omega) (fun hc=>by simp at hc;have:=HPW.2;have:=OW.2.2.2;omega))
         (AP (HJ.out _ _ _ zD.2.2.1 (show Below W.heap.size Wd (Wd.setCell ⟨q+1,1,none⟩ (.int .u64 (LG:Int))) from ⟨hus.os,hus.tape,hus.output,hus.size,fun k hk=>Below.heap_setCell _ _ _ _ (by have:=OW.2.2.2;show k≠q+1;omega)⟩))
         (AP (show (Wd.setCell ⟨q+1,1,none⟩ (.int .u64 (LG:Int))).heap[q+1]? = some (.cells #[.int .i64 (R:Int),.int .u64 (LG:Int),.int .i64 (E:Int)] 156 (0,0)) from heap_set zD.2.2.2.1 1 _)
         (show B0≤(Wd.setCell ⟨q+1,1,none⟩ (.int .u64 (LG:Int))).heap.size from Bd zD.2.2.2.2 hus.size)))))
        clear hus;clear z1 zf;go_wp2_with fail
        go_meet
        case rel=>rw [HLG.out];exact HC7.out
       ·have g1:gb=false:=by rw [←HGB.out,decide_eq_false_iff_not];omega
        subst g1;have hz:=kV (T:=T) (j:=j) (by rw [HP.2.2];exact hend);have HZ:=AQ hz;clear hz hend;go_wp2_with fail
        go_meet
        case rel=>rw [HZ.out];exact uq.out
      case rest=>
       obtain ⟨hc7,gu,hJ7,hq7,hz7⟩:=hcut;have hYY:=HY.out _ (Lm Y T j) wc hJ7 (kS sJ.1 (by rw [sJ.2.1];exact jc.1) jc.2 (by rw [HP.2.2];exact HX.2.2.1)) (by rw [HB0.out];exact hz7);rw [←OH Y T (by rw [HP.2.2];exact HX.2.2.1)] at hYY;obtain ⟨LG,sH⟩:=AO (FP T j);have hsk:encS (Lm Y T j)=#[.agg #[.int .i64 (R:Int),.int .u64 (LG:Int),.int .i64 (E:Int)]]:=by unfold encS Lm;rw [HRE.1,HRE.2,sH]
       rw [sH] at hq7;rw [hsk] at hYY;have z0:wc.cell? ⟨q+1,0,none⟩=some (.int .i64 (R:Int)):=by simp [World.cell?,hq7]
       have z1:wc.cell? ⟨q+1,1,none⟩=some (.int .u64 (LG:Int)):=by simp [World.cell?,hq7]
       have z2:wc.cell? ⟨q+1,2,none⟩=some (.int .i64 (E:Int)):=by simp [World.cell?,hq7]
       have HC7:=Aj hc7 gu hz7;have HYY:=AQ hYY;clear hc7 gu hJ7 hq7 hz7 hYY hsk sH;go_upto_region 21 with fail
       refine (wpIn_wide (n:=n+1)).1 ?_
       obtain ⟨fn,tm,asg,bod,hy,hR⟩:=HYY.out;gi_wp2
       refine hR.mono ?_
       rintro e w8 ⟨rfl,hJ8,G,nD,hG8⟩;clear hy hR z0 z1 z2
       have hgn:∀g∈G,g<B0∧(g<B∨g=rid):=fun g hg=>by
        have h1:=fZ.out;rw [HB0.out] at h1;have h2:=HPW.out;rcases hG8 g hg with h | h
        ·exact ⟨by omega,.inl h⟩
        ·exact ⟨by omega,.inr h⟩
       have a8w:=HC7.2.1.upd nD (fun k hk hc=>by have:=(O4.2.1 k hk).2;have:=(hgn k hc).1;omega) (fun k hk hc=>by have:=(O4.2.2 k hk).2;have:=(hgn k hc).1;omega)
        (fun k hk hc=>by have h1:=HFW.out k hk;have h2:=fZ.out;rcases (hgn k hc).2 with h | h<;>omega) (fun hc=>by have h1:=HPW.out;have h2:=fZ.out;rcases (hgn p hc).2 with h | h<;>omega)
       have hc8:∃N',N'≤j+1∧Ej w8 b F Y (sw Y (T.take (j+1))) N':=HC7.1.elim fun N' h=>⟨N',h.1,h.2.upd nD (fun y hy hc=>by have:=O4.1 y hy;have:=(hgn y hc).1;omega)⟩
       have H8:=Ap hJ8 a8w hc8 (Bd HC7.2.2 nD.size);clear hJ8 nD hG8 hgn a8w hc8;gi_wp2
       go_wp2_with fail
       obtain ⟨hJ9,a1D,⟨N9,hN9,hc9⟩,hz9⟩:=H8.out;go_roundg (N0 - (j+1))
       case measure=>have:=HX.1;have:=HX.2.2.1;omega
       case rel=>exact ⟨j+1,N9,Ad HX.1 HX.2.2.1,hN9,by go_num,hJ9,hc9,a1D,hz9⟩
    ·have htk:(CS Y T).take j=CS Y T:=List.take_of_length_le (by rw [QT,HP.2.2];omega);rw [htk] at hJk;have HEN:=AQ (show ∃xs,Full l xs∧J xs wr from ⟨_,⟨T,by rw [sJ.2.1];exact jc.1,jc.2,by rw [sJ.1]⟩,hJk⟩);have b1:¬(j:Int)<(N0:Int):=by omega
     clear htk hJk hcv hst hsz hk hNk hlt;go_wp2_with fail
     go_end0
     exact ⟨⟨_,rfl⟩,HEN.out⟩
attribute [local go_sem] Oper.semAt_some
def Kr (l:List Bx) (w:World) (e:Ending) (w':World):Prop:=
 e=.returned (.tuple #[ED (DU l).toNat,.int .i64 (Yx l:Int)])∧Bf [] w w'
theorem a5p {l:List Bx} (hb:∀b∈l,b.BO) (hl:l.length<100000):Jk (Ep l).toNat:=by
 have h1:=Kq hb hl;unfold Jk;omega
theorem VK (l:List Bx):0≤Ep l:=E8 l _ _ _ _
theorem Yc (l:List Bx):(DU l).toNat=(Ep l).toNat+(Ep (l.map En)).toNat:=by
 have h1:=VK l;have h2:=VK (l.map En);unfold DU;omega
theorem a5q {F:List Nat} {w w':World} {a1 a2 a3 a4:Addr} {v1 v2 v3 v4:Value} (h:w.cell? a1=some v1∧w.cell? a2=some v2∧w.cell? a3=some v3∧w.cell? a4=some v4) (hu:Bf F w w') (h1:a1.block∉F) (h2:a2.block∉F) (h3:a3.block∉F) (h4:a4.block∉F) :
 w'.cell? a1=some v1∧w'.cell? a2=some v2∧w'.cell? a3=some v3∧w'.cell? a4=some v4:=by
 have e:∀{a:Addr} {v:Value},a.block∉F→w.cell? a=some v→w'.cell? a=some v:=fun {a v} hb ha=>(hu.cell (World.block_lt_of_cell? w _ ha) hb).trans ha
 exact ⟨e h1 h.1,e h2 h.2.1,e h3 h.2.2.1,e h4 h.2.2.2⟩
structure Uj (wi:World) (p4 p5:Nat) (a e:Nat) (W:World):Prop where
 sum:Dy W p4 a
 ent:W.heap[p5]? = some (.cells #[.int .i64 (e:Int)] 3 (0,0))
 up:Bf [p4,p5] wi W
theorem Uj.below {wi:World} {p4 p5 a e:Nat} {C D:World} (h:Uj wi p4 p5 a e C) (h4:p4<wi.heap.size) (h5:p5<wi.heap.size) (hb:Below wi.heap.size C D):Uj wi p4 p5 a e D:=
 ⟨(hb.block p4 h4).trans h.sum,(hb.block p5 h5).trans h.ent,⟨hb.os.trans h.up.os,hb.tape.trans h.up.tape,hb.output.trans h.up.output,Bd h.up.size hb.size,fun k hk hf=>(hb.block k hk).trans (h.up.block k hk hf)⟩⟩
theorem Uj.upd {wi:World} {p4 p5 a e:Nat} {C D:World} (h:Uj wi p4 p5 a e C) (hu:Bf [] C D):Uj wi p4 p5 a e D:=
 ⟨h.sum.Bh hu,(hu.block p5 (lt_of_block h.ent) (by simp)).trans h.ent,h.up.trans (hu.mono (by simp))⟩
theorem Yd (v:Value) (l:List Bx) (w:World) (hs:See G5 w v l) (hl:l.length<100000) (hb:∀b∈l,b.BO) :
 Calls Tryz.prog 54 #[v] w (Kr l w):=by
 obtain ⟨A,C,rfl⟩:=hs.form;unfold Kr;refine (callsIn_wide (n:=9)).1 ?_
 refine callsIn_of_wp_marks Tryz.func54 rfl trivial ?_ rfl
 simp only [Tryz.ntmps54,List.size_toArray,List.length_cons,List.length_nil,Nat.reduceAdd,Nat.reduceSub,Array.replicate_succ,Array.replicate_zero,List.push_toArray,List.append_toArray,List.nil_append,List.cons_append];refine wpIn_wide.2 ?_
 have hr:=fun w1 (hu:Bf [] w w1)=>Ve (.slice A l.length C) l w1 (hs.Bh hu) (by omega)
 have hup:=fun w1 (hu:Bf [] w w1)=>upF (.slice A l.length C) l w1 (hs.Bh hu) (by omega)
 have HR:=AQ hr;have Rk:=AQ hup;have HL:=AQ hl;have HB:=AQ hb;have w3e:∃w3:World,w3=((w.alloc (.cells #[.int .u64 0,.int .u64 0] 52)).alloc (.cells #[.int .u64 0,.int .u64 0] 52)).alloc (.cells #[.int .i64 0] 3):=⟨_,rfl⟩;obtain ⟨w3,hw3⟩:=w3e;obtain ⟨p2,hp2⟩:=AO w.heap.size;have hu3:Bf [] w w3:=by rw [hw3];exact (((Bf.refl _ _).alloc _).alloc _).alloc _
 have hz3:w3.heap.size=p2+3:=by rw [hw3,←hp2];simp
 have h2:w3.heap[p2]? = some (.cells #[.int .u64 0,.int .u64 0] 52 (0,0)):=by
  rw [hw3,←hp2];exact (Below.heap_alloc _ _ _ (by simp;omega)).trans ((Below.heap_alloc _ _ _ (by simp)).trans (heap_alloc_new _ _))
 have h4:w3.heap[p2+1]? = some (.cells #[.int .u64 0,.int .u64 0] 52 (0,0)):=by
  have:=heap_alloc_new (w.alloc (.cells #[.int .u64 0,.int .u64 0] 52)) (.cells #[.int .u64 0,.int .u64 0] 52);rw [World.size_alloc,hp2] at this;rw [hw3];exact (Below.heap_alloc _ _ _ (by simp;omega)).trans this
 have h5:w3.heap[p2+1+1]? = some (.cells #[.int .i64 0] 3 (0,0)):=by
  have:=heap_alloc_new ((w.alloc (.cells #[.int .u64 0,.int .u64 0] 52)).alloc (.cells #[.int .u64 0,.int .u64 0] 52)) (.cells #[.int .i64 0] 3);rw [World.size_alloc,World.size_alloc,hp2] at this;rw [hw3];exact this
 have H3:=Aq hu3 hz3 h2 h4 h5;have HP2:=AQ hp2;clear hs hl hb hr hup hu3 hz3 h2 h4 h5;go_upto_region 3 with fail
 rw [←hw3];clear hw3;go_wp2_with fail
 (with_reducible refine (HR.out w3 H3.out.1).mono ?_);rintro e w4 ⟨A1,C1,rfl,r1,u1⟩;have H4:=Aj r1 u1 (H3.1.trans u1);clear r1 u1;go_wp2_with fail
 (with_reducible refine (Rk.out w4 H4.out.2.2).mono ?_);rintro e w5 ⟨A2,C2,rfl,r2,u2⟩;have hfl:=Df l;obtain ⟨n,hn⟩:=AO ((BH l).length);have hml:((BH l).map En).length=n:=by rw [List.length_map];exact hn
 have H5:=Aj r2 u2 (H4.2.2.trans u2);rw [hn] at H4 H5 hfl ⊢;have HN:=Aj hn hml hfl;have hnl:(n:Int)<100000:=Ac HL;clear r2 u2 hn hml hfl;have hA:∃w6:World,w6=w5.alloc (.cells #[.slice A1 n C1,.slice A2 n C2] 149):=⟨_,rfl⟩;obtain ⟨w6,hw6⟩:=hA;obtain ⟨q,hq⟩:=AO w5.heap.size;have h6:w6.heap[q]? = some (.cells #[.slice A1 n C1,.slice A2 n C2] 149 (0,0)):=by rw [hw6,←hq];exact heap_alloc_new _ _
 have Ol:Bf [] w5 w6:=by rw [hw6];exact (Bf.refl _ _).alloc _
 have H6:=Aj h6 Ol (H5.2.2.trans Ol);have HQ:=AQ hq;have HW6:=AQ hw6;clear h6 Ol hw6;go_wp2_with fail
 rw [←HW6.out];refine (wpIn_wide (n:=9)).1 ?_
 refine wpIn_loop_rounds 3 ?_
 rw [roundsIn_succ];refine wpIn_wide.2 ?_
 have c0:w6.cell? ⟨q,0,none⟩=some (.slice A1 n C1):=by have:=H6.1;simp [World.cell?,this]
 go_wp2_with fail
 (with_reducible refine (nU A1 n C1 w6).mono ?_);rintro e w7 ⟨rfl,hw7⟩;clear c0;obtain ⟨p6,uw⟩:=AO w6.heap.size;rw [uw];have hc7:w7.cell? ⟨p6,0,none⟩=some (.slice A1 n C1):=by rw [hw7,World.cell?_alloc_at _ _ _ _ uw.symm];rfl
 have Oo:Bf [] w6 w7:=by rw [hw7];exact (Bf.refl _ _).alloc _
 have hz7:p2+3≤p6∧p6<w7.heap.size∧q<w7.heap.size:=by
  have h1:=H4.2.1.size;have h2:=H5.2.1.size;have h3:=H6.2.1.size;have h4:=H3.2.1;have h5:=lt_of_block H6.1;have h6:=Oo.size;have h7:=World.block_lt_of_cell? w7 _ hc7;exact ⟨by omega,h7,by omega⟩
 have hr7:EO.row w7 (p2+3) (.slice A1 (BH l).length C1) (BH l):=by
  rw [HN.1];exact own_base (Bg H4.1 (H5.2.1.trans (H6.2.1.trans Oo)) (by simp)) (by rw [H3.2.1];exact Nat.le_refl _)
 have hq7:Qi Tryz.prog 167 #[.pointer (some ⟨p6,0,none⟩)] encS (Full (BH l)) (Legal (BH l)) (p2+3) w7:=
  zG A1 C1 (BH l) w7 p6 (p2+3) (by rw [HN.1];exact hc7) hz7.1 hr7 (by rw [HN.1];have:=HN.2.2;have:=HL.out;omega) (FQ HB.out) (Hf l)
 have hI7:Uj w7 (p2+1) (p2+1+1) 0 0 w7:=by
  have a8x:Bf [] w3 w7:=H4.2.1.trans (H5.2.1.trans (H6.2.1.trans Oo));exact ⟨(show Dy w3 (p2+1) 0 from H3.2.2.2.1).Bh a8x,(a8x.block _ (lt_of_block H3.2.2.2.2) (by simp)).trans H3.2.2.2.2,Bf.refl _ _⟩
 have H7:=Ap Oo hz7 hq7 hI7;clear hw7 uw hc7 Oo hz7 hr7 hq7 hI7;go_wp2_with fail
 refine (wpIn_wide (n:=7+2)).1 ?_
 refine Ik (n:=7) (gf:=167) (lb:=#[.pointer (some ⟨p6,0,none⟩)]) rfl (enters_of Tryz.func167 (by kernel_rfl) rfl) (B:=p2+3) (Ac H7.2.1) H7.2.2.1 (fun _=>rfl)
  (fun pre W=>Uj w7 (p2+1) (p2+1+1) (0+Hr pre) (0+Ht pre) W) (fun s C D h hb=>h.below (Ac H7.2.1) (Ac H7.2.1) hb) H7.2.2.2 ?round ?done
 case round=>
  rintro rid pre ⟨R,LG,E⟩ W hI zJ hsz;have HI:=Aj hI zJ hsz;clear hI zJ hsz hnl;simp only [encS];gi_wp2
  refine ⟨Beyond.of ((Bf.refl _ _).alloc _),?_⟩
  rintro W2 ⟨o,hW2⟩;have hsz:=HI.2.2
  have hst:W2.heap[W.heap.size]? = some (.cells #[.int .i64 (R:Int),.int .u64 (LG:Int),.int .i64 (E:Int)] 156 (0,0)):=by
   rw [hW2];exact (World.putObj_heap_other (by omega)).trans (heap_alloc_new _ _)
  have hi2:Uj w7 (p2+1) (p2+1+1) (0+Hr pre) (0+Ht pre) W2:=by
   rw [hW2];exact (HI.1.upd ((Bf.refl _ _).alloc _)).below (Ac H7.2.1) (Ac H7.2.1) (Gq _ _ (by omega))
  have hsb:p2+3≤W.heap.size:=Ac H7.2.1;obtain ⟨s,hs⟩:=AO W.heap.size;rw [hs] at hst hsb;rw [hs];clear hW2;have hmem:=(HI.2.1.mem (FQ HB.out) (by have:=Df l;have:=HL.out;omega)) (R,LG,E) (by simp);have htot:=HI.2.1.tot (FQ HB.out) (by have:=Df l;have:=HL.out;omega);rw [Kz,KA] at htot;dsimp only at hmem htot;have htl:=show BQ (Dv (BG (BH l))) (BF (BH l))≤100000000 from by have h1:=Jo (Dv (BG (BH l))) (Gn (FQ HB.out) (by have:=Df l;have:=HL.out;omega)).len (BF (BH l));have h2:=Ea (BH l);have h3:=Df l;have h4:=HL.out;omega
  obtain ⟨a,ha⟩:=AO (0+Hr pre);obtain ⟨en,he⟩:=AO (0+Ht pre);rw [ha,he] at hi2;have hml:=fun w=>nT LG (2*R) hmem.2.1 (by omega) w
  obtain ⟨M,hM⟩:=AO (LG*(2*R));rw [hM] at hml htot;have hwm:Jk (a+M):=(show Jk ((Ep (BH l)).toNat) from ((a5p (FQ HB.out) (by have:=Df l;have:=HL.out;omega)))).mono (by rw [←ha,Nat.zero_add];exact htot.1);have had:=fun w=>fK a M hwm w
  obtain ⟨h,hh⟩:=AO (a / 18446744073709551616);obtain ⟨lo,hlo⟩:=AO (a % 18446744073709551616);obtain ⟨h2,hh2⟩:∃h,(a+M) / 18446744073709551616=h:=⟨_,rfl⟩;obtain ⟨lo2,hlo2⟩:∃lo,(a+M) % 18446744073709551616=lo:=⟨_,rfl⟩;obtain ⟨mh,zC⟩:∃h,M / 18446744073709551616=h:=⟨_,rfl⟩;obtain ⟨ml,Ya⟩:∃lo,M % 18446744073709551616=lo:=⟨_,rfl⟩;unfold ED at had hml;simp only [hh,hlo,hh2,hlo2,zC,Ya] at had hml;have hnew:0+Hr (pre++[(R,LG,E)])=a+M∧0+Ht (pre++[(R,LG,E)])=en+E:=by rw [Kz,KA];dsimp only;omega
  have qw:(en:Int)+(E:Int)<100000000000:=by omega
  have hRb:(R:Int)≤200000:=by omega
  obtain ⟨R2,hR2⟩:=AO (2*R);rw [hR2] at hml;have HS:=Ap hi2 hst hsb hnew;have kR:=AQ hml;have Z4:=AQ had;have HV:=Ap hh hlo hh2 hlo2;have HBD:=Aj qw hRb hR2;have HAE:=Ai ha he;clear hwm hsz hst hi2 hsb hs hmem htot htl hml had hh hlo hh2 hlo2 zC Ya hnew qw hRb ha he hM hR2;refine wpIn_block ?_
  refine wpIn_seq ?_
  obtain ⟨Wd,hWd⟩:∃Wd,Wd=W2.drew:=⟨_,rfl⟩;have hud:Bf [] W2 Wd:=by rw [hWd];exact (Bf.refl _ _).drew
  have kW:=Ai (HS.1.upd hud) ((hud.block s (lt_of_block HS.2.1) (by simp)).trans HS.2.1);have HUd:=AQ hud
  have zI:Wd.cell? ⟨p2+1,0,none⟩=some (.int .u64 (h:Int))∧Wd.cell? ⟨p2+1,1,none⟩=some (.int .u64 (lo:Int))∧Wd.cell? ⟨s,0,none⟩=some (.int .i64 (R:Int))∧Wd.cell? ⟨s,1,none⟩=some (.int .u64 (LG:Int)):=by
   obtain ⟨z0,z1,-⟩:=kW.1.sum.cells;rw [HV.1] at z0;rw [HV.2.1] at z1;exact ⟨z0,z1,by simp [World.cell?,kW.2],by simp [World.cell?,kW.2]⟩
  have zI:=AQ zI;clear hud;have hcv:IntKind.u64.wrap (R:Int)=(R:Int):=by have:=HBD.2.1;rw [JM];omega
  have hm2:IntKind.u64.wrap (2*(R:Int))=(R2:Int):=by have:=HBD.2.1;have:=HBD.2.2;rw [JM];omega
  refine Bj.Wp [8,9,10,11,12] (fun w'=>w'.cell? ⟨p2+1,0,none⟩=some (.int .u64 (h:Int))∧w'.cell? ⟨p2+1,1,none⟩=some (.int .u64 (lo:Int))∧w'.cell? ⟨s,0,none⟩=some (.int .i64 (R:Int))∧w'.cell? ⟨s,1,none⟩=some (.int .u64 (LG:Int))) (by kernel_rfl) (by kernel_rfl) ?hq ?_ fun hS=>?_
  case hq=>rintro ⟨_,_,h⟩;exact h
  ·exact by rw [←hWd];exact zI.out
  rw [←hWd] at hS ⊢;clear hWd;refine' Bj.tl 6 0 (oi:=⟨some 23,_,_,_,_,_⟩) ?_
  simp only [Act.put,sA,sZ,sS];refine' Bj.mw 1 (oi:=⟨some 24,_,_,_,_,_⟩) ?_
  simp only [Act.put,sA,sZ,sS];refine' Bj.tl 6 2 (oi:=⟨some 25,_,_,_,_,_⟩) ?_
  simp only [Act.put,sA,sZ,sS];refine' Bj.mw 3 (oi:=⟨some 26,_,_,_,_,_⟩) ?_
  simp only [Act.put,sA,sZ,sS];refine' Bj.tl 6 4 (oi:=⟨some 27,_,_,_,_,_⟩) ?_
  simp only [Act.put,sA,sZ,sS];refine' Bj.mw 5 (oi:=⟨some 28,_,_,_,_,_⟩) ?_
  simp only [Act.put,sA,sZ,sS];refine' Bj.mw 6 (oi:=⟨some 29,_,_,_,_,_⟩) ?_
  simp only [Act.put,sA,sZ,sS];refine Bj.one (i:=7) (o:=⟨some 30,_,_,_,_,_⟩) rfl (by kernel_rfl) fun K hK=>?_
  go_simp
  go_at_call 96
  (with_reducible refine (kR.out _).mono ?_);rintro e w5 ⟨rfl,GR⟩;refine hK.out _ _ (fun _ h=>?_) ?_
  ·exact MF h GR
  clear hK K;try simp only [Act.put,sA,sZ,sS]
  have LJ:=AQ GR;clear GR;refine Bj.one (i:=8) (o:=⟨some 31,_,_,_,_,_⟩) rfl (by kernel_rfl) fun K hK=>?_
  go_simp
  go_at_call 44
  (with_reducible refine (Z4.out _).mono ?_);rintro e w6 ⟨rfl,Ol⟩;refine hK.out _ _ (fun h=>(by cases h)) ?_
  clear hK K;try simp only [Act.put,sA,sZ,sS]
  have Jv:=AQ (LJ.out.trans Ol);have hsm:=kW.1.sum.Bh Jv.out;obtain ⟨z0,z1,zf⟩:=hsm.cells;have zf0:=zf 0;have zf1:=zf 1;have xQ:=AQ hsm;clear Ol zf hsm;refine' Bj.mw 9 (oi:=⟨some 22,_,_,_,_,_⟩) ?_
  simp only [Act.put,sA,sZ,sS];refine' Bj.mw 10 (oi:=⟨some 32,_,_,_,_,_⟩) ?_
  simp only [Act.put,sA,sZ,sS];refine' Bj.mw 11 (oi:=⟨some 33,_,_,_,_,_⟩) ?_
  simp only [Act.put,sA,sZ,sS];refine Bj.one (i:=12) (o:=⟨none,_,_,_,_,_⟩) rfl (by kernel_rfl) fun K hK=>?_
  go_simp
  refine hK.out _ _ (fun h=>(by cases h)) ?_
  clear hK K;try simp only [Act.put,sA,sZ,sS]
  refine Bj.done (by kernel_rfl) ?_
  clear hcv hm2;have aH:=AQ (xQ.out.set HV.2.2.1.symm HV.2.2.2.symm);have hpu:Bf [p2+1] w6 ((w6.setCell ⟨p2+1,0,none⟩ (.int .u64 h2)).setCell ⟨p2+1,1,none⟩ (.int .u64 lo2)):=((Bf.refl _ _).setCell (.inl (by simp)) _).setCell (.inl (by simp)) _;have hi6:=kW.1.upd Jv.out;have Yv:=(Jv.out.block s (lt_of_block kW.2) (by simp)).trans kW.2;have gu:=(hpu.block s (lt_of_block Yv) (by have:=HS.2.2.1;simp;omega)).trans Yv;have zK:=(hpu.block (p2+1+1) (lt_of_block hi6.ent) (by simp)).trans hi6.ent;have V3:=Ap (hi6.up.trans (hpu.mono (by simp))) gu zK ((HUd.out.trans Jv.out).mono (G:=[p2+1]) (by simp) |>.trans hpu);clear z0 z1 zf0 zf1 hpu hi6 Yv gu zK;generalize ((w6.setCell ⟨p2+1,0,none⟩ (.int .u64 h2)).setCell ⟨p2+1,1,none⟩ (.int .u64 lo2))=W9 at aH V3 ⊢;have x5:W9.cell? ⟨p2+1+1,0,none⟩=some (.int .i64 (en:Int)):=by simp [World.cell?,V3.2.2.1]
  have f5:W9.frozen? ⟨p2+1+1,0,none⟩=false:=by simp [World.frozen?,V3.2.2.1]
  have xs:W9.cell? ⟨s,2,none⟩=some (.int .i64 (E:Int)):=by simp [World.cell?,V3.2.1]
  have hwE:IntKind.i64.wrap ((en:Int)+(E:Int))=((en+E:Nat):Int):=by have:=HBD.1;rw [IntWalk.i64_in _ ⟨by omega,by omega⟩];omega
  gi_wp2
  have hus:Bf [p2+1+1] W9 (W9.setCell ⟨p2+1+1,0,none⟩ (.int .i64 ((en+E:Nat):Int))):=(Bf.refl _ _).setCell (.inl (by simp)) _;show Beyond (p2+3) W2 _∧Uj w7 (p2+1) (p2+1+1) (0+Hr (pre++[(R,LG,E)])) (0+Ht (pre++[(R,LG,E)])) _
  rw [HS.2.2.2.1,HS.2.2.2.2];exact ⟨(Beyond.refl _ _).upd V3.2.2.2 (by simp) |>.upd hus (by simp),⟨aH.out.upd hus (by simp),by have:=heap_set V3.2.2.1 0 (.int .i64 ((en+E:Nat):Int));exact this,V3.1.trans (hus.mono (by simp))⟩⟩
 case done=>
  rintro D1 xs1 W hD1 hS1 hI1 hK1;rw [Jq (FQ HB.out) (by have:=Df l;have:=HL.out;omega) hS1,Jr hS1,Wn l,EL (NP l),Nat.zero_add,Nat.zero_add] at hI1;obtain ⟨a1,ha1⟩:∃a,(Ep l).toNat=a:=⟨_,rfl⟩;obtain ⟨e1,he1⟩:∃e,BQ (Dv (BG l)) (BF l)=e:=⟨_,rfl⟩;rw [ha1,he1] at hI1
  have c1:W.cell? ⟨q,1,none⟩=some (.slice A2 n C2):=by
   have h1:=(H7.1.block q (lt_of_block H6.1) (by simp)).trans H6.1;have h2:=(hI1.up.block q H7.2.1.2.2 (by have h1:=H3.2.1;have h2:=H4.2.1.size;have h3:=H5.2.1.size;have h4:=HQ.out;simp;omega)).trans h1;simp [World.cell?,h2]
  have HA1:=Ai ha1 he1;have HI1:=Aj hI1 hK1 hD1;clear hD1 hS1 hI1 hK1 ha1 he1;go_wp2_with fail
  rw [roundsIn_succ];refine wpIn_wide.2 ?_
  go_wp2_with fail
  (with_reducible refine (nU A2 n C2 W).mono ?_);rintro e w9 ⟨rfl,hw9⟩;clear c1;obtain ⟨p9,hp9⟩:=AO W.heap.size;rw [hp9];have hc9:w9.cell? ⟨p9,0,none⟩=some (.slice A2 n C2):=by rw [hw9,World.cell?_alloc_at _ _ _ _ hp9.symm];rfl
  have aY:Bf [] W w9:=by rw [hw9];exact (Bf.refl _ _).alloc _
  have hz9:p2+3≤p9∧p9<w9.heap.size∧w7.heap.size≤p9:=by
   have h1:=HI1.1.up.size;have h2:=H7.2.1;exact ⟨by omega,World.block_lt_of_cell? w9 _ hc9,by omega⟩
  have hr9:EO.row w9 (p2+3) (.slice A2 (BH (l.map En)).length C2) (BH (l.map En)):=by
   rw [←Uh,HN.2.1];have h1:=Bg H5.1 (H6.2.1.trans H7.1) (by simp);have hge:=BD H5.1;have h2:=Bg h1 HI1.1.up (fun k hk hc=>by have:=hge k hk;have h3:=H3.2.1;have h4:=H4.2.1.size;simp at hc;omega);exact own_base (Bg h2 aY (by simp)) (by have h3:=H3.2.1;have h4:=H4.2.1.size;omega)
  have hn2:(BH (l.map En)).length=n:=by rw [←Uh];exact HN.2.1
  have hq9:Qi Tryz.prog 167 #[.pointer (some ⟨p9,0,none⟩)] encS (Full (BH (l.map En))) (Legal (BH (l.map En))) (p2+3) w9:=
   zG A2 C2 (BH (l.map En)) w9 p9 (p2+3) (by rw [hn2];exact hc9) hz9.1 hr9 (by rw [hn2];have:=HN.2.2;have:=HL.out;omega) (FQ (MW HB.out)) (Hf _)
  have hI9:Uj w9 (p2+1) (p2+1+1) (a1+Hr []) (e1+Ht []) w9:=⟨HI1.1.sum.Bh aY,(aY.block _ (lt_of_block HI1.1.ent) (by simp)).trans HI1.1.ent,Bf.refl _ _⟩;have H9:=Ap aY (show p2+3≤p9∧p9<w9.heap.size∧w7.heap.size≤p9 from hz9) hq9 hI9;clear hw9 hp9 hc9 aY hz9 hr9 hq9 hI9 hn2;go_wp2_with fail
  refine (wpIn_wide (n:=7+2)).1 ?_
  refine Ik (n:=7) (gf:=167) (lb:=#[.pointer (some ⟨p9,0,none⟩)]) rfl (enters_of Tryz.func167 (by kernel_rfl) rfl) (B:=p2+3) (Ac H9.2.1) H9.2.2.1 (fun _=>rfl)
   (fun pre W=>Uj w9 (p2+1) (p2+1+1) (a1+Hr pre) (e1+Ht pre) W) (fun s C D h hb=>h.below (Ac H9.2.1) (Ac H9.2.1) hb) H9.2.2.2 ?round ?done
  case round=>
   rintro rid pre ⟨R,LG,E⟩ W hI zJ hsz;have HI:=Aj hI zJ hsz;clear hI zJ hsz hnl;simp only [encS];gi_wp2
   refine ⟨Beyond.of ((Bf.refl _ _).alloc _),?_⟩
   rintro W2 ⟨o,hW2⟩;have hsz:=HI.2.2
   have hst:W2.heap[W.heap.size]? = some (.cells #[.int .i64 (R:Int),.int .u64 (LG:Int),.int .i64 (E:Int)] 156 (0,0)):=by
    rw [hW2];exact (World.putObj_heap_other (by omega)).trans (heap_alloc_new _ _)
   have hi2:Uj w9 (p2+1) (p2+1+1) (a1+Hr pre) (e1+Ht pre) W2:=by
    rw [hW2];exact (HI.1.upd ((Bf.refl _ _).alloc _)).below (Ac H9.2.1) (Ac H9.2.1) (Gq _ _ (by omega))
   have hsb:p2+3≤W.heap.size:=Ac H9.2.1;obtain ⟨s,hs⟩:=AO W.heap.size;rw [hs] at hst hsb;rw [hs];clear hW2;have hmem:=(HI.2.1.mem (FQ (MW HB.out)) (by have:=Df (l.map En);rw [List.length_map] at this;have:=HL.out;omega)) (R,LG,E) (by simp);have htot:=HI.2.1.tot (FQ (MW HB.out)) (by have:=Df (l.map En);rw [List.length_map] at this;have:=HL.out;omega);rw [Kz,KA] at htot;dsimp only at hmem htot;have htl:=show BQ (Dv (BG (BH (l.map En)))) (BF (BH (l.map En)))≤100000000 from by have h1:=Jo (Dv (BG (BH (l.map En)))) (Gn (FQ (MW HB.out)) (by have:=Df (l.map En);rw [List.length_map] at this;have:=HL.out;omega)).len (BF (BH (l.map En)));have h2:=Ea (BH (l.map En));have h3:=Df (l.map En);rw [List.length_map] at h3;have h4:=HL.out;omega
   obtain ⟨a,ha⟩:=AO (a1+Hr pre);obtain ⟨en,he⟩:=AO (e1+Ht pre);rw [ha,he] at hi2;have hml:=fun w=>nT LG (2*R) hmem.2.1 (by omega) w
   obtain ⟨M,hM⟩:=AO (LG*(2*R));rw [hM] at hml htot;have hwm:Jk (a+M):=(show Jk (DU l).toNat from kN HB.out HL.out).mono (by rw [←ha,←HA1.1,Yc];have h1:=htot.1;rw [EL (NP (l.map En))] at h1;rw [Nat.add_assoc];exact Nat.add_le_add_left h1 _);have had:=fun w=>fK a M hwm w
   obtain ⟨h,hh⟩:=AO (a / 18446744073709551616);obtain ⟨lo,hlo⟩:=AO (a % 18446744073709551616);obtain ⟨h2,hh2⟩:∃h,(a+M) / 18446744073709551616=h:=⟨_,rfl⟩;obtain ⟨lo2,hlo2⟩:∃lo,(a+M) % 18446744073709551616=lo:=⟨_,rfl⟩;obtain ⟨mh,zC⟩:∃h,M / 18446744073709551616=h:=⟨_,rfl⟩;obtain ⟨ml,Ya⟩:∃lo,M % 18446744073709551616=lo:=⟨_,rfl⟩;unfold ED at had hml;simp only [hh,hlo,hh2,hlo2,zC,Ya] at had hml;have hnew:a1+Hr (pre++[(R,LG,E)])=a+M∧e1+Ht (pre++[(R,LG,E)])=en+E:=by rw [Kz,KA];dsimp only;omega
   have he1:e1≤100000000:=by rw [←HA1.2];have h1:=Jo (Dv (BG l)) (Gn HB.out HL.out).len (BF l);have h2:=Ea l;have h4:=HL.out;omega
   have qw:(en:Int)+(E:Int)<100000000000:=by omega
   have hRb:(R:Int)≤200000:=by omega
   obtain ⟨R2,hR2⟩:=AO (2*R);rw [hR2] at hml;have HS:=Ap hi2 hst hsb hnew;have kR:=AQ hml;have Z4:=AQ had;have HV:=Ap hh hlo hh2 hlo2;have HBD:=Aj qw hRb hR2;have HAE:=Ai ha he;clear he1 hwm hsz hst hi2 hsb hs hmem htot htl hml had hh hlo hh2 hlo2 zC Ya hnew qw hRb ha he hM hR2;refine wpIn_block ?_
   refine wpIn_seq ?_
   obtain ⟨Wd,hWd⟩:∃Wd,Wd=W2.drew:=⟨_,rfl⟩;have hud:Bf [] W2 Wd:=by rw [hWd];exact (Bf.refl _ _).drew
   have kW:=Ai (HS.1.upd hud) ((hud.block s (lt_of_block HS.2.1) (by simp)).trans HS.2.1);have HUd:=AQ hud
   have zI:Wd.cell? ⟨p2+1,0,none⟩=some (.int .u64 (h:Int))∧Wd.cell? ⟨p2+1,1,none⟩=some (.int .u64 (lo:Int))∧Wd.cell? ⟨s,0,none⟩=some (.int .i64 (R:Int))∧Wd.cell? ⟨s,1,none⟩=some (.int .u64 (LG:Int)):=by
    obtain ⟨z0,z1,-⟩:=kW.1.sum.cells;rw [HV.1] at z0;rw [HV.2.1] at z1;exact ⟨z0,z1,by simp [World.cell?,kW.2],by simp [World.cell?,kW.2]⟩
   have zI:=AQ zI;clear hud;have hcv:IntKind.u64.wrap (R:Int)=(R:Int):=by have:=HBD.2.1;rw [JM];omega
   have hm2:IntKind.u64.wrap (2*(R:Int))=(R2:Int):=by have:=HBD.2.1;have:=HBD.2.2;rw [JM];omega
   refine Bj.Wp [8,9,10,11,12] (fun w'=>w'.cell? ⟨p2+1,0,none⟩=some (.int .u64 (h:Int))∧w'.cell? ⟨p2+1,1,none⟩=some (.int .u64 (lo:Int))∧w'.cell? ⟨s,0,none⟩=some (.int .i64 (R:Int))∧w'.cell? ⟨s,1,none⟩=some (.int .u64 (LG:Int))) (by kernel_rfl) (by kernel_rfl) ?hq ?_ fun hS=>?_
   case hq=>rintro ⟨_,_,h⟩;exact h
   ·exact by rw [←hWd];exact zI.out
   rw [←hWd] at hS ⊢;clear hWd;refine' Bj.tl 6 0 (oi:=⟨some 23,_,_,_,_,_⟩) ?_
   simp only [Act.put,sA,sZ,sS];refine' Bj.mw 1 (oi:=⟨some 24,_,_,_,_,_⟩) ?_
   simp only [Act.put,sA,sZ,sS];refine' Bj.tl 6 2 (oi:=⟨some 25,_,_,_,_,_⟩) ?_
   simp only [Act.put,sA,sZ,sS];refine' Bj.mw 3 (oi:=⟨some 26,_,_,_,_,_⟩) ?_
   simp only [Act.put,sA,sZ,sS];refine' Bj.tl 6 4 (oi:=⟨some 27,_,_,_,_,_⟩) ?_
   simp only [Act.put,sA,sZ,sS];refine' Bj.mw 5 (oi:=⟨some 28,_,_,_,_,_⟩) ?_
   simp only [Act.put,sA,sZ,sS];refine' Bj.mw 6 (oi:=⟨some 29,_,_,_,_,_⟩) ?_
   simp only [Act.put,sA,sZ,sS];refine Bj.one (i:=7) (o:=⟨some 30,_,_,_,_,_⟩) rfl (by kernel_rfl) fun K hK=>?_
   go_simp
   go_at_call 96
   (with_reducible refine (kR.out _).mono ?_);rintro e w5 ⟨rfl,GR⟩;refine hK.out _ _ (fun _ h=>?_) ?_
   ·exact MF h GR
   clear hK K;try simp only [Act.put,sA,sZ,sS]
   have LJ:=AQ GR;clear GR;refine Bj.one (i:=8) (o:=⟨some 31,_,_,_,_,_⟩) rfl (by kernel_rfl) fun K hK=>?_
   go_simp
   go_at_call 44
   (with_reducible refine (Z4.out _).mono ?_);rintro e w6 ⟨rfl,Ol⟩;refine hK.out _ _ (fun h=>(by cases h)) ?_
   clear hK K;try simp only [Act.put,sA,sZ,sS]
   have Jv:=AQ (LJ.out.trans Ol);have hsm:=kW.1.sum.Bh Jv.out;obtain ⟨z0,z1,zf⟩:=hsm.cells;have zf0:=zf 0;have zf1:=zf 1;have xQ:=AQ hsm;clear Ol zf hsm;refine' Bj.mw 9 (oi:=⟨some 22,_,_,_,_,_⟩) ?_
   simp only [Act.put,sA,sZ,sS];refine' Bj.mw 10 (oi:=⟨some 32,_,_,_,_,_⟩) ?_
   simp only [Act.put,sA,sZ,sS];refine' Bj.mw 11 (oi:=⟨some 33,_,_,_,_,_⟩) ?_
   simp only [Act.put,sA,sZ,sS];refine Bj.one (i:=12) (o:=⟨none,_,_,_,_,_⟩) rfl (by kernel_rfl) fun K hK=>?_
   go_simp
   refine hK.out _ _ (fun h=>(by cases h)) ?_
   clear hK K;try simp only [Act.put,sA,sZ,sS]
   refine Bj.done (by kernel_rfl) ?_
   clear hcv hm2;have aH:=AQ (xQ.out.set HV.2.2.1.symm HV.2.2.2.symm);have hpu:Bf [p2+1] w6 ((w6.setCell ⟨p2+1,0,none⟩ (.int .u64 h2)).setCell ⟨p2+1,1,none⟩ (.int .u64 lo2)):=((Bf.refl _ _).setCell (.inl (by simp)) _).setCell (.inl (by simp)) _;have hi6:=kW.1.upd Jv.out;have Yv:=(Jv.out.block s (lt_of_block kW.2) (by simp)).trans kW.2;have gu:=(hpu.block s (lt_of_block Yv) (by have:=HS.2.2.1;simp;omega)).trans Yv;have zK:=(hpu.block (p2+1+1) (lt_of_block hi6.ent) (by simp)).trans hi6.ent;have V3:=Ap (hi6.up.trans (hpu.mono (by simp))) gu zK ((HUd.out.trans Jv.out).mono (G:=[p2+1]) (by simp) |>.trans hpu);clear z0 z1 zf0 zf1 hpu hi6 Yv gu zK;generalize ((w6.setCell ⟨p2+1,0,none⟩ (.int .u64 h2)).setCell ⟨p2+1,1,none⟩ (.int .u64 lo2))=W9 at aH V3 ⊢;have x5:W9.cell? ⟨p2+1+1,0,none⟩=some (.int .i64 (en:Int)):=by simp [World.cell?,V3.2.2.1]
   have f5:W9.frozen? ⟨p2+1+1,0,none⟩=false:=by simp [World.frozen?,V3.2.2.1]
   have xs:W9.cell? ⟨s,2,none⟩=some (.int .i64 (E:Int)):=by simp [World.cell?,V3.2.1]
   have hwE:IntKind.i64.wrap ((en:Int)+(E:Int))=((en+E:Nat):Int):=by have:=HBD.1;rw [IntWalk.i64_in _ ⟨by omega,by omega⟩];omega
   gi_wp2
   have hus:Bf [p2+1+1] W9 (W9.setCell ⟨p2+1+1,0,none⟩ (.int .i64 ((en+E:Nat):Int))):=(Bf.refl _ _).setCell (.inl (by simp)) _;show Beyond (p2+3) W2 _∧Uj w9 (p2+1) (p2+1+1) (a1+Hr (pre++[(R,LG,E)])) (e1+Ht (pre++[(R,LG,E)])) _
   rw [HS.2.2.2.1,HS.2.2.2.2];exact ⟨(Beyond.refl _ _).upd V3.2.2.2 (by simp) |>.upd hus (by simp),⟨aH.out.upd hus (by simp),by have:=heap_set V3.2.2.1 0 (.int .i64 ((en+E:Nat):Int));exact this,V3.1.trans (hus.mono (by simp))⟩⟩
  case done=>
   rintro D2 xs2 W2 hD2 hS2 hI2 hK2;rw [Jq (FQ (MW HB.out)) (by have:=Df (l.map En);rw [List.length_map] at this;have:=HL.out;omega) hS2,Jr hS2,Wn (l.map En),EL (NP (l.map En))] at hI2;have hsum:a1+(Ep (l.map En)).toNat=(DU l).toNat:=by rw [←HA1.1,Yc]
   have hent:e1+BQ (Dv (BG (l.map En))) (BF (l.map En))=Yx l:=by rw [←HA1.2];rfl
   rw [hsum,hent] at hI2;obtain ⟨AA,hAA⟩:∃a,(DU l).toNat=a:=⟨_,rfl⟩;obtain ⟨EE,hEE⟩:∃e,Yx l=e:=⟨_,rfl⟩;rw [hAA,hEE] at hI2;have hb2:∀k,k<W.heap.size→k≠p2+1→k≠p2+1+1→W2.heap[k]? = W.heap[k]?:=fun k h1 h2 h3=>(hI2.up.block k (by have:=H9.1.size;omega) (by simp;omega)).trans (H9.1.block k h1 (by simp))
   have hd1:=(hb2 D1 (lt_of_block HI1.2.1) (Ad HI1.2.2 H7.2.1) (Ad HI1.2.2 H7.2.1)).trans HI1.2.1;have hu2:Bf [p2+1,p2+1+1] w3 W2:=((((H4.2.1.trans (H5.2.1.trans (H6.2.1.trans H7.1))).mono (by simp)).trans HI1.1.up).trans (H9.1.mono (by simp))).trans hI2.up;have hp2':=(hu2.block p2 (lt_of_block H3.2.2.1) (by simp;omega)).trans H3.2.2.1;obtain ⟨h,hh⟩:=AO (AA / 18446744073709551616);obtain ⟨lo,hlo⟩:=AO (AA % 18446744073709551616);have hdd:D1≠D2∧p2+3≤D1∧p2+3≤D2:=by have h1:=lt_of_block HI1.2.1;have h2:=HI1.2.2;have h3:=H9.1.size;have h4:=H7.2.1;have h5:=H9.2.1;exact ⟨by omega,by omega,by omega⟩
   have HF:=Az hI2 hK2 hd1 hu2 hp2' hh hlo hdd;have HAE:=Ai hAA hEE;clear hD2 hS2 hI2 hK2 hsum hent hAA hEE hb2 hd1 hu2 hp2' hh hlo hdd;go_wp2_with fail
   rw [roundsIn_succ];refine wpIn_wide.2 ?_
   go_wp2_with fail
   obtain ⟨Wd,hWd⟩:∃Wd,Wd=W2.drew:=⟨_,rfl⟩;have hud:Bf [] W2 Wd:=by rw [hWd];exact (Bf.refl _ _).drew
   have hId:=HF.1.upd hud
   have hSd:Wd.cell? ⟨p2+1,0,none⟩=some (.int .u64 (h:Int))∧Wd.cell? ⟨p2+1,1,none⟩=some (.int .u64 (lo:Int))∧Wd.cell? ⟨p2+1+1,0,none⟩=some (.int .i64 (EE:Int))∧Wd.cell? ⟨p2+1+1,0,none⟩=some (.int .i64 (EE:Int)):=by
    obtain ⟨z0,z1,-⟩:=hId.sum.cells;rw [HF.2.2.2.2.2.1] at z0;rw [HF.2.2.2.2.2.2.1] at z1;exact ⟨z0,z1,by simp [World.cell?,hId.ent],by simp [World.cell?,hId.ent]⟩
   have zI:=AQ hSd;have hk2:=(hud.block D2 (lt_of_block HF.2.1) (by simp)).trans HF.2.1;have hk1:=(hud.block D1 (lt_of_block HF.2.2.1) (by simp)).trans HF.2.2.1;have hpp:=(hud.block p2 (lt_of_block HF.2.2.2.2.1) (by simp)).trans HF.2.2.2.2.1;have HD:=Ap hk2 hk1 hpp (HF.2.2.2.1.trans (hud.mono (by simp)));clear hud hId hSd hk2 hk1 hpp;refine wp_region_noPanic ?_
   refine Bj.start [3] (fun w'=>w'.cell? ⟨p2+1,0,none⟩=some (.int .u64 (h:Int))∧w'.cell? ⟨p2+1,1,none⟩=some (.int .u64 (lo:Int))∧w'.cell? ⟨p2+1+1,0,none⟩=some (.int .i64 (EE:Int))∧w'.cell? ⟨p2+1+1,0,none⟩=some (.int .i64 (EE:Int))) (by kernel_rfl) ?_ fun hS=>?_
   ·exact by rw [←hWd];exact zI.out
   rw [←hWd] at hS ⊢;clear hWd;refine' Bj.tl 1 0 (oi:=⟨some 39,_,_,_,_,_⟩) ?_
   simp only [Act.put,sA,sZ,sS];refine' Bj.tl 1 1 (oi:=⟨some 40,_,_,_,_,_⟩) ?_
   simp only [Act.put,sA,sZ,sS];refine Bj.one (i:=2) (o:=⟨none,_,_,_,_,_⟩) rfl (by kernel_rfl) fun K hK=>?_
   have z0:Wd.cell? ⟨p2,0,none⟩=some (.int .u64 0):=by simp [World.cell?,HD.2.2.1]
   have z1:Wd.cell? ⟨p2,1,none⟩=some (.int .u64 0):=by simp [World.cell?,HD.2.2.1]
   have zf0:Wd.frozen? ⟨p2,0,none⟩=false:=by simp [World.frozen?,HD.2.2.1]
   have zf1:Wd.frozen? ⟨p2,1,none⟩=false:=by simp [World.frozen?,HD.2.2.1]
   go_simp
   refine hK.out _ _ (fun _ h=>?_) ?_
   ·exact a5q h (((Bf.refl [p2] _).setCell (.inl (by simp)) _).setCell (.inl (by simp)) _) (fun hc=>by have:=List.mem_singleton.1 hc;dsimp only at this;omega) (fun hc=>by have:=List.mem_singleton.1 hc;dsimp only at this;omega) (fun hc=>by have:=List.mem_singleton.1 hc;dsimp only at this;omega) (fun hc=>by have:=List.mem_singleton.1 hc;dsimp only at this;omega)
   clear hK K;try simp only [Act.put,sA,sZ,sS]
   clear z0 z1 zf0 zf1;refine' Bj.mw 3 (oi:=⟨some 3,_,_,_,_,_⟩) ?_
   simp only [Act.put,sA,sZ,sS];refine Bj.done (by kernel_rfl) ?_
   have hpu:Bf [p2] Wd ((Wd.setCell ⟨p2,0,none⟩ (.int .u64 (h:Int))).setCell ⟨p2,1,none⟩ (.int .u64 (lo:Int))):=((Bf.refl _ _).setCell (.inl (by simp)) _).setCell (.inl (by simp)) _;have hr:=heap_set (heap_set HD.2.2.1 0 (.int .u64 (h:Int))) 1 (.int .u64 (lo:Int));have hdd:=HF.2.2.2.2.2.2.2;have hk2:=(hpu.block D2 (lt_of_block HD.1) (by simp;omega)).trans HD.1;have hk1:=(hpu.block D1 (lt_of_block HD.2.1) (by simp;omega)).trans HD.2.1;have HZ:=Ap hk2 hk1 hr ((HD.2.2.2.mono (G:=[p2,p2+1,p2+1+1]) (fun x hx=>.inl (by simp at hx ⊢;omega))).trans (hpu.mono (by simp)));clear hpu hr hdd hk2 hk1;generalize ((Wd.setCell ⟨p2,0,none⟩ (.int .u64 (h:Int))).setCell ⟨p2,1,none⟩ (.int .u64 (lo:Int)))=Wf at HZ ⊢;refine NoPanic.normal ?_
   go_wp2_with fail
   refine ⟨by simp,.inl ⟨_,_,rfl,run_takeDeferred HZ.1,?_⟩⟩
   have hk1:(Wf.putObj D2 (Obj.deferred none)).heap[D1]? = some (.deferred (some [])):=(World.putObj_heap_other HF.2.2.2.2.2.2.2.1).trans HZ.2.1;refine ⟨by simp,.inl ⟨_,_,rfl,run_takeDeferred hk1,?_⟩⟩
   have hdd:=HF.2.2.2.2.2.2.2;have hr2:((Wf.putObj D2 (Obj.deferred none)).putObj D1 (Obj.deferred none)).heap[p2]? = some (.cells #[.int .u64 (h:Int),.int .u64 (lo:Int)] 52 (0,0)):=(World.putObj_heap_other (by omega)).trans ((World.putObj_heap_other (by omega)).trans HZ.2.2.1);have x0:((Wf.putObj D2 (Obj.deferred none)).putObj D1 (Obj.deferred none)).cell? ⟨p2,0,none⟩=some (.int .u64 (h:Int)):=by simp [World.cell?,hr2]
   have x1:((Wf.putObj D2 (Obj.deferred none)).putObj D1 (Obj.deferred none)).cell? ⟨p2,1,none⟩=some (.int .u64 (lo:Int)):=by simp [World.cell?,hr2]
   refine ⟨.tuple #[.agg #[.int .u64 (h:Int),.int .u64 (lo:Int)],.int .i64 (EE:Int)],?_,?_,?_⟩
   ·simp [results,Tryz.results54,go_sem,x0,x1]
   ·rw [HAE.1,HAE.2];unfold ED;rw [HF.2.2.2.2.2.1,HF.2.2.2.2.2.2.1]
   ·have h1:=HZ.2.2.2;have h2:Bf [p2,p2+1,p2+1+1,D2,D1] w3 ((Wf.putObj D2 (Obj.deferred none)).putObj D1 (Obj.deferred none)):=((h1.mono (by simp)).trans ((Ls Wf (l:=D2) (Obj.deferred none)).mono (by simp))).trans ((Ls _ (l:=D1) (Obj.deferred none)).mono (by simp));exact H3.1.trans' h2 (fun k hk=>.inr (by rw [HP2.out];simp at hk;omega))
