/- ivl.stab: what a number stabs, knot by knot. Printed by mkstab.py. ivl.behind: how many spans -/
import Derived.Test.YtkbaaonchdeneaaGreatPb18
set_option maxHeartbeats 16000000
set_option maxRecDepth 100000
namespace Go.Proofs.YtkbaaonchdeneaaGreat
open Go.RowKit
theorem a3Y (s:Sp) (x:Int) (q:Nat) (w:World) (h:w.cell? ⟨q,0,none⟩=some (.int .i64 x)) :
 Calls Tryz.prog 180 #[KR s,.pointer (some ⟨q,0,none⟩)] w fun e w'=>e=.returned (.bool (decide (s.lo≤x)))∧Bf [] w w':=by
 have hc:(w.alloc (.cells #[.int .i64 s.lo,.int .i64 s.hi,.int .u32 (s.id:Int)] 62)).cell? ⟨q,0,none⟩=some (.int .i64 x):=(((Bf.refl [] w).alloc _).cell (World.block_lt_of_cell? w _ h) (by simp)).trans h;have d0:(w.alloc (.cells #[.int .i64 s.lo,.int .i64 s.hi,.int .u32 (s.id:Int)] 62)).cell? ⟨w.heap.size,0,none⟩=some (.int .i64 s.lo):=by rw [World.cell?_alloc_at _ _ _ _ rfl];rfl
 unfold KR;go_enter Tryz.func180,Tryz.ntmps180
 go_wp2_with fail
 go_ret
 exact ⟨rfl,(Bf.refl _ _).alloc _⟩
theorem a3Z (s:Sp) (x:Int) (q:Nat) (w:World) (h:w.cell? ⟨q,0,none⟩=some (.int .i64 x)) :
 Calls Tryz.prog 181 #[KR s,.pointer (some ⟨q,0,none⟩)] w fun e w'=>e=.returned (.bool (decide (x≤s.hi)))∧Bf [] w w':=by
 have hc:(w.alloc (.cells #[.int .i64 s.lo,.int .i64 s.hi,.int .u32 (s.id:Int)] 62)).cell? ⟨q,0,none⟩=some (.int .i64 x):=(((Bf.refl [] w).alloc _).cell (World.block_lt_of_cell? w _ h) (by simp)).trans h;have d0:(w.alloc (.cells #[.int .i64 s.lo,.int .i64 s.hi,.int .u32 (s.id:Int)] 62)).cell? ⟨w.heap.size,1,none⟩=some (.int .i64 s.hi):=by rw [World.cell?_alloc_at _ _ _ _ rfl];rfl
 unfold KR;go_enter Tryz.func181,Tryz.ntmps181
 go_wp2_with fail
 go_ret
 exact ⟨rfl,(Bf.refl _ _).alloc _⟩
def LQ (L:List Sp):List Nat:=L.map Sp.id
theorem dI (A B:List Sp):LQ (A++B)=LQ A++LQ B:=by simp [LQ]
theorem Ns (A:List Sp):(LQ A).length=A.length:=by simp [LQ]
theorem MR {α:Type} {p:α→Bool}:∀{l:List α},(∀a∈l,p a=true)→l.takeWhile p=l
 | [],_=>rfl
 |a::l,h=>by rw [List.takeWhile_cons_of_pos (h a (by simp)),MR fun b hb=>h b (by simp [hb])]
theorem PK {α:Type} {p:α→Bool} {l:List α} {k:Nat} {a:α} (h:∀b∈l.take k,p b=true) (ha:l[k]? = some a) (hn:p a=false):l.takeWhile p=l.take k:=by
 obtain ⟨h1,h2⟩:=AV ha;have e:l=l.take k++a::l.drop (k+1):=by rw [←h2,←List.drop_eq_getElem_cons h1,List.take_append_drop]
 conv=>lhs;rw [e]
 rw [List.takeWhile_append_of_pos h,List.takeWhile_cons_of_neg (by simp [hn]),List.append_nil]
theorem mG (m:Int) (lo hi:List Sp) (l r:Kn):l.depth<(Kn.node m lo hi l r).depth∧r.depth<(Kn.node m lo hi l r).depth∧Kn.nil.depth<(Kn.node m lo hi l r).depth:=by
 simp only [Kn.depth];omega
theorem mJ {x m:Int} {lo hi:List Sp} {l r:Kn} (h:x<m):(Kn.node m lo hi l r).Ho x=EZ x m lo hi++l.Ho x∧(Kn.node m lo hi l r).touch x=1+FZ x m lo hi+l.touch x:=by
 exact ⟨by show EZ x m lo hi++(if x<m then l.Ho x else if m<x then r.Ho x else [])=_;rw [if_pos h],by show 1+FZ x m lo hi+(if x<m then l.touch x else if m<x then r.touch x else 0)=_;rw [if_pos h]⟩
theorem mM {x m:Int} {lo hi:List Sp} {l r:Kn} (h:m<x):(Kn.node m lo hi l r).Ho x=EZ x m lo hi++r.Ho x∧(Kn.node m lo hi l r).touch x=1+FZ x m lo hi+r.touch x:=by
 exact ⟨by show EZ x m lo hi++(if x<m then l.Ho x else if m<x then r.Ho x else [])=_;rw [if_neg (show ¬x<m by omega),if_pos h],by show 1+FZ x m lo hi+(if x<m then l.touch x else if m<x then r.touch x else 0)=_;rw [if_neg (show ¬x<m by omega),if_pos h]⟩
theorem mO {x m:Int} {lo hi:List Sp} {l r:Kn} (h:x=m):(Kn.node m lo hi l r).Ho x=EZ x m lo hi++Kn.nil.Ho x∧(Kn.node m lo hi l r).touch x=1+FZ x m lo hi+Kn.nil.touch x:=by
 exact ⟨by show EZ x m lo hi++(if x<m then l.Ho x else if m<x then r.Ho x else [])=_;rw [if_neg (show ¬x<m by omega),if_neg (show ¬m<x by omega)];rfl,by show 1+FZ x m lo hi+(if x<m then l.touch x else if m<x then r.touch x else 0)=_;rw [if_neg (show ¬x<m by omega),if_neg (show ¬m<x by omega)];rfl⟩
theorem mP (x m:Int) (lo hi:List Sp) (l r:Kn):(EZ x m lo hi).length≤((Kn.node m lo hi l r).Ho x).length:=by
 show _≤(EZ x m lo hi++_).length
 rw [AY];omega
def Kn.small:Kn→Prop
 |.nil=>True
 |.node _ lo hi l r=>lo.length<1000000∧hi.length<1000000∧l.small∧r.small
theorem Xm:∀{T:Kn} {S:List Sp},T.ok S→S.length<1000000→T.small
 |.nil,_,_,_=>trivial
 |.node m lo hi l r,S,h,hb=>by
  obtain ⟨⟨h1,h2⟩,⟨h3,h4⟩,h5,h6⟩:=h;have hm:(EY m S).length≤S.length:=List.length_filter_le _ _;have hl:(EW m S).length≤S.length:=List.length_filter_le _ _;have hr:(EX m S).length≤S.length:=List.length_filter_le _ _;exact ⟨by rw [h1.length_eq];omega,by rw [h3.length_eq];omega,Xm h5 (by omega),Xm h6 (by omega)⟩
theorem mQ {α:Type} {p:α→Bool} {l:List α} {k:Nat} (h:∀b∈l.take k,p b=true) (hk:k≤l.length):k≤(l.takeWhile p).length:=by
 have e:l=l.take k++l.drop k:=(List.take_append_drop k l).symm;have h2:(l.takeWhile p).length=((l.take k++l.drop k).takeWhile p).length:=by rw [←e]
 rw [List.takeWhile_append_of_pos h,AY,Ba] at h2;omega
def qE (w:World) (L:List Nat) (t:Nat) (e:Ending) (w':World):Prop:=∃A C,e=.returned (.tuple #[.slice A L.length C,.int .i64 (t:Int)])∧KU.row w' w.heap.size (.slice A L.length C) L∧Bf [] w w'
theorem a4a {w:World} {b:Nat} {p vr:Value} {R:List Sp} {T:Kn} {Fk:List Nat} (h:Me w b p vr R T Fk) (x:Int) (vO:T.small) (hT:T.touch x<1000000) (hL:(T.Ho x).length<1000000) :
 Calls Tryz.prog 117 #[.pointer (some ⟨b,0,none⟩),.int .i64 x] w (qE w (LQ (T.Ho x)) (T.touch x)):=by
 obtain ⟨i0,hi,hz0,hz1,hz2⟩:=info_parts Xf;obtain ⟨pq,rfl⟩:=h.tree.ptr;have c1:=h.cells.2.1;have HTR:=AQ h.tree;have b0G:=AQ vO;have hbl:=lt_of_block h.head;have HW0:=AQ ((Bf.refl [] w).alloc (.cells #[.int .i64 x] 2));have hz0':w.heap.size<(w.alloc (.cells #[.int .i64 x] 2)).heap.size:=by simp
 have d0:(w.alloc (.cells #[.int .i64 x] 2)).cell? ⟨w.heap.size,0,none⟩=some (.int .i64 x):=by rw [World.cell?_alloc_at _ _ _ _ rfl];rfl
 have c1':(w.alloc (.cells #[.int .i64 x] 2)).cell? ⟨b,1,none⟩=some (.pointer pq):=(HW0.out.cell (p:=⟨b,1,none⟩) hbl (by simp)).trans c1;obtain ⟨ST,hST⟩:=AO (T.Ho x);obtain ⟨TT,hTT⟩:=AO (T.touch x);rw [hST] at hL ⊢;rw [hTT] at hT ⊢;have HS:=Aj hST hTT hL;have HTB:=AQ hT;clear h hST hTT c1 hbl hL hT vO;go_enter Tryz.func117,Tryz.ntmps117
 go_upto_region 1 with fail
 generalize (w.alloc (.cells #[.int .i64 x] 2))=W0 at HW0 hz0' d0 c1' ⊢;obtain ⟨q,hq⟩:=AO w.heap.size;rw [hq] at hz0' d0 ⊢;have HQ:=Aj hq hz0' d0;clear hq hz0' d0;go_wp2_with fail
 clear c1';go_loopg [6,7,8] T.depth (fun m' s6 s7 s8 wr=>∃(T':Kn) (Fs:List Nat) (vo:Value) (acc:List Sp) (t:Nat),m'=T'.depth∧s6=vo∧s7=.int .i64 (t:Int)∧IX w T' s8 Fs∧T'.small∧KU.row wr W0.heap.size vo (LQ acc)∧acc++T'.Ho x=ST∧t+T'.touch x=TT∧Bf [] W0 wr)
 case atStart=>exact ⟨T,Fk,.slice none 0 0,[],0,rfl,rfl,rfl,HTR.out,b0G.out,World.ownsRow_nil _ _ _ _,HS.1,Ac HS.2.1,Bf.refl _ _⟩
 case round=>
  obtain ⟨T',Fs,vo,acc,t,hmd,rfl,rfl,hk,hsm,hro,hst,hto,hup⟩:=hrel
  cases T' with
  |nil=>
   obtain ⟨rfl,-⟩:=hk;have e1:acc=ST:=by rw [←hst];simp [Kn.Ho]
   have e2:t=TT:=by rw [←hto];simp [Kn.touch]
   subst e1 e2;obtain ⟨Ao,Co,rfl⟩:=Bv hro;have HR:=Ai hro hup;clear hro hup hst hto hmd hsm;go_wp2_with fail
   go_ret2
   exact ⟨Ao,Co,rfl,own_base HR.1 (Ad HQ.1 HQ.2.1),HW0.out.trans HR.2⟩
  |node m lo hi2 l r=>
   obtain ⟨kb,Ez,Ip,pl,pr,Fl,Fr,rfl,hhd,⟨hrl,hrh⟩,hkl,hkr,-,-⟩:=hk;obtain ⟨ql,rfl⟩:=hkl.ptr;obtain ⟨qr,rfl⟩:=hkr.ptr;have hw1:Bf [] w wr:=HW0.out.trans hup;have Vt:wr.heap[kb]? = some (.cells #[.int .i64 m,Ez,Ip,.pointer ql,.pointer qr] 258 (0,0)):=(hw1.block kb (lt_of_block hhd) (by simp)).trans hhd;have qc:wr.cell? ⟨q,0,none⟩=some (.int .i64 x):=(hup.cell (p:=⟨q,0,none⟩) HQ.2.1 (by simp)).trans HQ.2.2;have t0:(0:Int)≤(t:Int):=AU _;have t1:(t:Int)<1000000:=Ac HTB;have vP:=mG m lo hi2 l r;obtain ⟨hsl,hsh,hsa,hsb⟩:=hsm;have YN:=Ap hsl hsh hsa hsb;clear hsl hsh hsa hsb;have HK:=Ap hkl hkr hmd vP;have HA:=Aq hst hto hro hup hw1;have HH:=AQ hhd;have HLH:=Ai hrl hrh;have HQC:=AQ qc;have k0:wr.cell? ⟨kb,0,none⟩=some (.int .i64 m):=by simp [World.cell?,Vt]
   have k1:wr.cell? ⟨kb,1,none⟩=some Ez:=by simp [World.cell?,Vt]
   have k2:wr.cell? ⟨kb,2,none⟩=some Ip:=by simp [World.cell?,Vt]
   clear hro hst hto hup hw1 Vt hrl hrh hkl hkr hhd hmd vP;by_cases hx:m<x
   ·have HX:=AQ hx;have q1:decide (m<x)=true:=decide_eq_true hx;obtain ⟨Av,Cv,rfl⟩:=Bv HLH.2;have hrow:Dt.row w 0 (.slice Av hi2.length Cv) hi2:=HLH.2;obtain ⟨V,hV⟩:=AO hi2;have dJ:cO x m lo hi2=V:=by unfold cO;rw [if_pos HX.out];exact hV
    rw [hV] at hrow k2;obtain ⟨n,hn⟩:=AO V.length;rw [hn] at hrow k2
    have hhas:∀(s:Sp) (w':World),Bf [] W0 w'→Calls Tryz.prog 181 #[KR s,.pointer (some ⟨q,0,none⟩)] w' fun e w''=>e=.returned (.bool (hasK x m s))∧Bf [] w' w'':=fun s w' hu=>by
     unfold hasK;rw [if_pos HX.out];exact a3Z s x q w' ((hu.cell (p:=⟨q,0,none⟩) HQ.2.1 (by simp)).trans HQ.2.2)
    have n0:(0:Int)≤(n:Int):=AU _;have HSM:=AQ (show n<1000000 by rw [←hn,←hV];exact YN.2.1);have HV:=Aj dJ hn hrow;have a4b:=AQ hhas;have vS:=AQ (show EZ x m lo hi2=V.takeWhile (hasK x m) by unfold EZ;rw [HV.1]);clear hrow dJ hn hhas hx hV;go_wp2_with fail
    go_quiet (fail)
    clear q1 k0;go_wp2_with fail
    generalize hwd:wr.drewN _=Wd;have hud:Bf [] wr Wd:=hwd ▸ (Bf.refl [] wr).drewN _;have Uo:=AQ hud;clear hwd hud;go_loopg [6,7,39] n (fun m6 s6 s7 s39 wr=>∃(j:Nat) (vo':Value),m6+j=n∧s6=vo'∧s39=.int .i64 (j:Int)∧s7=.int .i64 ((t+1+j:Nat):Int)∧KU.row wr W0.heap.size vo' (LQ (acc++V.take j))∧(∀s∈V.take j,hasK x m s=true)∧Bf [] W0 wr)
    case atStart=>exact ⟨0,_,rfl,rfl,rfl,by go_num,by rw [List.take_zero,List.append_nil];exact Bg HA.2.2.1 Uo.out (by simp),by simp,HA.2.2.2.1.trans Uo.out⟩
    case round=>
     obtain ⟨j,vo',hj,rfl,rfl,rfl,Xn,hal,OV⟩:=hrel;have j0:(0:Int)≤(j:Int):=AU _;have hjn:j≤n:=by omega
     have tj1:((t+1+j:Nat):Int)=(t:Int)+1+(j:Int):=by omega
     have hmx:(n:Int)≤1000000:=Ac HSM;have h23:=((HW0.out.trans OV).block kb (lt_of_block HH.out) (by simp)).trans HH.out;have HJ:=Aq hj Xn hal OV h23;rw [tj1];by_cases hlt:j<n
     ·obtain ⟨s,hs⟩:∃s,V[j]? = some s:=⟨_,AX (by rw [HV.2.1];exact hlt)⟩;have hse:See Dt wr (.slice Av n Cv) V:=See.BX (by have:=Bg HV.2.2 (HW0.out.trans OV) (by simp);exact this);obtain ⟨g,og,hAv,-,-,ey⟩:=hse.at hs;subst hAv;have y0:wr.cell? ⟨g,og+j*3,none⟩=some (.int .i64 s.lo):=ey 0 _ rfl;have y1:wr.cell? ⟨g,og+j*3+1,none⟩=some (.int .i64 s.hi):=ey 1 _ rfl;have y2:wr.cell? ⟨g,og+j*3+2,none⟩=some (.int .u32 (s.id:Int)):=ey 2 _ rfl;have b1:(j:Int)<(n:Int):=by omega
      have HS2:=AQ hs;clear hse ey hs hj Xn hal OV h23 k1 k2;obtain ⟨wl,hwl⟩:∃wl:World,wl=wr:=⟨_,rfl⟩;subst hwl;go_upto_region 13 with fail
      have hu2:Bf [] wl (wl.alloc (.cells #[.int .i64 s.lo,.int .i64 s.hi,.int .u32 (s.id:Int)] 62)):=(Bf.refl _ _).alloc _;have d0:(wl.alloc (.cells #[.int .i64 s.lo,.int .i64 s.hi,.int .u32 (s.id:Int)] 62)).cell? ⟨wl.heap.size,0,none⟩=some (.int .i64 s.lo):=by rw [World.cell?_alloc_at _ _ _ _ rfl];rfl
      have d1:(wl.alloc (.cells #[.int .i64 s.lo,.int .i64 s.hi,.int .u32 (s.id:Int)] 62)).cell? ⟨wl.heap.size,1,none⟩=some (.int .i64 s.hi):=by rw [World.cell?_alloc_at _ _ _ _ rfl];rfl
      have d2:(wl.alloc (.cells #[.int .i64 s.lo,.int .i64 s.hi,.int .u32 (s.id:Int)] 62)).cell? ⟨wl.heap.size,2,none⟩=some (.int .u32 (s.id:Int)):=by rw [World.cell?_alloc_at _ _ _ _ rfl];rfl
      have hq2:wl.heap.size<(wl.alloc (.cells #[.int .i64 s.lo,.int .i64 s.hi,.int .u32 (s.id:Int)] 62)).heap.size:=by simp
      generalize (wl.alloc (.cells #[.int .i64 s.lo,.int .i64 s.hi,.int .u32 (s.id:Int)] 62))=W2 at hu2 d0 d1 d2 hq2 ⊢;obtain ⟨q2,vT⟩:=AO wl.heap.size;rw [vT] at d0 d1 d2 hq2 ⊢;have hcall:=a4b.out s W2 (HJ.2.2.2.1.trans hu2);unfold KR at hcall;have Fq:=AQ hu2;have HQ2:=Ai d2 hq2;clear hu2 y0 y1 y2 vT
      cases hb:hasK x m s with
      |false=>
       rw [hb] at hcall;have HC:=AQ hcall;clear hcall;go_wp2_with fail
       (with_reducible refine HC.out.mono ?_);rintro e w3 ⟨rfl,u3⟩;have hpk:EZ x m lo hi2=V.take j:=by rw [vS.out];exact PK HJ.2.2.1 HS2.out hb
       have hlk:FZ x m lo hi2=j+1:=by
        unfold FZ;rw [hpk,HV.1,Ba,HV.2.1,Nat.min_eq_left hjn,if_pos hlt]
       have hu3:=Fq.out.trans u3;have hrow3:=Bg HJ.2.1 hu3 (by simp);rw [←hpk] at hrow3;have RY:=HJ.2.2.2.1.trans hu3;have ZF:=(hu3.block kb (lt_of_block HJ.2.2.2.2) (by simp)).trans HJ.2.2.2.2;have htj:((t+1+FZ x m lo hi2:Nat):Int)=(t:Int)+1+(j:Int)+1:=by rw [hlk];omega
       clear d0 d1 d2 u3 hpk hlk hu3 hb hq2;have k3:w3.cell? ⟨kb,3,none⟩=some (.pointer ql):=by simp [World.cell?,ZF]
       have k4:w3.cell? ⟨kb,4,none⟩=some (.pointer qr):=by simp [World.cell?,ZF]
       have k0:w3.cell? ⟨kb,0,none⟩=some (.int .i64 m):=by simp [World.cell?,ZF]
       have qc3:w3.cell? ⟨q,0,none⟩=some (.int .i64 x):=(RY.cell (p:=⟨q,0,none⟩) HQ.2.1 (by simp)).trans HQ.2.2;have HF:=Aj hrow3 RY htj;clear hrow3 RY ZF htj;have hcx:m<x:=HX.out;have hcm:=fun w'=>cmpInt x m w'
       rw [Tt hcx] at hcm;have HCM:=AQ (fun w'=>(hcm w').mono (fun e w'' hh=>(⟨hh.1,hh.2.symm⟩:e=.returned (.int .i64 (1))∧w''=w')));have HST:=AQ (mM (lo:=lo) (hi:=hi2) (l:=l) (r:=r) hcx);clear hcm hcx;go_wp2_with fail
       go_quiet (first | (go_at_call 182;refine Calls.quiet_of_same (HCM.out _)))
       go_wp2_with fail
       go_roundg (r.depth)
       case measure=>have h1:=HK.2.2.1;have h2:=HK.2.2.2.2.1;omega
       case rel=>
        have h1:=HA.1;have h2:=HA.2.1;rw [HST.1] at h1;rw [HST.2] at h2;exact ⟨r,Fr,_,acc++EZ x m lo hi2,t+1+FZ x m lo hi2,rfl,rfl,by rw [HF.2.2],HK.2.1,YN.2.2.2,Bg HF.1 ((Bf.refl [] _).drewN _) (by simp),by rw [List.append_assoc];exact h1,by omega,HF.2.1.drewN _⟩
      |true=>
       rw [hb] at hcall;have HC:=AQ hcall
       have hal2:∀y∈V.take (j+1),hasK x m y=true:=fun y hy=>by
        obtain ⟨g1,g2⟩:=AV HS2.out;rw [AZ g1,g2,List.mem_append] at hy;rcases hy with hy | hy
        ·exact HJ.2.2.1 y hy
        ·simp at hy;subst hy;exact hb
       have hlen:(acc++V.take j).length+1<1000000:=by
        have h1:=mQ hal2 (by rw [HV.2.1];omega);have h2:=mP x m lo hi2 l r;have h3:=congrArg List.length HA.1;rw [AY] at h3;rw [vS.out] at h2;rw [AY,Ba,HV.2.1,Nat.min_eq_left hjn];have h4:=HS.2.2;omega
       have TF:=Ai hal2 hlen;clear hcall hal2 hlen hb;go_wp2_with fail
       (with_reducible refine HC.out.mono ?_);rintro e w3 ⟨rfl,u3⟩;have hd2:w3.cell? ⟨q2,2,none⟩=some (.int .u32 (s.id:Int)):=(u3.cell (p:=⟨q2,2,none⟩) HQ2.2 (by simp)).trans HQ2.1;have hu3:=Fq.out.trans u3;have Gj:=Ai hu3 (Bg HJ.2.1 hu3 (by simp));have HZ3:=AQ (show W0.heap.size≤w3.heap.size from by have h2:=HJ.2.2.2.1.size;have h3:=hu3.size;omega);clear u3 hu3 hq2 d0 d1 d2;(go_wp2_with (at_builtin;refine BL _ rfl _ _ 35 rfl W0.heap.size 26 i0 (.int .u32 0) 1 4 Tryz.underlying35 hi hz0 hz1 hz2 rfl (by decide) _ _ _ rfl (Bg Gj.2 ((Bf.refl [] w3).alloc _) (by simp)) _ 1 [.int .u32 (s.id:Int)] rfl (BM w3 #[.int .u32 (s.id:Int)] 26 1 1 rfl (by decide)) (by simp [Value.oneCell']) (by have:=TF.2;rw [Ns];unfold maxLen;omega) (by have:=TF.2;rw [Ns];omega) (by have:=HZ3.out;simp;omega) ?_))
       intro A1 C1 w4 HP
       have hr4:KU.row w4 W0.heap.size (.slice A1 ((LQ (acc++V.take j)).length+1) C1) (LQ (acc++V.take (j+1))):=by
        obtain ⟨g1,g2⟩:=AV HS2.out
        have e:LQ (acc++V.take (j+1))=LQ (acc++V.take j)++[s.id]:=by
         rw [AZ g1,g2,←List.append_assoc,dI (acc++V.take j) [s]];rfl
        rw [e];unfold Kind.row;rw [AY,KU.Ci];exact HP.own
       have Gt:=((HJ.2.2.2.1.trans Gj.1).alloc (.cells #[.int .u32 (s.id:Int)] 26)).trans' HP.upd (fun y hy=>.inr (BD Gj.2 y hy));have HE:=Ai hr4 Gt;clear hr4 Gt HP hd2;go_wp2_with fail
       go_roundg (n - (j+1))
       case measure=>have:=HJ.1;omega
       case rel=>exact ⟨j+1,_,Ac HJ.1,rfl,by go_num,by go_num,HE.1,TF.1,HE.2⟩
     ·have Xk:j=n:=by omega
      have Vs:V.take j=V:=by rw [Xk,←HV.2.1];exact List.take_length
      rw [Vs] at Xn hal;have hpk:EZ x m lo hi2=V:=by rw [vS.out];exact MR hal
      have hlk:FZ x m lo hi2=j:=by
       unfold FZ;rw [hpk,HV.1,if_neg (by omega),HV.2.1,Xk];rfl
      have hrow3:=Xn;rw [←hpk] at hrow3;have RY:=OV;have ZF:=h23;have htj:((t+1+FZ x m lo hi2:Nat):Int)=(t:Int)+1+(j:Int):=by rw [hlk];omega
      clear hpk hlk Vs Xn hal OV h23 Xk hj k1 k2 hjn;have k3:wr.cell? ⟨kb,3,none⟩=some (.pointer ql):=by simp [World.cell?,ZF]
      have k4:wr.cell? ⟨kb,4,none⟩=some (.pointer qr):=by simp [World.cell?,ZF]
      have k0:wr.cell? ⟨kb,0,none⟩=some (.int .i64 m):=by simp [World.cell?,ZF]
      have qc3:wr.cell? ⟨q,0,none⟩=some (.int .i64 x):=(RY.cell (p:=⟨q,0,none⟩) HQ.2.1 (by simp)).trans HQ.2.2;have HF:=Aj hrow3 RY htj;clear hrow3 RY ZF htj;have hcx:m<x:=HX.out;have hcm:=fun w'=>cmpInt x m w'
      rw [Tt hcx] at hcm;have HCM:=AQ (fun w'=>(hcm w').mono (fun e w'' hh=>(⟨hh.1,hh.2.symm⟩:e=.returned (.int .i64 (1))∧w''=w')));have HST:=AQ (mM (lo:=lo) (hi:=hi2) (l:=l) (r:=r) hcx);clear hcm hcx;go_wp2_with fail
      go_quiet (first | (go_at_call 182;refine Calls.quiet_of_same (HCM.out _)))
      go_wp2_with fail
      go_roundg (r.depth)
      case measure=>have h1:=HK.2.2.1;have h2:=HK.2.2.2.2.1;omega
      case rel=>
       have h1:=HA.1;have h2:=HA.2.1;rw [HST.1] at h1;rw [HST.2] at h2;exact ⟨r,Fr,_,acc++EZ x m lo hi2,t+1+FZ x m lo hi2,rfl,rfl,by rw [HF.2.2],HK.2.1,YN.2.2.2,Bg HF.1 ((Bf.refl [] _).drewN _) (by simp),by rw [List.append_assoc];exact h1,by omega,HF.2.1.drewN _⟩
   ·have HX:=AQ hx;have q1:decide (m<x)=false:=decide_eq_false hx;obtain ⟨Av,Cv,rfl⟩:=Bv HLH.1;have hrow:Dt.row w 0 (.slice Av lo.length Cv) lo:=HLH.1;obtain ⟨V,hV⟩:=AO lo;have dJ:cO x m lo hi2=V:=by unfold cO;rw [if_neg HX.out];exact hV
    rw [hV] at hrow k1;obtain ⟨n,hn⟩:=AO V.length;rw [hn] at hrow k1
    have hhas:∀(s:Sp) (w':World),Bf [] W0 w'→Calls Tryz.prog 180 #[KR s,.pointer (some ⟨q,0,none⟩)] w' fun e w''=>e=.returned (.bool (hasK x m s))∧Bf [] w' w'':=fun s w' hu=>by
     unfold hasK;rw [if_neg HX.out];exact a3Y s x q w' ((hu.cell (p:=⟨q,0,none⟩) HQ.2.1 (by simp)).trans HQ.2.2)
    have n0:(0:Int)≤(n:Int):=AU _;have HSM:=AQ (show n<1000000 by rw [←hn,←hV];exact YN.1);have HV:=Aj dJ hn hrow;have a4b:=AQ hhas;have vS:=AQ (show EZ x m lo hi2=V.takeWhile (hasK x m) by unfold EZ;rw [HV.1]);clear hrow dJ hn hhas hx hV;go_wp2_with fail
    go_quiet (fail)
    clear q1 k0;go_wp2_with fail
    generalize hwd:wr.drewN _=Wd;have hud:Bf [] wr Wd:=hwd ▸ (Bf.refl [] wr).drewN _;have Uo:=AQ hud;clear hwd hud;go_loopg [6,7,39] n (fun m6 s6 s7 s39 wr=>∃(j:Nat) (vo':Value),m6+j=n∧s6=vo'∧s39=.int .i64 (j:Int)∧s7=.int .i64 ((t+1+j:Nat):Int)∧KU.row wr W0.heap.size vo' (LQ (acc++V.take j))∧(∀s∈V.take j,hasK x m s=true)∧Bf [] W0 wr)
    case atStart=>exact ⟨0,_,rfl,rfl,rfl,by go_num,by rw [List.take_zero,List.append_nil];exact Bg HA.2.2.1 Uo.out (by simp),by simp,HA.2.2.2.1.trans Uo.out⟩
    case round=>
     obtain ⟨j,vo',hj,rfl,rfl,rfl,Xn,hal,OV⟩:=hrel;have j0:(0:Int)≤(j:Int):=AU _;have hjn:j≤n:=by omega
     have tj1:((t+1+j:Nat):Int)=(t:Int)+1+(j:Int):=by omega
     have hmx:(n:Int)≤1000000:=Ac HSM;have h23:=((HW0.out.trans OV).block kb (lt_of_block HH.out) (by simp)).trans HH.out;have HJ:=Aq hj Xn hal OV h23;rw [tj1];by_cases hlt:j<n
     ·obtain ⟨s,hs⟩:∃s,V[j]? = some s:=⟨_,AX (by rw [HV.2.1];exact hlt)⟩;have hse:See Dt wr (.slice Av n Cv) V:=See.BX (by have:=Bg HV.2.2 (HW0.out.trans OV) (by simp);exact this);obtain ⟨g,og,hAv,-,-,ey⟩:=hse.at hs;subst hAv;have y0:wr.cell? ⟨g,og+j*3,none⟩=some (.int .i64 s.lo):=ey 0 _ rfl;have y1:wr.cell? ⟨g,og+j*3+1,none⟩=some (.int .i64 s.hi):=ey 1 _ rfl;have y2:wr.cell? ⟨g,og+j*3+2,none⟩=some (.int .u32 (s.id:Int)):=ey 2 _ rfl;have b1:(j:Int)<(n:Int):=by omega
      have HS2:=AQ hs;clear hse ey hs hj Xn hal OV h23 k1 k2;obtain ⟨wl,hwl⟩:∃wl:World,wl=wr:=⟨_,rfl⟩;subst hwl;go_upto_region 13 with fail
      have hu2:Bf [] wl (wl.alloc (.cells #[.int .i64 s.lo,.int .i64 s.hi,.int .u32 (s.id:Int)] 62)):=(Bf.refl _ _).alloc _;have d0:(wl.alloc (.cells #[.int .i64 s.lo,.int .i64 s.hi,.int .u32 (s.id:Int)] 62)).cell? ⟨wl.heap.size,0,none⟩=some (.int .i64 s.lo):=by rw [World.cell?_alloc_at _ _ _ _ rfl];rfl
      have d1:(wl.alloc (.cells #[.int .i64 s.lo,.int .i64 s.hi,.int .u32 (s.id:Int)] 62)).cell? ⟨wl.heap.size,1,none⟩=some (.int .i64 s.hi):=by rw [World.cell?_alloc_at _ _ _ _ rfl];rfl
      have d2:(wl.alloc (.cells #[.int .i64 s.lo,.int .i64 s.hi,.int .u32 (s.id:Int)] 62)).cell? ⟨wl.heap.size,2,none⟩=some (.int .u32 (s.id:Int)):=by rw [World.cell?_alloc_at _ _ _ _ rfl];rfl
      have hq2:wl.heap.size<(wl.alloc (.cells #[.int .i64 s.lo,.int .i64 s.hi,.int .u32 (s.id:Int)] 62)).heap.size:=by simp
      generalize (wl.alloc (.cells #[.int .i64 s.lo,.int .i64 s.hi,.int .u32 (s.id:Int)] 62))=W2 at hu2 d0 d1 d2 hq2 ⊢;obtain ⟨q2,vT⟩:=AO wl.heap.size;rw [vT] at d0 d1 d2 hq2 ⊢;have hcall:=a4b.out s W2 (HJ.2.2.2.1.trans hu2);unfold KR at hcall;have Fq:=AQ hu2;have HQ2:=Ai d2 hq2;clear hu2 y0 y1 y2 vT
      cases hb:hasK x m s with
      |false=>
       rw [hb] at hcall;have HC:=AQ hcall;clear hcall;go_wp2_with fail
       (with_reducible refine HC.out.mono ?_);rintro e w3 ⟨rfl,u3⟩;have hpk:EZ x m lo hi2=V.take j:=by rw [vS.out];exact PK HJ.2.2.1 HS2.out hb
       have hlk:FZ x m lo hi2=j+1:=by
        unfold FZ;rw [hpk,HV.1,Ba,HV.2.1,Nat.min_eq_left hjn,if_pos hlt]
       have hu3:=Fq.out.trans u3;have hrow3:=Bg HJ.2.1 hu3 (by simp);rw [←hpk] at hrow3;have RY:=HJ.2.2.2.1.trans hu3;have ZF:=(hu3.block kb (lt_of_block HJ.2.2.2.2) (by simp)).trans HJ.2.2.2.2;have htj:((t+1+FZ x m lo hi2:Nat):Int)=(t:Int)+1+(j:Int)+1:=by rw [hlk];omega
       clear d0 d1 d2 u3 hpk hlk hu3 hb hq2;have k3:w3.cell? ⟨kb,3,none⟩=some (.pointer ql):=by simp [World.cell?,ZF]
       have k4:w3.cell? ⟨kb,4,none⟩=some (.pointer qr):=by simp [World.cell?,ZF]
       have k0:w3.cell? ⟨kb,0,none⟩=some (.int .i64 m):=by simp [World.cell?,ZF]
       have qc3:w3.cell? ⟨q,0,none⟩=some (.int .i64 x):=(RY.cell (p:=⟨q,0,none⟩) HQ.2.1 (by simp)).trans HQ.2.2;have HF:=Aj hrow3 RY htj;clear hrow3 RY ZF htj;by_cases hcx:x<m
       ·have hcm:=fun w'=>cmpInt x m w'
        rw [QE hcx] at hcm;have HCM:=AQ (fun w'=>(hcm w').mono (fun e w'' hh=>(⟨hh.1,hh.2.symm⟩:e=.returned (.int .i64 (-1))∧w''=w')));have HST:=AQ (mJ (lo:=lo) (hi:=hi2) (l:=l) (r:=r) hcx);clear hcm hcx;go_wp2_with fail
        go_quiet (first | (go_at_call 182;refine Calls.quiet_of_same (HCM.out _)))
        go_wp2_with fail
        go_roundg (l.depth)
        case measure=>have h1:=HK.2.2.1;have h2:=HK.2.2.2.1;omega
        case rel=>
         have h1:=HA.1;have h2:=HA.2.1;rw [HST.1] at h1;rw [HST.2] at h2;exact ⟨l,Fl,_,acc++EZ x m lo hi2,t+1+FZ x m lo hi2,rfl,rfl,by rw [HF.2.2],HK.1,YN.2.2.1,Bg HF.1 ((Bf.refl [] _).drewN _) (by simp),by rw [List.append_assoc];exact h1,by omega,HF.2.1.drewN _⟩
       ·replace hcx:x=m:=Ac HX;have hcm:=fun w'=>cmpInt x m w'
        rw [Tv hcx] at hcm;have HCM:=AQ (fun w'=>(hcm w').mono (fun e w'' hh=>(⟨hh.1,hh.2.symm⟩:e=.returned (.int .i64 (0))∧w''=w')));have HST:=AQ (mO (lo:=lo) (hi:=hi2) (l:=l) (r:=r) hcx);clear hcm hcx;go_wp2_with fail
        go_quiet (first | (go_at_call 182;refine Calls.quiet_of_same (HCM.out _)))
        go_wp2_with fail
        go_roundg (Kn.nil.depth)
        case measure=>have h1:=HK.2.2.1;have h2:=HK.2.2.2.2.2;omega
        case rel=>
         have h1:=HA.1;have h2:=HA.2.1;rw [HST.1] at h1;rw [HST.2] at h2;exact ⟨.nil,[],_,acc++EZ x m lo hi2,t+1+FZ x m lo hi2,rfl,rfl,by rw [HF.2.2],⟨rfl,rfl⟩,trivial,Bg HF.1 ((Bf.refl [] _).drewN _) (by simp),by rw [List.append_assoc];exact h1,by omega,HF.2.1.drewN _⟩
      |true=>
       rw [hb] at hcall;have HC:=AQ hcall
       have hal2:∀y∈V.take (j+1),hasK x m y=true:=fun y hy=>by
        obtain ⟨g1,g2⟩:=AV HS2.out;rw [AZ g1,g2,List.mem_append] at hy;rcases hy with hy | hy
        ·exact HJ.2.2.1 y hy
        ·simp at hy;subst hy;exact hb
       have hlen:(acc++V.take j).length+1<1000000:=by
        have h1:=mQ hal2 (by rw [HV.2.1];omega);have h2:=mP x m lo hi2 l r;have h3:=congrArg List.length HA.1;rw [AY] at h3;rw [vS.out] at h2;rw [AY,Ba,HV.2.1,Nat.min_eq_left hjn];have h4:=HS.2.2;omega
       have TF:=Ai hal2 hlen;clear hcall hal2 hlen hb;go_wp2_with fail
       (with_reducible refine HC.out.mono ?_);rintro e w3 ⟨rfl,u3⟩;have hd2:w3.cell? ⟨q2,2,none⟩=some (.int .u32 (s.id:Int)):=(u3.cell (p:=⟨q2,2,none⟩) HQ2.2 (by simp)).trans HQ2.1;have hu3:=Fq.out.trans u3;have Gj:=Ai hu3 (Bg HJ.2.1 hu3 (by simp));have HZ3:=AQ (show W0.heap.size≤w3.heap.size from by have h2:=HJ.2.2.2.1.size;have h3:=hu3.size;omega);clear u3 hu3 hq2 d0 d1 d2;(go_wp2_with (at_builtin;refine BL _ rfl _ _ 35 rfl W0.heap.size 26 i0 (.int .u32 0) 1 4 Tryz.underlying35 hi hz0 hz1 hz2 rfl (by decide) _ _ _ rfl (Bg Gj.2 ((Bf.refl [] w3).alloc _) (by simp)) _ 1 [.int .u32 (s.id:Int)] rfl (BM w3 #[.int .u32 (s.id:Int)] 26 1 1 rfl (by decide)) (by simp [Value.oneCell']) (by have:=TF.2;rw [Ns];unfold maxLen;omega) (by have:=TF.2;rw [Ns];omega) (by have:=HZ3.out;simp;omega) ?_))
       intro A1 C1 w4 HP
       have hr4:KU.row w4 W0.heap.size (.slice A1 ((LQ (acc++V.take j)).length+1) C1) (LQ (acc++V.take (j+1))):=by
        obtain ⟨g1,g2⟩:=AV HS2.out
        have e:LQ (acc++V.take (j+1))=LQ (acc++V.take j)++[s.id]:=by
         rw [AZ g1,g2,←List.append_assoc,dI (acc++V.take j) [s]];rfl
        rw [e];unfold Kind.row;rw [AY,KU.Ci];exact HP.own
       have Gt:=((HJ.2.2.2.1.trans Gj.1).alloc (.cells #[.int .u32 (s.id:Int)] 26)).trans' HP.upd (fun y hy=>.inr (BD Gj.2 y hy));have HE:=Ai hr4 Gt;clear hr4 Gt HP hd2;go_wp2_with fail
       go_roundg (n - (j+1))
       case measure=>have:=HJ.1;omega
       case rel=>exact ⟨j+1,_,Ac HJ.1,rfl,by go_num,by go_num,HE.1,TF.1,HE.2⟩
     ·have Xk:j=n:=by omega
      have Vs:V.take j=V:=by rw [Xk,←HV.2.1];exact List.take_length
      rw [Vs] at Xn hal;have hpk:EZ x m lo hi2=V:=by rw [vS.out];exact MR hal
      have hlk:FZ x m lo hi2=j:=by
       unfold FZ;rw [hpk,HV.1,if_neg (by omega),HV.2.1,Xk];rfl
      have hrow3:=Xn;rw [←hpk] at hrow3;have RY:=OV;have ZF:=h23;have htj:((t+1+FZ x m lo hi2:Nat):Int)=(t:Int)+1+(j:Int):=by rw [hlk];omega
      clear hpk hlk Vs Xn hal OV h23 Xk hj k1 k2 hjn;have k3:wr.cell? ⟨kb,3,none⟩=some (.pointer ql):=by simp [World.cell?,ZF]
      have k4:wr.cell? ⟨kb,4,none⟩=some (.pointer qr):=by simp [World.cell?,ZF]
      have k0:wr.cell? ⟨kb,0,none⟩=some (.int .i64 m):=by simp [World.cell?,ZF]
      have qc3:wr.cell? ⟨q,0,none⟩=some (.int .i64 x):=(RY.cell (p:=⟨q,0,none⟩) HQ.2.1 (by simp)).trans HQ.2.2;have HF:=Aj hrow3 RY htj;clear hrow3 RY ZF htj;by_cases hcx:x<m
      ·have hcm:=fun w'=>cmpInt x m w'
       rw [QE hcx] at hcm;have HCM:=AQ (fun w'=>(hcm w').mono (fun e w'' hh=>(⟨hh.1,hh.2.symm⟩:e=.returned (.int .i64 (-1))∧w''=w')));have HST:=AQ (mJ (lo:=lo) (hi:=hi2) (l:=l) (r:=r) hcx);clear hcm hcx;go_wp2_with fail
       go_quiet (first | (go_at_call 182;refine Calls.quiet_of_same (HCM.out _)))
       go_wp2_with fail
       go_roundg (l.depth)
       case measure=>have h1:=HK.2.2.1;have h2:=HK.2.2.2.1;omega
       case rel=>
        have h1:=HA.1;have h2:=HA.2.1;rw [HST.1] at h1;rw [HST.2] at h2;exact ⟨l,Fl,_,acc++EZ x m lo hi2,t+1+FZ x m lo hi2,rfl,rfl,by rw [HF.2.2],HK.1,YN.2.2.1,Bg HF.1 ((Bf.refl [] _).drewN _) (by simp),by rw [List.append_assoc];exact h1,by omega,HF.2.1.drewN _⟩
      ·replace hcx:x=m:=Ac HX;have hcm:=fun w'=>cmpInt x m w'
       rw [Tv hcx] at hcm;have HCM:=AQ (fun w'=>(hcm w').mono (fun e w'' hh=>(⟨hh.1,hh.2.symm⟩:e=.returned (.int .i64 (0))∧w''=w')));have HST:=AQ (mO (lo:=lo) (hi:=hi2) (l:=l) (r:=r) hcx);clear hcm hcx;go_wp2_with fail
       go_quiet (first | (go_at_call 182;refine Calls.quiet_of_same (HCM.out _)))
       go_wp2_with fail
       go_roundg (Kn.nil.depth)
       case measure=>have h1:=HK.2.2.1;have h2:=HK.2.2.2.2.2;omega
       case rel=>
        have h1:=HA.1;have h2:=HA.2.1;rw [HST.1] at h1;rw [HST.2] at h2;exact ⟨.nil,[],_,acc++EZ x m lo hi2,t+1+FZ x m lo hi2,rfl,rfl,by rw [HF.2.2],⟨rfl,rfl⟩,trivial,Bg HF.1 ((Bf.refl [] _).drewN _) (by simp),by rw [List.append_assoc];exact h1,by omega,HF.2.1.drewN _⟩
def bhd (R:List Sp) (x:Int):Nat:=(R.filter fun s=>decide (s.lo≤x)).length
theorem a4c {R:List Sp} {x:Int} {i:Nat} (hi:i≤R.length) (h1:∀s∈R.take i,s.lo≤x) (h2:∀s∈R.drop i,x<s.lo):bhd R x=i:=by
 unfold bhd;conv=>lhs;rw [←List.take_append_drop i R]
 rw [List.filter_append,List.filter_eq_self.2 (by simpa using h1),List.filter_eq_nil_iff.2 (by intro s hs hc;have:=h2 s hs;simp at hc;omega),List.append_nil,Ba];omega
structure Ox (w:World) (q c:Nat):Prop where
 cell:w.cell? ⟨q,0,none⟩=some (.int .i64 (c:Int))
 soft:w.frozen? ⟨q,0,none⟩=false
theorem Ox.upd {w w':World} {q c:Nat} (h:Ox w q c) {F:List Nat} (hu:Bf F w w') (hq:q∉F):Ox w' q c:=
 ⟨(hu.cell (World.block_lt_of_cell? w _ h.cell) hq).trans h.cell,(hu.frozen (World.block_lt_of_cell? w _ h.cell) hq).trans h.soft⟩
theorem Ox.set {w:World} {q c:Nat} (h:Ox w q c) (d:Nat):Ox (w.setCell ⟨q,0,none⟩ (.int .i64 (d:Int))) q d:=
 ⟨World.cell?_setCell_same' _ _ _ (by rw [h.cell];rfl),by rw [World.frozen?_setCell];exact h.soft⟩
def Vu (s:Sp) (x:Int):Int:=if s.lo≤x then -1 else 1
theorem Ti (s:Sp) (x:Int) (q c:Nat) (w:World) (h:Ox w q c) (hc:c<1000000) :
 Calls Tryz.prog 215 #[KR s,.int .i64 x,.pointer (some ⟨q,0,none⟩)] w fun e w'=>e=.returned (.int .i64 (Vu s x))∧Ox w' q (c+1)∧Bf [q] w w':=by
 obtain ⟨lo,hi,id⟩:=s;have hu:Bf [] w (w.alloc (.cells #[.int .i64 lo,.int .i64 hi,.int .u32 (id:Int)] 62)):=(Bf.refl _ _).alloc _;have h1:=h.upd hu (by simp);have hql:q<w.heap.size:=World.block_lt_of_cell? w _ h.cell;have d0:(w.alloc (.cells #[.int .i64 lo,.int .i64 hi,.int .u32 (id:Int)] 62)).cell? ⟨w.heap.size,0,none⟩=some (.int .i64 lo):=by rw [World.cell?_alloc_at _ _ _ _ rfl];rfl
 unfold KR Vu;dsimp only;obtain ⟨z,hz⟩:∃z:Int,(if lo≤x then (-1:Int) else 1)=z:=⟨_,rfl⟩;rw [hz];have HZ:=AQ hz;go_enter Tryz.func215,Tryz.ntmps215
 go_upto_region 1 with fail
 generalize (w.alloc (.cells #[.int .i64 lo,.int .i64 hi,.int .u32 (id:Int)] 62))=W at hu h1 d0 ⊢;have c1:=h1.cell;have c2:=h1.soft;have c0:(0:Int)≤(c:Int):=AU _;have c3:(c:Int)<1000000:=by omega
 have hs:=h1.set (c+1);have he:Value.int .i64 ((c+1:Nat):Int)=Value.int .i64 ((c:Int)+1):=by congr 1
 rw [he] at hs;have hup:Bf [q] w (W.setCell ⟨q,0,none⟩ (.int .i64 ((c:Int)+1))):=(hu.mono (G:=[q]) (by simp)).setCell (p:=⟨q,0,none⟩) (.inl (by simp)) _;have hqq:(⟨w.heap.size,0,none⟩:Addr).block∉[q]:=by simp;omega
 have e0:=(((Bf.refl [q] W).setCell (p:=⟨q,0,none⟩) (.inl (by simp)) (.int .i64 ((c:Int)+1))).cell (p:=⟨w.heap.size,0,none⟩) (World.block_lt_of_cell? _ _ d0) hqq).trans d0;have HF:=Ai hs hup;clear he hz h hu h1 hs hup hqq hql;go_upto_region 2 with fail
 clear c1 c2 d0;generalize (W.setCell ⟨q,0,none⟩ (.int .i64 ((c:Int)+1)))=W2 at e0 HF ⊢;by_cases hx:lo≤x
 ·have h9:z = -1:=by rw [←HZ.out,if_pos hx]
  subst h9;go_wp2_with fail
  go_ret
  exact ⟨rfl,HF.out⟩
 ·have h9:z=1:=by rw [←HZ.out,if_neg hx]
  subst h9;go_wp2_with fail
  go_ret
  exact ⟨rfl,HF.out⟩
theorem qF {R:List Sp} {x:Int} {p:Nat} {s:Sp} (h:R.Pairwise fun a b=>a.lo≤b.lo) (hs:R[p]? = some s) (hx:s.lo≤x):∀y∈R.take (p+1),y.lo≤x:=by
 intro y hy;obtain ⟨h1,h2⟩:=AV hs;rw [AZ h1,h2,List.mem_append] at hy;rcases hy with hy | hy
 ·obtain ⟨i,hi,rfl⟩:=List.mem_iff_getElem.1 hy;rw [Ba] at hi;rw [List.getElem_take];have:=List.pairwise_iff_getElem.1 h i p (by omega) h1 (by omega);rw [h2] at this;omega
 ·simp at hy;subst hy;exact hx
theorem qG {R:List Sp} {x:Int} {p:Nat} {s:Sp} (h:R.Pairwise fun a b=>a.lo≤b.lo) (hs:R[p]? = some s) (hx:x<s.lo):∀y∈R.drop p,x<y.lo:=by
 intro y hy;obtain ⟨h1,h2⟩:=AV hs;obtain ⟨i,hi,rfl⟩:=List.mem_iff_getElem.1 hy;rw [List.length_drop] at hi;rw [List.getElem_drop];rcases Nat.eq_zero_or_pos i with h0 | h0
 ·subst h0;simp only [Nat.add_zero];rw [h2];exact hx
 ·have:=List.pairwise_iff_getElem.1 h p (p+i) h1 (by omega) (by omega);rw [h2] at this;omega
def KW (w:World) (q c:Nat) (R:List Sp) (x:Int) (e:Ending) (w':World):Prop:=
 ∃t:Nat,e=.returned (.tuple #[.int .i64 ((bhd R x:Nat):Int),.bool false])∧Ox w' q (c+t)∧t≤BA R.length+1∧Bf [q] w w'
theorem mV (v:Value) (R:List Sp) (x:Int) (q c:Nat) (w:World) (hs:See Dt w v R) (hb:R.length<100000) (hq:Ox w q c) (hc:c<100000) (hv:0<R.length→q∉blk v) (hsr:R.Pairwise fun a b=>a.lo≤b.lo) :
 Calls Tryz.prog 214 #[v,.int .i64 x,.func (.func 215) #[] #[.pointer (some ⟨q,0,none⟩)]] w (KW w q c R x):=by
 obtain ⟨A,C,rfl⟩:=hs.form;obtain ⟨n,hn⟩:=AO R.length;rw [hn] at hs hb ⊢;have hbn:BA n≤17:=CQ n 17 (by omega);have H:=AQ hs;have HN:=Aj hn hsr hbn;have HQ:=AQ hq;have HV:=AQ hv;have n0:(0:Int)≤(n:Int):=AU _;have n1:(n:Int)<100000:=by omega
 have hse:∀w',Bf [q] w w'→See Dt w' (.slice A n C) R:=fun w' hu=>H.out.upd hu (fun h0 k hk hkl hc=>by simp at hc;subst hc;exact HV.out h0 (by rw [HN.1];exact hk))
 have tK:=AQ hse;unfold KW;clear hs hn hq hv hsr hbn hse;go_enter Tryz.func214,Tryz.ntmps214
 go_wp2_with fail
 go_loopg [9,10] n (fun m s9 s10 wr=>∃(i j t:Nat),m+i=j∧j≤n∧s9=.int .i64 (i:Int)∧s10=.int .i64 (j:Int)∧(∀s∈R.take i,s.lo≤x)∧(∀s∈R.drop j,x<s.lo)∧Ox wr q (c+t)∧t+BA (j - i)≤BA n∧Bf [q] w wr)
 case atStart=>exact ⟨0,n,0,by omega,Nat.le_refl _,rfl,rfl,by simp,by rw [←HN.1];simp,HQ.out,by simp,Bf.refl _ _⟩
 case round=>
  obtain ⟨i,j,t,hij,hjn,rfl,rfl,hlo,hhi,hcn,htb,hup⟩:=hrel;have i0:(0:Int)≤(i:Int):=AU _;have j0:(0:Int)≤(j:Int):=AU _;have hi1:i≤j:=by omega
  have hi2:(i:Int)≤(j:Int):=by omega
  have hj2:(j:Int)≤(n:Int):=by omega
  by_cases hlt:i<j
  ·obtain ⟨p,hp⟩:=AO ((i+j) / 2);have hip:i≤p∧p<j:=by omega
   obtain ⟨s,hs⟩:∃s,R[p]? = some s:=⟨_,AX (by rw [HN.1];omega)⟩;obtain ⟨g,og,hA,-,-,ey⟩:=(tK.out wr hup).at hs;subst hA;have y0:wr.cell? ⟨g,og+p*3,none⟩=some (.int .i64 s.lo):=ey 0 _ rfl;have y1:wr.cell? ⟨g,og+p*3+1,none⟩=some (.int .i64 s.hi):=ey 1 _ rfl;have y2:wr.cell? ⟨g,og+p*3+2,none⟩=some (.int .u32 (s.id:Int)):=ey 2 _ rfl;have hct:c+t<1000000:=Ac HN.2.2;have hsd:=Ti s x q (c+t) wr hcn hct;unfold KR at hsd;have b1:(i:Int)<(j:Int):=by omega
   have p0:(0:Int)≤(p:Int):=AU _;have p1:(p:Int)<(n:Int):=by omega
   have HK:=Au hij hjn hlo hhi htb hup;have HS:=AQ hs;have HP:=Ai hip hp;have HCT:=Ai hcn hct;clear hij hjn hlo hhi hcn htb hup hs ey hp hip hct hi1;go_upto_region 5 with fail
   have hcv:Value.int .i64 (((i:Int)+(j:Int)) / 2)=Value.int .i64 (p:Int):=by have:=HP.2;congr 1;omega
   simp only [hcv];clear hcv;by_cases hx:s.lo≤x
   ·have hsv:Vu s x = -1:=by unfold Vu;rw [if_pos hx]
    rw [hsv] at hsd;have vU:=AQ hsd;have HX:=AQ (qF HN.2.1 HS.out hx);clear hsd hsv hx;go_wp2_with fail
    (with_reducible refine vU.out.mono ?_);rintro e w3 ⟨rfl,h3,u3⟩;have HE:=Ai h3 u3;clear h3 u3 y0 y1 y2;go_wp2_with fail
    go_roundg (j - (p+1))
    case measure=>have h1:=HK.1;have h2:=HP.out;omega
    case rel=>
     obtain ⟨k1,k2,k3,k4,k5,k6⟩:=HK.out;have h2:=HP.out;have h5:=Jg (n:=j - i) (by omega) (k:=j - (p+1)) (by omega);exact ⟨p+1,j,t+1,by omega,k2,by go_num,rfl,HX.out,k4,HE.1,by omega,k6.trans HE.2⟩
   ·have hsv:Vu s x=1:=by unfold Vu;rw [if_neg hx]
    rw [hsv] at hsd;have vU:=AQ hsd;have HX:=AQ (qG HN.2.1 HS.out (show x<s.lo by omega));clear hsd hsv hx;go_wp2_with fail
    (with_reducible refine vU.out.mono ?_);rintro e w3 ⟨rfl,h3,u3⟩;have HE:=Ai h3 u3;clear h3 u3 y0 y1 y2;go_wp2_with fail
    go_roundg (p - i)
    case measure=>have h1:=HK.1;have h2:=HP.out;omega
    case rel=>
     obtain ⟨k1,k2,k3,k4,k5,k6⟩:=HK.out;have h2:=HP.out;have h5:=Jg (n:=j - i) (by omega) (k:=p - i) (by omega);exact ⟨i,p,t+1,by omega,by omega,rfl,rfl,k3,HX.out,HE.1,by omega,k6.trans HE.2⟩
  ·have hij2:i=j:=by omega
   subst hij2;have hb:=a4c (R:=R) (x:=x) (by rw [HN.1];exact hjn) hlo hhi;have HB:=AQ hb;have jv:t≤BA n:=by omega
   have HK:=Ai jv hup;by_cases hin:i<n
   ·obtain ⟨s,hs⟩:∃s,R[i]? = some s:=⟨_,AX (by rw [HN.1];omega)⟩;obtain ⟨g,og,hA,-,-,ey⟩:=(tK.out wr hup).at hs;subst hA;have y0:wr.cell? ⟨g,og+i*3,none⟩=some (.int .i64 s.lo):=ey 0 _ rfl;have y1:wr.cell? ⟨g,og+i*3+1,none⟩=some (.int .i64 s.hi):=ey 1 _ rfl;have y2:wr.cell? ⟨g,og+i*3+2,none⟩=some (.int .u32 (s.id:Int)):=ey 2 _ rfl;have hct:c+t<1000000:=Ac HN.2.2;have hsd:=Ti s x q (c+t) wr hcn hct
    have hxs:x<s.lo:=hhi s (by
     obtain ⟨h1,h2⟩:=AV hs;rw [List.drop_eq_getElem_cons h1,h2];simp)
    have hsv:Vu s x=1:=by unfold Vu;rw [if_neg (by omega)]
    rw [hsv] at hsd;unfold KR at hsd;have b1:(i:Int)<(n:Int):=by omega
    have vU:=AQ hsd;clear hsd hsv hxs hs ey hct hlo hhi hcn htb hup hij hjn hi1 jv hb hlt;go_wp2_with fail
    (with_reducible refine vU.out.mono ?_);rintro e w3 ⟨rfl,h3,u3⟩;have HE:=Ai h3 u3;clear h3 u3 y0 y1 y2;go_wp2_with fail
    go_ret2
    exact ⟨t+1,by rw [HB.out];rfl,HE.1,by rw [HN.1];have:=HK.1;omega,HK.2.trans HE.2⟩
   ·have hin2:i=n:=by omega
    subst hin2;have HC:=AQ hcn;clear hlo hhi hcn htb hup hij hjn hi1 jv hb hlt;go_wp2_with fail
    go_ret2
    exact ⟨t,by rw [HB.out];rfl,HC.out,by rw [HN.1];have:=HK.1;omega,HK.2⟩
theorem vV {M:Nat} (hM:M≤1000000) (hso:WW M) {w:World} {b:Nat} {p vr:Value} {R:List Sp} {T:Kn} {Fk:List Nat} (h:Me w b p vr R T Fk) (x:Int) (vO:T.small) (hT:T.touch x<1000000) (hL:(T.Ho x).length<M) :
 Calls Tryz.prog 63 #[.pointer (some ⟨b,0,none⟩),.int .i64 x] w (Xg w (GZ (LQ (T.Ho x))) (T.touch x)):=by
 have c0:=h.cells.1;have HS:=AQ (a4a h x vO hT (Bc hL hM));have hlen:(LQ (T.Ho x)).length<M:=by rw [Ns];exact hL
 obtain ⟨L,Vs⟩:=AO (LQ (T.Ho x));rw [Vs] at HS hlen ⊢;have HL:=AQ hlen;have HSU:=AQ hso;clear h vO hT hL Vs hlen hso hM;go_enter Tryz.func63,Tryz.ntmps63
 go_wp2_with fail
 (with_reducible refine HS.out.mono ?_);rintro e w1 ⟨A,C,rfl,r1,u1⟩;have tC:=AQ (HSU.out w.heap.size _ L w1 r1 HL.out);have HU:=Ai r1 u1;clear r1 u1;go_wp2_with fail
 (with_reducible refine tC.out.mono ?_);rintro e w3 ⟨rfl,t1,t2⟩;have HT:=Ai t1 t2;clear t1 t2;go_wp2_with fail
 go_ret2
 refine ⟨A,C,?_,?_,HU.2.trans' HT.2 (fun y hy=>.inr (BD HU.1 y hy))⟩
 ·rw [Hl];rfl
 ·rw [Hl];exact HT.1
def dK (w:World) (L:List Nat) (B:Nat) (e:Ending) (w':World):Prop:=∃t,Xg w L t e w'∧L.length≤t∧t≤B+L.length
structure Rl (w:World) (x:Sp) (T:Kn) (p:Value) (F:List Nat) (T':Kn) (p':Value) (F':List Nat) (S':List Sp):Prop where
 here:IX w T' p' F'
 sub:∀k∈F',k∈F
 ok:T'.ok S'
 has:x∈S'
 nodup:S'.Nodup
 few:S'.length≤1000
 plug:∀w'',Bf F' w w''→IX w'' (T'.drop x) p' F'→IX w'' (T.drop x) p F
theorem Rl.start {w:World} {x:Sp} {T:Kn} {p:Value} {F:List Nat} {S:List Sp} (h:IX w T p F) (ho:T.ok S) (hx:x∈S) (hn:S.Nodup) (hf:S.length≤1000):Rl w x T p F T p F S:=
 ⟨h,fun _ hk=>hk,ho,hx,hn,hf,fun _ _ hk=>hk⟩
theorem Rl.node {w:World} {x:Sp} {T:Kn} {p:Value} {F:List Nat} {T':Kn} {p':Value} {F':List Nat} {S':List Sp} (h:Rl w x T p F T' p' F' S') :
 ∃m lo hi l r,T'=.node m lo hi l r:=by
 cases T' with
 |nil=>have h1:=h.ok;have h2:=h.has;rw [show S' = [] from h1] at h2;simp at h2
 |node m lo hi l r=>exact ⟨m,lo,hi,l,r,rfl⟩
theorem jw {b:Nat} {Ez Ip:Value} {Fl Fr:List Nat} (hn:(b::(blk Ez++(blk Ip++(Fl++Fr)))).Nodup) :
 (b∉blk Ez∧b∉blk Ip∧b∉Fl∧b∉Fr)∧(∀k∈blk Ez,k∉blk Ip∧k∉Fl∧k∉Fr)∧(∀k∈blk Ip,k∉Fl∧k∉Fr)∧∀k∈Fl,k∉Fr:=by
 rw [List.nodup_cons,List.nodup_append,List.nodup_append,List.nodup_append] at hn;obtain ⟨h1,-,⟨-,⟨-,-,h4⟩,h3⟩,h2⟩:=hn;simp only [List.mem_append] at h1 h2 h3
 refine ⟨⟨fun hc=>h1 (.inl hc),fun hc=>h1 (.inr (.inl hc)),fun hc=>h1 (.inr (.inr (.inl hc))),fun hc=>h1 (.inr (.inr (.inr hc)))⟩,fun k hk=>⟨fun hc=>h2 k hk k (.inl hc) rfl,fun hc=>h2 k hk k (.inr (.inl hc)) rfl,fun hc=>h2 k hk k (.inr (.inr hc)) rfl⟩,
  fun k hk=>⟨fun hc=>h3 k hk k (.inl hc) rfl,fun hc=>h3 k hk k (.inr hc) rfl⟩,fun k hk hc=>h4 k hk k hc rfl⟩
structure a4d (w:World) (x:Sp) (T:Kn) (p:Value) (F:List Nat) (m:Int) (lo hi:List Sp) (l r:Kn) (S':List Sp) (b:Nat) (Ez Ip pl pr:Value) (Fl Fr:List Nat):Prop where
 head:w.heap[b]? = some (.cells #[.int .i64 m,Ez,Ip,pl,pr] 258 (0,0))
 rlo:Dt.row w 0 Ez lo
 rhi:Dt.row w 0 Ip hi
 left:x.hi<m→Rl w x T p F l pl Fl (EW m S')
 right:¬x.hi<m→m<x.lo→Rl w x T p F r pr Fr (EX m S')
 inF:∀k,k=b∨k∈blk Ez∨k∈blk Ip→k∈F
 blo:b∉blk Ez
 bhi:b∉blk Ip
 lh:∀k∈blk Ez,k∉blk Ip
 flo:lo.length≤1000
 fhi:hi.length≤1000
 nlo:lo.Nodup
 nhi:hi.Nodup
 xlo:¬x.hi<m→¬m<x.lo→x∈lo
 xhi:¬x.hi<m→¬m<x.lo→x∈hi
 hit:¬x.hi<m→¬m<x.lo→∀(w'':World) (qH vW:Value),Bf (b::(blk Ez++blk Ip)) w w''→w''.heap[b]? = some (.cells #[.int .i64 m,qH,vW,pl,pr] 258 (0,0))→Dt.row w'' 0 qH (without lo x)→Dt.row w'' 0 vW (without hi x)→
  blk qH=blk Ez→blk vW=blk Ip→IX w'' (T.drop x) p F
theorem Rl.open {w:World} {x:Sp} {T:Kn} {p:Value} {F:List Nat} {m:Int} {lo hi:List Sp} {l r:Kn} {p':Value} {F':List Nat} {S':List Sp} (h:Rl w x T p F (.node m lo hi l r) p' F' S') :
 ∃(b:Nat) (Ez Ip pl pr:Value) (Fl Fr:List Nat),p'=.pointer (some ⟨b,0,none⟩)∧a4d w x T p F m lo hi l r S' b Ez Ip pl pr Fl Fr:=by
 obtain ⟨b,Ez,Ip,pl,pr,Fl,Fr,rfl,h1,⟨h2,h3⟩,h4,h5,rfl,h6⟩:=h.here;obtain ⟨⟨o1,o2⟩,⟨o3,o4⟩,o5,o6⟩:=h.ok;obtain ⟨⟨a1,a2,a3,a4⟩,a5,a6,a7⟩:=jw h6;have hsub:=h.sub;have vX:=h.plug;have hhas:=h.has;have a0S:=h.nodup;simp only [List.mem_cons,List.mem_append] at hsub;have hmid:¬x.hi<m→¬m<x.lo→x∈EY m S':=fun c1 c2=>by unfold EY;rw [List.mem_filter];exact ⟨hhas,by simp;omega⟩
 refine ⟨b,Ez,Ip,pl,pr,Fl,Fr,rfl,⟨h1,h2,h3,fun c1=>?_,fun c1 c2=>?_,fun k hk=>?_,a1,a2,fun k hk=>(a5 k hk).1,by rw [o1.length_eq];exact Bd (List.length_filter_le _ _) h.few,by rw [o3.length_eq];exact Bd (List.length_filter_le _ _) h.few,o1.nodup_iff.2 (a0S.filter _),o3.nodup_iff.2 (a0S.filter _),
  fun c1 c2=>o1.mem_iff.2 (hmid c1 c2),fun c1 c2=>o3.mem_iff.2 (hmid c1 c2),fun c1 c2 w'' qH vW hu hh r1 r2 e1 e2=>?_⟩⟩
 ·refine ⟨h4,fun k hk=>hsub k (.inr (.inr (.inr (.inl hk)))),o5,by unfold EW;rw [List.mem_filter];exact ⟨hhas,by simpa using c1⟩,a0S.filter _,Bd (List.length_filter_le _ _) h.few,fun w'' hu hk=>vX w'' (hu.mono fun y hy=>.inl (by simp only [List.mem_cons,List.mem_append];exact .inr (.inr (.inr (.inl hy))))) ?_⟩
  unfold Kn.drop;rw [if_pos c1];exact ⟨b,Ez,Ip,pl,pr,Fl,Fr,rfl,(hu.block b (lt_of_block h1) a3).trans h1,⟨Bg h2 hu (fun k hk=>(a5 k hk).2.1),Bg h3 hu (fun k hk=>(a6 k hk).1)⟩,hk,h5.upd hu (fun k hk hc=>a7 k hc hk),rfl,h6⟩
 ·refine ⟨h5,fun k hk=>hsub k (.inr (.inr (.inr (.inr hk)))),o6,by unfold EX;rw [List.mem_filter];exact ⟨hhas,by simp;omega⟩,a0S.filter _,Bd (List.length_filter_le _ _) h.few,fun w'' hu hk=>vX w'' (hu.mono fun y hy=>.inl (by simp only [List.mem_cons,List.mem_append];exact .inr (.inr (.inr (.inr hy))))) ?_⟩
  unfold Kn.drop;rw [if_neg c1,if_pos c2];exact ⟨b,Ez,Ip,pl,pr,Fl,Fr,rfl,(hu.block b (lt_of_block h1) a4).trans h1,⟨Bg h2 hu (fun k hk=>(a5 k hk).2.2),Bg h3 hu (fun k hk=>(a6 k hk).2)⟩,h4.upd hu (fun k hk=>a7 k hk),hk,rfl,h6⟩
 ·rcases hk with hk | hk | hk
  ·exact hsub k (.inl hk)
  ·exact hsub k (.inr (.inl hk))
  ·exact hsub k (.inr (.inr (.inl hk)))
 ·have hnu:∀{k:Nat},(k∈Fl∨k∈Fr)→k∉b::(blk Ez++blk Ip):=fun hk hc=>by
   simp only [List.mem_cons,List.mem_append] at hc;rcases hk with hk | hk<;>rcases hc with rfl | hc | hc
   ·exact a3 hk
   ·exact (a5 _ hc).2.1 hk
   ·exact (a6 _ hc).1 hk
   ·exact a4 hk
   ·exact (a5 _ hc).2.2 hk
   ·exact (a6 _ hc).2 hk
  refine vX w'' (hu.mono fun y hy=>.inl (by simp only [List.mem_cons,List.mem_append] at hy ⊢;rcases hy with hy | hy | hy;exact .inl hy;exact .inr (.inl hy);exact .inr (.inr (.inl hy)))) ?_
  unfold Kn.drop;rw [if_neg c1,if_neg c2];exact ⟨b,qH,vW,pl,pr,Fl,Fr,rfl,hh,⟨r1,r2⟩,h4.upd hu (fun k hk=>hnu (.inl hk)),h5.upd hu (fun k hk=>hnu (.inr hk)),by rw [e1,e2],h6⟩
