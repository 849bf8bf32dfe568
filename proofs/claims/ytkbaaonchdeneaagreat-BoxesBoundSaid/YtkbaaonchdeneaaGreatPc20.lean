/- ivl.stab: what a number stabs, knot by knot. Printed by mkstab.py. ivl.behind: how many spans -/
import Derived.Test.YtkbaaonchdeneaaGreatPc18
import Derived.Test.YtkbaaonchdeneaaGreatPc19
set_option maxHeartbeats 16000000
set_option maxRecDepth 100000
namespace Go.Proofs.YtkbaaonchdeneaaGreat
open Go.RowKit
theorem a1P (s:Sp) (x:Int) (q:Nat) (w:World) (h:w.cell? q=some (.int .i64 x)) :
 Calls Tryz.prog 180 #[IE s,.pointer (some q)] w λe w'=>e=.returned (.bool (decide (s.lo<=x)))/\Bj [] w w':=by
 have hc:(w.alloc (.cells #[s.lo,s.hi,.int .u32 (s.id:Int)] 62)).cell? q=some (.int .i64 x):=(((Bj.refl [] w).alloc _).cell (World.block_lt_of_cell? w _ h) (by simp)).trans h;have d0:(w.alloc (.cells #[s.lo,s.hi,.int .u32 (s.id:Int)] 62)).cell? w.heap.size=some (.int .i64 s.lo):=by rw [World.cell?_alloc_at _ _ _ _ rfl];rfl
 unfold IE;go_enter Tryz.func180,Tryz.ntmps180
 go_wp2_with fail
 go_ret
 exact ⟨rfl,(Bj.refl _ _).alloc _⟩
theorem a1Q (s:Sp) (x:Int) (q:Nat) (w:World) (h:w.cell? q=some (.int .i64 x)) :
 Calls Tryz.prog 181 #[IE s,.pointer (some q)] w λe w'=>e=.returned (.bool (decide (x<=s.hi)))/\Bj [] w w':=by
 have hc:(w.alloc (.cells #[s.lo,s.hi,.int .u32 (s.id:Int)] 62)).cell? q=some (.int .i64 x):=(((Bj.refl [] w).alloc _).cell (World.block_lt_of_cell? w _ h) (by simp)).trans h;have d0:(w.alloc (.cells #[s.lo,s.hi,.int .u32 (s.id:Int)] 62)).cell? ⟨w.heap.size,1,none⟩=some (.int .i64 s.hi):=by rw [World.cell?_alloc_at _ _ _ _ rfl];rfl
 unfold IE;go_enter Tryz.func181,Tryz.ntmps181
 go_wp2_with fail
 go_ret
 exact ⟨rfl,(Bj.refl _ _).alloc _⟩
def IU (L:List Sp):List Nat:=L.map Sp.id
theorem Yy (A B:List Sp):IU (A++B)=IU A++IU B:=by simp [IU]
theorem JB (A:List Sp):(IU A).length=A.length:=by simp [IU]
theorem Jm {α:Type} {p:α->Bool}:∀{l:List α},(∀a∈l,p a=true)->l.takeWhile p=l
 | [],_=>rfl
 |a::l,h=>by rw [List.takeWhile_cons_of_pos (h a (by simp)),Jm λb hb=>h b (by simp [hb])]
theorem L8 {α:Type} {p:α->Bool} {l:List α} {k:Nat} {a:α} (h:∀b∈l.take k,p b=true) (ha:l[k]? = some a) (hn:p a=false):l.takeWhile p=l.take k:=by
 obtain ⟨h1,h2⟩:=AZ ha;have e:l=l.take k++a::l.drop (k+1):=by rw [<-h2,<-List.drop_eq_getElem_cons h1,List.take_append_drop]
 conv=>lhs;rw [e]
 rw [List.takeWhile_append_of_pos h,List.takeWhile_cons_of_neg (by simp [hn]),List.append_nil]
theorem fQ (m:Int) (lo hi:List Sp) (l r:Kn):l.depth<(Kn.node m lo hi l r).depth/\r.depth<(Kn.node m lo hi l r).depth/\Kn.nil.depth<(Kn.node m lo hi l r).depth:=by
 simp only [Kn.depth];omega
theorem fU {x m:Int} {lo hi:List Sp} {l r:Kn} (h:x<m):(Kn.node m lo hi l r).FQ x=Ep x m lo hi++l.FQ x/\(Kn.node m lo hi l r).touch x=1+EK x m lo hi+l.touch x:=by
 exact ⟨by show Ep x m lo hi++(if x<m then l.FQ x else if m<x then r.FQ x else [])=_;rw [if_pos h],by show 1+EK x m lo hi+(if x<m then l.touch x else if m<x then r.touch x else 0)=_;rw [if_pos h]⟩
theorem fV {x m:Int} {lo hi:List Sp} {l r:Kn} (h:m<x):(Kn.node m lo hi l r).FQ x=Ep x m lo hi++r.FQ x/\(Kn.node m lo hi l r).touch x=1+EK x m lo hi+r.touch x:=by
 exact ⟨by show Ep x m lo hi++(if x<m then l.FQ x else if m<x then r.FQ x else [])=_;rw [if_neg (show ¬x<m by omega),if_pos h],by show 1+EK x m lo hi+(if x<m then l.touch x else if m<x then r.touch x else 0)=_;rw [if_neg (show ¬x<m by omega),if_pos h]⟩
theorem fZ {x m:Int} {lo hi:List Sp} {l r:Kn} (h:x=m):(Kn.node m lo hi l r).FQ x=Ep x m lo hi++Kn.nil.FQ x/\(Kn.node m lo hi l r).touch x=1+EK x m lo hi+Kn.nil.touch x:=by
 exact ⟨by show Ep x m lo hi++(if x<m then l.FQ x else if m<x then r.FQ x else [])=_;rw [if_neg (show ¬x<m by omega),if_neg (show ¬m<x by omega)];rfl,by show 1+EK x m lo hi+(if x<m then l.touch x else if m<x then r.touch x else 0)=_;rw [if_neg (show ¬x<m by omega),if_neg (show ¬m<x by omega)];rfl⟩
theorem gu (x m:Int) (lo hi:List Sp) (l r:Kn):(Ep x m lo hi).length<=((Kn.node m lo hi l r).FQ x).length:=by
 show _<=(Ep x m lo hi++_).length
 rw [Bc];omega
def Kn.small:Kn->Prop
 |.nil=>True
 |.node _ lo hi l r=>lo.length<1000000/\hi.length<1000000/\l.small/\r.small
theorem TW:∀{T:Kn} {S:List Sp},T.ok S->S.length<1000000->T.small
 |.nil,_,_,_=>trivial
 |.node m lo hi l r,S,h,hb=>by
  obtain ⟨⟨h1,h2⟩,⟨h3,h4⟩,h5,h6⟩:=h;have hm:(Eo m S).length<=S.length:=List.length_filter_le _ _;have hl:(Em m S).length<=S.length:=List.length_filter_le _ _;have hr:(En m S).length<=S.length:=List.length_filter_le _ _;exact ⟨by rw [h1.length_eq];omega,by rw [h3.length_eq];omega,TW h5 (by omega),TW h6 (by omega)⟩
theorem gG {α:Type} {p:α->Bool} {l:List α} {k:Nat} (h:∀b∈l.take k,p b=true) (hk:k<=l.length):k<=(l.takeWhile p).length:=by
 have e:l=l.take k++l.drop k:=(List.take_append_drop k l).symm;have h2:(l.takeWhile p).length=((l.take k++l.drop k).takeWhile p).length:=by rw [<-e]
 rw [List.takeWhile_append_of_pos h,Bc,Bf] at h2;omega
def kG (w:World) (L:List Nat) (t:Nat) (e:Ending) (w':World):Prop:=∃A C,e=.returned (.tuple #[.slice A L.length C,(t:Int)])/\KU.row w' w.heap.size (.slice A L.length C) L/\Bj [] w w'
theorem a1R {w:World} {b:Nat} {p vr:Value} {R:List Sp} {T:Kn} {Fk:List Nat} (h:Jd w b p vr R T Fk) (x:Int) (qU:T.small) (hT:T.touch x<1000000) (hL:(T.FQ x).length<1000000) :
 Calls Tryz.prog 117 #[.pointer (some b),x] w (kG w (IU (T.FQ x)) (T.touch x)):=by
 obtain ⟨i0,hi,hz0,hz1,hz2⟩:=info_parts TN;obtain ⟨pq,rfl⟩:=h.tree.ptr;have c1:=h.cells.2.1;have HTR:=AX h.tree;have a6Q:=AX qU;have hbl:=lt_of_block h.head;have HW0:=AX ((Bj.refl [] w).alloc (.cells #[x] 2));have hz0':w.heap.size<(w.alloc (.cells #[x] 2)).heap.size:=by simp
 have d0:(w.alloc (.cells #[x] 2)).cell? w.heap.size=some (.int .i64 x):=by rw [World.cell?_alloc_at _ _ _ _ rfl];rfl
 have c1':(w.alloc (.cells #[x] 2)).cell? ⟨b,1,none⟩=some (.pointer pq):=(HW0.out.cell (p:=⟨b,1,none⟩) hbl (by simp)).trans c1;obtain ⟨ST,hST⟩:=AU (T.FQ x);obtain ⟨TT,zh⟩:=AU (T.touch x);rw [hST] at hL |-;rw [zh] at hT |-;have HS:=Aq hST zh hL;have HTB:=AX hT;clear h hST zh c1 hbl hL hT qU;go_enter Tryz.func117,Tryz.ntmps117
 go_upto_region 1 with fail
 generalize (w.alloc (.cells #[x] 2))=W0 at HW0 hz0' d0 c1' |-;obtain ⟨q,hq⟩:=AU w.heap.size;rw [hq] at hz0' d0 |-;have HQ:=Aq hq hz0' d0;clear hq hz0' d0;go_wp2_with fail
 clear c1';go_loopg [6,7,8] T.depth (λm' s6 s7 s8 wr=>∃(T':Kn) (Fs:List Nat) (vo:Value) (acc:List Sp) (t:Nat),m'=T'.depth/\s6=vo/\s7=.int .i64 (t:Int)/\Gy w T' s8 Fs/\T'.small/\KU.row wr W0.heap.size vo (IU acc)/\acc++T'.FQ x=ST/\t+T'.touch x=TT/\Bj [] W0 wr)
 case atStart=>exact ⟨T,Fk,.slice none 0 0,[],0,rfl,rfl,rfl,HTR.out,a6Q.out,World.ownsRow_nil _ _ _ _,HS.1,Ac HS.2.1,Bj.refl _ _⟩
 case round=>
  obtain ⟨T',Fs,vo,acc,t,hmd,rfl,rfl,hk,hsm,hro,hst,hto,hup⟩:=hrel
  cases T' with
  |nil=>
   obtain ⟨rfl,-⟩:=hk;have e1:acc=ST:=by rw [<-hst];simp [Kn.FQ]
   have e2:t=TT:=by rw [<-hto];simp [Kn.touch]
   subst e1 e2;obtain ⟨Ao,Co,rfl⟩:=BD hro;have HR:=Ap hro hup;clear hro hup hst hto hmd hsm;go_wp2_with fail
   go_ret2
   exact ⟨Ao,Co,rfl,own_base HR.1 (Ad HQ.1 HQ.2.1),HW0.out.trans HR.2⟩
  |node m lo hi2 l r=>
   obtain ⟨kb,Eb,Gh,pl,pr,Fl,Fr,rfl,hhd,⟨hrl,hrh⟩,hkl,hkr,-,-⟩:=hk;obtain ⟨ql,rfl⟩:=hkl.ptr;obtain ⟨qr,rfl⟩:=hkr.ptr;have hw1:Bj [] w wr:=HW0.out.trans hup;have QU:wr.heap[kb]? = some (.cells #[m,Eb,Gh,.pointer ql,.pointer qr] 258 (0,0)):=(hw1.block kb (lt_of_block hhd) (by simp)).trans hhd;have qc:wr.cell? q=some (.int .i64 x):=(hup.cell (p:=⟨q,0,none⟩) HQ.2.1 (by simp)).trans HQ.2.2;have t0:(0:Int)<=(t:Int):=AY _;have t1:(t:Int)<1000000:=Ac HTB;have qV:=fQ m lo hi2 l r;obtain ⟨hsl,hsh,hsa,hsb⟩:=hsm;have VF:=Au hsl hsh hsa hsb;clear hsl hsh hsa hsb;have HK:=Au hkl hkr hmd qV;have HA:=Aw hst hto hro hup hw1;have HH:=AX hhd;have HLH:=Ap hrl hrh;have HQC:=AX qc;have k0:wr.cell? kb=some (.int .i64 m):=by simp [World.cell?,QU]
   have k1:wr.cell? ⟨kb,1,none⟩=some Eb:=by simp [World.cell?,QU]
   have k2:wr.cell? ⟨kb,2,none⟩=some Gh:=by simp [World.cell?,QU]
   clear hro hst hto hup hw1 QU hrl hrh hkl hkr hhd hmd qV;by_cases hx:m<x
   ·have HX:=AX hx;have q1:decide (m<x)=true:=decide_eq_true hx;obtain ⟨Av,Cv,rfl⟩:=BD HLH.2;have hrow:CY.row w 0 (.slice Av hi2.length Cv) hi2:=HLH.2;obtain ⟨V,hV⟩:=AU hi2;have Yz:Yo x m lo hi2=V:=by unfold Yo;rw [if_pos HX.out];exact hV
    rw [hV] at hrow k2;obtain ⟨n,hn⟩:=AU V.length;rw [hn] at hrow k2
    have hhas:∀(s:Sp) (w':World),Bj [] W0 w'->Calls Tryz.prog 181 #[IE s,.pointer (some q)] w' λe w''=>e=.returned (.bool (hasK x m s))/\Bj [] w' w'':=λs w' hu=>by
     unfold hasK;rw [if_pos HX.out];exact a1Q s x q w' ((hu.cell (p:=⟨q,0,none⟩) HQ.2.1 (by simp)).trans HQ.2.2)
    have n0:(0:Int)<=(n:Int):=AY _;have HSM:=AX (show n<1000000 by rw [<-hn,<-hV];exact VF.2.1);have HV:=Aq Yz hn hrow;have a1S:=AX hhas;have nO:=AX (show Ep x m lo hi2=V.takeWhile (hasK x m) by unfold Ep;rw [HV.1]);clear hrow Yz hn hhas hx hV;go_wp2_with fail
    go_quiet (fail)
    clear q1 k0;go_wp2_with fail
    generalize hwd:wr.drewN _=Wd;have hud:Bj [] wr Wd:=hwd ▸ (Bj.refl [] wr).drewN _;have VG:=AX hud;clear hwd hud;go_loopg [6,7,39] n (λm6 s6 s7 s39 wr=>∃(j:Nat) (vo':Value),m6+j=n/\s6=vo'/\s39=.int .i64 (j:Int)/\s7=.int .i64 ((t+1+j:Nat):Int)/\KU.row wr W0.heap.size vo' (IU (acc++V.take j))/\(∀s∈V.take j,hasK x m s=true)/\Bj [] W0 wr)
    case atStart=>exact ⟨0,_,rfl,rfl,rfl,by go_num,by rw [List.take_zero,List.append_nil];exact Bl HA.2.2.1 VG.out (by simp),by simp,HA.2.2.2.1.trans VG.out⟩
    case round=>
     obtain ⟨j,vo',hj,rfl,rfl,rfl,TY,hal,La⟩:=hrel;have j0:(0:Int)<=(j:Int):=AY _;have hjn:j<=n:=by omega
     have tj1:((t+1+j:Nat):Int)=(t:Int)+1+(j:Int):=by omega
     have hmx:(n:Int)<=1000000:=Ac HSM;have h23:=((HW0.out.trans La).block kb (lt_of_block HH.out) (by simp)).trans HH.out;have HJ:=Aw hj TY hal La h23;rw [tj1];by_cases hlt:j<n
     ·obtain ⟨s,hs⟩:∃s,V[j]? = some s:=⟨_,Ba (by rw [HV.2.1];exact hlt)⟩;have hse:See CY wr (.slice Av n Cv) V:=See.BU (by have:=Bl HV.2.2 (HW0.out.trans La) (by simp);exact this);obtain ⟨g,og,hAv,-,-,ey⟩:=hse.at hs;subst hAv;have y0:wr.cell? ⟨g,og+j*3,none⟩=some (.int .i64 s.lo):=ey 0 _ rfl;have y1:wr.cell? ⟨g,og+j*3+1,none⟩=some (.int .i64 s.hi):=ey 1 _ rfl;have y2:wr.cell? ⟨g,og+j*3+2,none⟩=some (.int .u32 (s.id:Int)):=ey 2 _ rfl;have b1:(j:Int)<(n:Int):=by omega
      have HS2:=AX hs;clear hse ey hs hj TY hal La h23 k1 k2;obtain ⟨wl,hwl⟩:∃wl:World,wl=wr:=⟨_,rfl⟩;subst hwl;go_upto_region 13 with fail
      have hu2:Bj [] wl (wl.alloc (.cells #[s.lo,s.hi,.int .u32 (s.id:Int)] 62)):=(Bj.refl _ _).alloc _;have d0:(wl.alloc (.cells #[s.lo,s.hi,.int .u32 (s.id:Int)] 62)).cell? wl.heap.size=some (.int .i64 s.lo):=by rw [World.cell?_alloc_at _ _ _ _ rfl];rfl
      have d1:(wl.alloc (.cells #[s.lo,s.hi,.int .u32 (s.id:Int)] 62)).cell? ⟨wl.heap.size,1,none⟩=some (.int .i64 s.hi):=by rw [World.cell?_alloc_at _ _ _ _ rfl];rfl
      have d2:(wl.alloc (.cells #[s.lo,s.hi,.int .u32 (s.id:Int)] 62)).cell? ⟨wl.heap.size,2,none⟩=some (.int .u32 (s.id:Int)):=by rw [World.cell?_alloc_at _ _ _ _ rfl];rfl
      have hq2:wl.heap.size<(wl.alloc (.cells #[s.lo,s.hi,.int .u32 (s.id:Int)] 62)).heap.size:=by simp
      generalize (wl.alloc (.cells #[s.lo,s.hi,.int .u32 (s.id:Int)] 62))=W2 at hu2 d0 d1 d2 hq2 |-;obtain ⟨q2,qW⟩:=AU wl.heap.size;rw [qW] at d0 d1 d2 hq2 |-;have hcall:=a1S.out s W2 (HJ.2.2.2.1.trans hu2);unfold IE at hcall;have Ej:=AX hu2;have yw:=Ap d2 hq2;clear hu2 y0 y1 y2 qW
      cases hb:hasK x m s with
      |false=>
       rw [hb] at hcall;have HC:=AX hcall;clear hcall;go_wp2_with fail
       go_fit HC.out
       rintro e w3 ⟨rfl,u3⟩;have hpk:Ep x m lo hi2=V.take j:=by rw [nO.out];exact L8 HJ.2.2.1 HS2.out hb
       have hlk:EK x m lo hi2=j+1:=by
        unfold EK;rw [hpk,HV.1,Bf,HV.2.1,Nat.min_eq_left hjn,if_pos hlt]
       have hu3:=Ej.out.trans u3;have hrow3:=Bl HJ.2.1 hu3 (by simp);rw [<-hpk] at hrow3;have Oi:=HJ.2.2.2.1.trans hu3;have Xk:=(hu3.block kb (lt_of_block HJ.2.2.2.2) (by simp)).trans HJ.2.2.2.2;have htj:((t+1+EK x m lo hi2:Nat):Int)=(t:Int)+1+(j:Int)+1:=by rw [hlk];omega
       clear d0 d1 d2 u3 hpk hlk hu3 hb hq2;have k3:w3.cell? ⟨kb,3,none⟩=some (.pointer ql):=by simp [World.cell?,Xk]
       have k4:w3.cell? ⟨kb,4,none⟩=some (.pointer qr):=by simp [World.cell?,Xk]
       have k0:w3.cell? kb=some (.int .i64 m):=by simp [World.cell?,Xk]
       have qc3:w3.cell? q=some (.int .i64 x):=(Oi.cell (p:=⟨q,0,none⟩) HQ.2.1 (by simp)).trans HQ.2.2;have HF:=Aq hrow3 Oi htj;clear hrow3 Oi Xk htj;have hcx:m<x:=HX.out;have hcm:=λw'=>cmpInt x m w'
       rw [RP hcx] at hcm;have HCM:=AX (λw'=>(hcm w').mono (λe w'' hh=>(⟨hh.1,hh.2.symm⟩:e=.returned (.int .i64 (1))/\w''=w')));have HST:=AX (fV (lo:=lo) (hi:=hi2) (l:=l) (r:=r) hcx);clear hcm hcx;go_wp2_with fail
       go_quiet (first | (go_at_call 182;refine Calls.quiet_of_same (HCM.out _)))
       go_wp2_with fail
       go_roundg (r.depth)
       case measure=>have h1:=HK.2.2.1;have h2:=HK.2.2.2.2.1;omega
       case rel=>
        have h1:=HA.1;have h2:=HA.2.1;rw [HST.1] at h1;rw [HST.2] at h2;exact ⟨r,Fr,_,acc++Ep x m lo hi2,t+1+EK x m lo hi2,rfl,rfl,by rw [HF.2.2],HK.2.1,VF.2.2.2,Bl HF.1 ((Bj.refl [] _).drewN _) (by simp),by rw [List.append_assoc];exact h1,by omega,HF.2.1.drewN _⟩
      |true=>
       rw [hb] at hcall;have HC:=AX hcall
       have hal2:∀y∈V.take (j+1),hasK x m y=true:=λy hy=>by
        obtain ⟨g1,g2⟩:=AZ HS2.out;rw [Bd g1,g2,List.mem_append] at hy;rcases hy with hy | hy
        ·exact HJ.2.2.1 y hy
        ·simp at hy;subst hy;exact hb
       have hlen:(acc++V.take j).length+1<1000000:=by
        have h1:=gG hal2 (by rw [HV.2.1];omega);have h2:=gu x m lo hi2 l r;have h3:=congrArg List.length HA.1;rw [Bc] at h3;rw [nO.out] at h2;rw [Bc,Bf,HV.2.1,Nat.min_eq_left hjn];have h4:=HS.2.2;omega
       have O5:=Ap hal2 hlen;clear hcall hal2 hlen hb;go_wp2_with fail
       go_fit HC.out
       rintro e w3 ⟨rfl,u3⟩;have hd2:w3.cell? ⟨q2,2,none⟩=some (.int .u32 (s.id:Int)):=(u3.cell (p:=⟨q2,2,none⟩) yw.2 (by simp)).trans yw.1;have hu3:=Ej.out.trans u3;have EJ:=Ap hu3 (Bl HJ.2.1 hu3 (by simp));have HZ3:=AX (show W0.heap.size<=w3.heap.size from by have h2:=HJ.2.2.2.1.size;have h3:=hu3.size;omega);clear u3 hu3 hq2 d0 d1 d2;(go_wp2_with (at_builtin;refine BM _ rfl _ _ 35 rfl W0.heap.size 26 i0 (.int .u32 0) 1 4 Tryz.underlying35 hi hz0 hz1 hz2 rfl (by decide) _ _ _ rfl (Bl EJ.2 ((Bj.refl [] w3).alloc _) (by simp)) _ 1 [.int .u32 (s.id:Int)] rfl (BK w3 #[.int .u32 (s.id:Int)] 26 1 1 rfl (by decide)) (by simp [Value.oneCell']) (by have:=O5.2;rw [JB];unfold maxLen;omega) (by have:=O5.2;rw [JB];omega) (by have:=HZ3.out;simp;omega) ?_))
       intro A1 C1 w4 HP
       have hr4:KU.row w4 W0.heap.size (.slice A1 ((IU (acc++V.take j)).length+1) C1) (IU (acc++V.take (j+1))):=by
        obtain ⟨g1,g2⟩:=AZ HS2.out
        have e:IU (acc++V.take (j+1))=IU (acc++V.take j)++[s.id]:=by
         rw [Bd g1,g2,<-List.append_assoc,Yy (acc++V.take j) [s]];rfl
        rw [e];unfold Kind.row;rw [Bc,KU.BZ];exact HP.own
       have EI:=((HJ.2.2.2.1.trans EJ.1).alloc (.cells #[.int .u32 (s.id:Int)] 26)).trans' HP.upd (λy hy=>.inr (BH EJ.2 y hy));have HE:=Ap hr4 EI;clear hr4 EI HP hd2;go_wp2_with fail
       go_roundg (n - (j+1))
       case measure=>have:=HJ.1;omega
       case rel=>exact ⟨j+1,_,Ac HJ.1,rfl,by go_num,by go_num,HE.1,O5.1,HE.2⟩
     ·have TU:j=n:=by omega
      have QT:V.take j=V:=by rw [TU,<-HV.2.1];exact List.take_length
      rw [QT] at TY hal;have hpk:Ep x m lo hi2=V:=by rw [nO.out];exact Jm hal
      have hlk:EK x m lo hi2=j:=by
       unfold EK;rw [hpk,HV.1,if_neg (by omega),HV.2.1,TU];rfl
      have hrow3:=TY;rw [<-hpk] at hrow3;have Oi:=La;have Xk:=h23;have htj:((t+1+EK x m lo hi2:Nat):Int)=(t:Int)+1+(j:Int):=by rw [hlk];omega
      clear hpk hlk QT TY hal La h23 TU hj k1 k2 hjn;have k3:wr.cell? ⟨kb,3,none⟩=some (.pointer ql):=by simp [World.cell?,Xk]
      have k4:wr.cell? ⟨kb,4,none⟩=some (.pointer qr):=by simp [World.cell?,Xk]
      have k0:wr.cell? kb=some (.int .i64 m):=by simp [World.cell?,Xk]
      have qc3:wr.cell? q=some (.int .i64 x):=(Oi.cell (p:=⟨q,0,none⟩) HQ.2.1 (by simp)).trans HQ.2.2;have HF:=Aq hrow3 Oi htj;clear hrow3 Oi Xk htj;have hcx:m<x:=HX.out;have hcm:=λw'=>cmpInt x m w'
      rw [RP hcx] at hcm;have HCM:=AX (λw'=>(hcm w').mono (λe w'' hh=>(⟨hh.1,hh.2.symm⟩:e=.returned (.int .i64 (1))/\w''=w')));have HST:=AX (fV (lo:=lo) (hi:=hi2) (l:=l) (r:=r) hcx);clear hcm hcx;go_wp2_with fail
      go_quiet (first | (go_at_call 182;refine Calls.quiet_of_same (HCM.out _)))
      go_wp2_with fail
      go_roundg (r.depth)
      case measure=>have h1:=HK.2.2.1;have h2:=HK.2.2.2.2.1;omega
      case rel=>
       have h1:=HA.1;have h2:=HA.2.1;rw [HST.1] at h1;rw [HST.2] at h2;exact ⟨r,Fr,_,acc++Ep x m lo hi2,t+1+EK x m lo hi2,rfl,rfl,by rw [HF.2.2],HK.2.1,VF.2.2.2,Bl HF.1 ((Bj.refl [] _).drewN _) (by simp),by rw [List.append_assoc];exact h1,by omega,HF.2.1.drewN _⟩
   ·have HX:=AX hx;have q1:decide (m<x)=false:=decide_eq_false hx;obtain ⟨Av,Cv,rfl⟩:=BD HLH.1;have hrow:CY.row w 0 (.slice Av lo.length Cv) lo:=HLH.1;obtain ⟨V,hV⟩:=AU lo;have Yz:Yo x m lo hi2=V:=by unfold Yo;rw [if_neg HX.out];exact hV
    rw [hV] at hrow k1;obtain ⟨n,hn⟩:=AU V.length;rw [hn] at hrow k1
    have hhas:∀(s:Sp) (w':World),Bj [] W0 w'->Calls Tryz.prog 180 #[IE s,.pointer (some q)] w' λe w''=>e=.returned (.bool (hasK x m s))/\Bj [] w' w'':=λs w' hu=>by
     unfold hasK;rw [if_neg HX.out];exact a1P s x q w' ((hu.cell (p:=⟨q,0,none⟩) HQ.2.1 (by simp)).trans HQ.2.2)
    have n0:(0:Int)<=(n:Int):=AY _;have HSM:=AX (show n<1000000 by rw [<-hn,<-hV];exact VF.1);have HV:=Aq Yz hn hrow;have a1S:=AX hhas;have nO:=AX (show Ep x m lo hi2=V.takeWhile (hasK x m) by unfold Ep;rw [HV.1]);clear hrow Yz hn hhas hx hV;go_wp2_with fail
    go_quiet (fail)
    clear q1 k0;go_wp2_with fail
    generalize hwd:wr.drewN _=Wd;have hud:Bj [] wr Wd:=hwd ▸ (Bj.refl [] wr).drewN _;have VG:=AX hud;clear hwd hud;go_loopg [6,7,39] n (λm6 s6 s7 s39 wr=>∃(j:Nat) (vo':Value),m6+j=n/\s6=vo'/\s39=.int .i64 (j:Int)/\s7=.int .i64 ((t+1+j:Nat):Int)/\KU.row wr W0.heap.size vo' (IU (acc++V.take j))/\(∀s∈V.take j,hasK x m s=true)/\Bj [] W0 wr)
    case atStart=>exact ⟨0,_,rfl,rfl,rfl,by go_num,by rw [List.take_zero,List.append_nil];exact Bl HA.2.2.1 VG.out (by simp),by simp,HA.2.2.2.1.trans VG.out⟩
    case round=>
     obtain ⟨j,vo',hj,rfl,rfl,rfl,TY,hal,La⟩:=hrel;have j0:(0:Int)<=(j:Int):=AY _;have hjn:j<=n:=by omega
     have tj1:((t+1+j:Nat):Int)=(t:Int)+1+(j:Int):=by omega
     have hmx:(n:Int)<=1000000:=Ac HSM;have h23:=((HW0.out.trans La).block kb (lt_of_block HH.out) (by simp)).trans HH.out;have HJ:=Aw hj TY hal La h23;rw [tj1];by_cases hlt:j<n
     ·obtain ⟨s,hs⟩:∃s,V[j]? = some s:=⟨_,Ba (by rw [HV.2.1];exact hlt)⟩;have hse:See CY wr (.slice Av n Cv) V:=See.BU (by have:=Bl HV.2.2 (HW0.out.trans La) (by simp);exact this);obtain ⟨g,og,hAv,-,-,ey⟩:=hse.at hs;subst hAv;have y0:wr.cell? ⟨g,og+j*3,none⟩=some (.int .i64 s.lo):=ey 0 _ rfl;have y1:wr.cell? ⟨g,og+j*3+1,none⟩=some (.int .i64 s.hi):=ey 1 _ rfl;have y2:wr.cell? ⟨g,og+j*3+2,none⟩=some (.int .u32 (s.id:Int)):=ey 2 _ rfl;have b1:(j:Int)<(n:Int):=by omega
      have HS2:=AX hs;clear hse ey hs hj TY hal La h23 k1 k2;obtain ⟨wl,hwl⟩:∃wl:World,wl=wr:=⟨_,rfl⟩;subst hwl;go_upto_region 13 with fail
      have hu2:Bj [] wl (wl.alloc (.cells #[s.lo,s.hi,.int .u32 (s.id:Int)] 62)):=(Bj.refl _ _).alloc _;have d0:(wl.alloc (.cells #[s.lo,s.hi,.int .u32 (s.id:Int)] 62)).cell? wl.heap.size=some (.int .i64 s.lo):=by rw [World.cell?_alloc_at _ _ _ _ rfl];rfl
      have d1:(wl.alloc (.cells #[s.lo,s.hi,.int .u32 (s.id:Int)] 62)).cell? ⟨wl.heap.size,1,none⟩=some (.int .i64 s.hi):=by rw [World.cell?_alloc_at _ _ _ _ rfl];rfl
      have d2:(wl.alloc (.cells #[s.lo,s.hi,.int .u32 (s.id:Int)] 62)).cell? ⟨wl.heap.size,2,none⟩=some (.int .u32 (s.id:Int)):=by rw [World.cell?_alloc_at _ _ _ _ rfl];rfl
      have hq2:wl.heap.size<(wl.alloc (.cells #[s.lo,s.hi,.int .u32 (s.id:Int)] 62)).heap.size:=by simp
      generalize (wl.alloc (.cells #[s.lo,s.hi,.int .u32 (s.id:Int)] 62))=W2 at hu2 d0 d1 d2 hq2 |-;obtain ⟨q2,qW⟩:=AU wl.heap.size;rw [qW] at d0 d1 d2 hq2 |-;have hcall:=a1S.out s W2 (HJ.2.2.2.1.trans hu2);unfold IE at hcall;have Ej:=AX hu2;have yw:=Ap d2 hq2;clear hu2 y0 y1 y2 qW
      cases hb:hasK x m s with
      |false=>
       rw [hb] at hcall;have HC:=AX hcall;clear hcall;go_wp2_with fail
       go_fit HC.out
       rintro e w3 ⟨rfl,u3⟩;have hpk:Ep x m lo hi2=V.take j:=by rw [nO.out];exact L8 HJ.2.2.1 HS2.out hb
       have hlk:EK x m lo hi2=j+1:=by
        unfold EK;rw [hpk,HV.1,Bf,HV.2.1,Nat.min_eq_left hjn,if_pos hlt]
       have hu3:=Ej.out.trans u3;have hrow3:=Bl HJ.2.1 hu3 (by simp);rw [<-hpk] at hrow3;have Oi:=HJ.2.2.2.1.trans hu3;have Xk:=(hu3.block kb (lt_of_block HJ.2.2.2.2) (by simp)).trans HJ.2.2.2.2;have htj:((t+1+EK x m lo hi2:Nat):Int)=(t:Int)+1+(j:Int)+1:=by rw [hlk];omega
       clear d0 d1 d2 u3 hpk hlk hu3 hb hq2;have k3:w3.cell? ⟨kb,3,none⟩=some (.pointer ql):=by simp [World.cell?,Xk]
       have k4:w3.cell? ⟨kb,4,none⟩=some (.pointer qr):=by simp [World.cell?,Xk]
       have k0:w3.cell? kb=some (.int .i64 m):=by simp [World.cell?,Xk]
       have qc3:w3.cell? q=some (.int .i64 x):=(Oi.cell (p:=⟨q,0,none⟩) HQ.2.1 (by simp)).trans HQ.2.2;have HF:=Aq hrow3 Oi htj;clear hrow3 Oi Xk htj;by_cases hcx:x<m
       ·have hcm:=λw'=>cmpInt x m w'
        rw [OX hcx] at hcm;have HCM:=AX (λw'=>(hcm w').mono (λe w'' hh=>(⟨hh.1,hh.2.symm⟩:e=.returned (.int .i64 (-1))/\w''=w')));have HST:=AX (fU (lo:=lo) (hi:=hi2) (l:=l) (r:=r) hcx);clear hcm hcx;go_wp2_with fail
        go_quiet (first | (go_at_call 182;refine Calls.quiet_of_same (HCM.out _)))
        go_wp2_with fail
        go_roundg (l.depth)
        case measure=>have h1:=HK.2.2.1;have h2:=HK.2.2.2.1;omega
        case rel=>
         have h1:=HA.1;have h2:=HA.2.1;rw [HST.1] at h1;rw [HST.2] at h2;exact ⟨l,Fl,_,acc++Ep x m lo hi2,t+1+EK x m lo hi2,rfl,rfl,by rw [HF.2.2],HK.1,VF.2.2.1,Bl HF.1 ((Bj.refl [] _).drewN _) (by simp),by rw [List.append_assoc];exact h1,by omega,HF.2.1.drewN _⟩
       ·replace hcx:x=m:=Ac HX;have hcm:=λw'=>cmpInt x m w'
        rw [RQ hcx] at hcm;have HCM:=AX (λw'=>(hcm w').mono (λe w'' hh=>(⟨hh.1,hh.2.symm⟩:e=.returned (.int .i64 (0))/\w''=w')));have HST:=AX (fZ (lo:=lo) (hi:=hi2) (l:=l) (r:=r) hcx);clear hcm hcx;go_wp2_with fail
        go_quiet (first | (go_at_call 182;refine Calls.quiet_of_same (HCM.out _)))
        go_wp2_with fail
        go_roundg (Kn.nil.depth)
        case measure=>have h1:=HK.2.2.1;have h2:=HK.2.2.2.2.2;omega
        case rel=>
         have h1:=HA.1;have h2:=HA.2.1;rw [HST.1] at h1;rw [HST.2] at h2;exact ⟨.nil,[],_,acc++Ep x m lo hi2,t+1+EK x m lo hi2,rfl,rfl,by rw [HF.2.2],⟨rfl,rfl⟩,trivial,Bl HF.1 ((Bj.refl [] _).drewN _) (by simp),by rw [List.append_assoc];exact h1,by omega,HF.2.1.drewN _⟩
      |true=>
       rw [hb] at hcall;have HC:=AX hcall
       have hal2:∀y∈V.take (j+1),hasK x m y=true:=λy hy=>by
        obtain ⟨g1,g2⟩:=AZ HS2.out;rw [Bd g1,g2,List.mem_append] at hy;rcases hy with hy | hy
        ·exact HJ.2.2.1 y hy
        ·simp at hy;subst hy;exact hb
       have hlen:(acc++V.take j).length+1<1000000:=by
        have h1:=gG hal2 (by rw [HV.2.1];omega);have h2:=gu x m lo hi2 l r;have h3:=congrArg List.length HA.1;rw [Bc] at h3;rw [nO.out] at h2;rw [Bc,Bf,HV.2.1,Nat.min_eq_left hjn];have h4:=HS.2.2;omega
       have O5:=Ap hal2 hlen;clear hcall hal2 hlen hb;go_wp2_with fail
       go_fit HC.out
       rintro e w3 ⟨rfl,u3⟩;have hd2:w3.cell? ⟨q2,2,none⟩=some (.int .u32 (s.id:Int)):=(u3.cell (p:=⟨q2,2,none⟩) yw.2 (by simp)).trans yw.1;have hu3:=Ej.out.trans u3;have EJ:=Ap hu3 (Bl HJ.2.1 hu3 (by simp));have HZ3:=AX (show W0.heap.size<=w3.heap.size from by have h2:=HJ.2.2.2.1.size;have h3:=hu3.size;omega);clear u3 hu3 hq2 d0 d1 d2;(go_wp2_with (at_builtin;refine BM _ rfl _ _ 35 rfl W0.heap.size 26 i0 (.int .u32 0) 1 4 Tryz.underlying35 hi hz0 hz1 hz2 rfl (by decide) _ _ _ rfl (Bl EJ.2 ((Bj.refl [] w3).alloc _) (by simp)) _ 1 [.int .u32 (s.id:Int)] rfl (BK w3 #[.int .u32 (s.id:Int)] 26 1 1 rfl (by decide)) (by simp [Value.oneCell']) (by have:=O5.2;rw [JB];unfold maxLen;omega) (by have:=O5.2;rw [JB];omega) (by have:=HZ3.out;simp;omega) ?_))
       intro A1 C1 w4 HP
       have hr4:KU.row w4 W0.heap.size (.slice A1 ((IU (acc++V.take j)).length+1) C1) (IU (acc++V.take (j+1))):=by
        obtain ⟨g1,g2⟩:=AZ HS2.out
        have e:IU (acc++V.take (j+1))=IU (acc++V.take j)++[s.id]:=by
         rw [Bd g1,g2,<-List.append_assoc,Yy (acc++V.take j) [s]];rfl
        rw [e];unfold Kind.row;rw [Bc,KU.BZ];exact HP.own
       have EI:=((HJ.2.2.2.1.trans EJ.1).alloc (.cells #[.int .u32 (s.id:Int)] 26)).trans' HP.upd (λy hy=>.inr (BH EJ.2 y hy));have HE:=Ap hr4 EI;clear hr4 EI HP hd2;go_wp2_with fail
       go_roundg (n - (j+1))
       case measure=>have:=HJ.1;omega
       case rel=>exact ⟨j+1,_,Ac HJ.1,rfl,by go_num,by go_num,HE.1,O5.1,HE.2⟩
     ·have TU:j=n:=by omega
      have QT:V.take j=V:=by rw [TU,<-HV.2.1];exact List.take_length
      rw [QT] at TY hal;have hpk:Ep x m lo hi2=V:=by rw [nO.out];exact Jm hal
      have hlk:EK x m lo hi2=j:=by
       unfold EK;rw [hpk,HV.1,if_neg (by omega),HV.2.1,TU];rfl
      have hrow3:=TY;rw [<-hpk] at hrow3;have Oi:=La;have Xk:=h23;have htj:((t+1+EK x m lo hi2:Nat):Int)=(t:Int)+1+(j:Int):=by rw [hlk];omega
      clear hpk hlk QT TY hal La h23 TU hj k1 k2 hjn;have k3:wr.cell? ⟨kb,3,none⟩=some (.pointer ql):=by simp [World.cell?,Xk]
      have k4:wr.cell? ⟨kb,4,none⟩=some (.pointer qr):=by simp [World.cell?,Xk]
      have k0:wr.cell? kb=some (.int .i64 m):=by simp [World.cell?,Xk]
      have qc3:wr.cell? q=some (.int .i64 x):=(Oi.cell (p:=⟨q,0,none⟩) HQ.2.1 (by simp)).trans HQ.2.2;have HF:=Aq hrow3 Oi htj;clear hrow3 Oi Xk htj;by_cases hcx:x<m
      ·have hcm:=λw'=>cmpInt x m w'
       rw [OX hcx] at hcm;have HCM:=AX (λw'=>(hcm w').mono (λe w'' hh=>(⟨hh.1,hh.2.symm⟩:e=.returned (.int .i64 (-1))/\w''=w')));have HST:=AX (fU (lo:=lo) (hi:=hi2) (l:=l) (r:=r) hcx);clear hcm hcx;go_wp2_with fail
       go_quiet (first | (go_at_call 182;refine Calls.quiet_of_same (HCM.out _)))
       go_wp2_with fail
       go_roundg (l.depth)
       case measure=>have h1:=HK.2.2.1;have h2:=HK.2.2.2.1;omega
       case rel=>
        have h1:=HA.1;have h2:=HA.2.1;rw [HST.1] at h1;rw [HST.2] at h2;exact ⟨l,Fl,_,acc++Ep x m lo hi2,t+1+EK x m lo hi2,rfl,rfl,by rw [HF.2.2],HK.1,VF.2.2.1,Bl HF.1 ((Bj.refl [] _).drewN _) (by simp),by rw [List.append_assoc];exact h1,by omega,HF.2.1.drewN _⟩
      ·replace hcx:x=m:=Ac HX;have hcm:=λw'=>cmpInt x m w'
       rw [RQ hcx] at hcm;have HCM:=AX (λw'=>(hcm w').mono (λe w'' hh=>(⟨hh.1,hh.2.symm⟩:e=.returned (.int .i64 (0))/\w''=w')));have HST:=AX (fZ (lo:=lo) (hi:=hi2) (l:=l) (r:=r) hcx);clear hcm hcx;go_wp2_with fail
       go_quiet (first | (go_at_call 182;refine Calls.quiet_of_same (HCM.out _)))
       go_wp2_with fail
       go_roundg (Kn.nil.depth)
       case measure=>have h1:=HK.2.2.1;have h2:=HK.2.2.2.2.2;omega
       case rel=>
        have h1:=HA.1;have h2:=HA.2.1;rw [HST.1] at h1;rw [HST.2] at h2;exact ⟨.nil,[],_,acc++Ep x m lo hi2,t+1+EK x m lo hi2,rfl,rfl,by rw [HF.2.2],⟨rfl,rfl⟩,trivial,Bl HF.1 ((Bj.refl [] _).drewN _) (by simp),by rw [List.append_assoc];exact h1,by omega,HF.2.1.drewN _⟩
def bhd (R:List Sp) (x:Int):Nat:=(R.filter λs=>decide (s.lo<=x)).length
theorem a1T {R:List Sp} {x:Int} {i:Nat} (hi:i<=R.length) (h1:∀s∈R.take i,s.lo<=x) (h2:∀s∈R.drop i,x<s.lo):bhd R x=i:=by
 unfold bhd;conv=>lhs;rw [<-List.take_append_drop i R]
 rw [List.filter_append,List.filter_eq_self.2 (by simpa using h1),List.filter_eq_nil_iff.2 (by intro s hs hc;have:=h2 s hs;simp at hc;omega),List.append_nil,Bf];omega
structure J8 (w:World) (q c:Nat):Prop where
 cell:w.cell? q=some (.int .i64 (c:Int))
 soft:w.frozen? q=false
theorem J8.upd {w w':World} {q c:Nat} (h:J8 w q c) {F:List Nat} (hu:Bj F w w') (hq:q∉F):J8 w' q c:=
 ⟨(hu.cell (World.block_lt_of_cell? w _ h.cell) hq).trans h.cell,(hu.frozen (World.block_lt_of_cell? w _ h.cell) hq).trans h.soft⟩
theorem J8.set {w:World} {q c:Nat} (h:J8 w q c) (d:Nat):J8 (w.setCell q (.int .i64 (d:Int))) q d:=
 ⟨World.cell?_setCell_same' _ _ _ (by rw [h.cell];rfl),by rw [World.frozen?_setCell];exact h.soft⟩
def QV (s:Sp) (x:Int):Int:=if s.lo<=x then -1 else 1
theorem OT (s:Sp) (x:Int) (q c:Nat) (w:World) (h:J8 w q c) (hc:c<1000000) :
 Calls Tryz.prog 215 #[IE s,x,.pointer (some q)] w λe w'=>e=.returned (.int .i64 (QV s x))/\J8 w' q (c+1)/\Bj [q] w w':=by
 obtain ⟨lo,hi,id⟩:=s;have hu:Bj [] w (w.alloc (.cells #[lo,hi,.int .u32 (id:Int)] 62)):=(Bj.refl _ _).alloc _;have h1:=h.upd hu (by simp);have hql:q<w.heap.size:=World.block_lt_of_cell? w _ h.cell;have d0:(w.alloc (.cells #[lo,hi,.int .u32 (id:Int)] 62)).cell? w.heap.size=some (.int .i64 lo):=by rw [World.cell?_alloc_at _ _ _ _ rfl];rfl
 unfold IE QV;dsimp only;obtain ⟨z,hz⟩:∃z:Int,(if lo<=x then (-1:Int) else 1)=z:=⟨_,rfl⟩;rw [hz];have HZ:=AX hz;go_enter Tryz.func215,Tryz.ntmps215
 go_upto_region 1 with fail
 generalize (w.alloc (.cells #[lo,hi,.int .u32 (id:Int)] 62))=W at hu h1 d0 |-;have c1:=h1.cell;have c2:=h1.soft;have c0:(0:Int)<=(c:Int):=AY _;have c3:(c:Int)<1000000:=by omega
 have hs:=h1.set (c+1);have he:Value.int .i64 ((c+1:Nat):Int)=Value.int .i64 ((c:Int)+1):=by congr 1
 rw [he] at hs;have hup:Bj [q] w (W.setCell q (.int .i64 ((c:Int)+1))):=(hu.mono (G:=[q]) (by simp)).setCell (p:=⟨q,0,none⟩) (.inl (by simp)) _;have hqq:(⟨w.heap.size,0,none⟩:Addr).block∉[q]:=by simp;omega
 have e0:=(((Bj.refl [q] W).setCell (p:=⟨q,0,none⟩) (.inl (by simp)) (.int .i64 ((c:Int)+1))).cell (p:=⟨w.heap.size,0,none⟩) (World.block_lt_of_cell? _ _ d0) hqq).trans d0;have HF:=Ap hs hup;clear he hz h hu h1 hs hup hqq hql;go_upto_region 2 with fail
 clear c1 c2 d0;generalize (W.setCell q (.int .i64 ((c:Int)+1)))=W2 at e0 HF |-;by_cases hx:lo<=x
 ·have h9:z = -1:=by rw [<-HZ.out,if_pos hx]
  subst h9;go_wp2_with fail
  go_ret
  exact ⟨rfl,HF.out⟩
 ·have h9:z=1:=by rw [<-HZ.out,if_neg hx]
  subst h9;go_wp2_with fail
  go_ret
  exact ⟨rfl,HF.out⟩
theorem kH {R:List Sp} {x:Int} {p:Nat} {s:Sp} (h:R.Pairwise λa b=>a.lo<=b.lo) (hs:R[p]? = some s) (hx:s.lo<=x):∀y∈R.take (p+1),y.lo<=x:=by
 intro y hy;obtain ⟨h1,h2⟩:=AZ hs;rw [Bd h1,h2,List.mem_append] at hy;rcases hy with hy | hy
 ·obtain ⟨i,hi,rfl⟩:=List.mem_iff_getElem.1 hy;rw [Bf] at hi;rw [List.getElem_take];have:=List.pairwise_iff_getElem.1 h i p (by omega) h1 (by omega);rw [h2] at this;omega
 ·simp at hy;subst hy;exact hx
theorem kJ {R:List Sp} {x:Int} {p:Nat} {s:Sp} (h:R.Pairwise λa b=>a.lo<=b.lo) (hs:R[p]? = some s) (hx:x<s.lo):∀y∈R.drop p,x<y.lo:=by
 intro y hy;obtain ⟨h1,h2⟩:=AZ hs;obtain ⟨i,hi,rfl⟩:=List.mem_iff_getElem.1 hy;rw [List.length_drop] at hi;rw [List.getElem_drop];rcases Nat.eq_zero_or_pos i with h0 | h0
 ·subst h0;simp only [Nat.add_zero];rw [h2];exact hx
 ·have:=List.pairwise_iff_getElem.1 h p (p+i) h1 (by omega) (by omega);rw [h2] at this;omega
def IG (w:World) (q c:Nat) (R:List Sp) (x:Int) (e:Ending) (w':World):Prop:=
 ∃t:Nat,e=.returned (.tuple #[.int .i64 ((bhd R x:Nat):Int),.bool false])/\J8 w' q (c+t)/\t<=BA R.length+1/\Bj [q] w w'
theorem gK (v:Value) (R:List Sp) (x:Int) (q c:Nat) (w:World) (hs:See CY w v R) (hb:R.length<100000) (hq:J8 w q c) (hc:c<100000) (hv:0<R.length->q∉blk v) (hsr:R.Pairwise λa b=>a.lo<=b.lo) :
 Calls Tryz.prog 214 #[v,x,.func (.func 215) #[] #[.pointer (some q)]] w (IG w q c R x):=by
 obtain ⟨A,C,rfl⟩:=hs.form;obtain ⟨n,hn⟩:=AU R.length;rw [hn] at hs hb |-;have hbn:BA n<=17:=BP n 17 (by omega);have H:=AX hs;have HN:=Aq hn hsr hbn;have HQ:=AX hq;have HV:=AX hv;have n0:(0:Int)<=(n:Int):=AY _;have n1:(n:Int)<100000:=by omega
 have hse:∀w',Bj [q] w w'->See CY w' (.slice A n C) R:=λw' hu=>H.out.upd hu (λh0 k hk hkl hc=>by simp at hc;subst hc;exact HV.out h0 (by rw [HN.1];exact hk))
 have nU:=AX hse;unfold IG;clear hs hn hq hv hsr hbn hse;go_enter Tryz.func214,Tryz.ntmps214
 go_wp2_with fail
 go_loopg [9,10] n (λm s9 s10 wr=>∃(i j t:Nat),m+i=j/\j<=n/\s9=.int .i64 (i:Int)/\s10=.int .i64 (j:Int)/\(∀s∈R.take i,s.lo<=x)/\(∀s∈R.drop j,x<s.lo)/\J8 wr q (c+t)/\t+BA (j - i)<=BA n/\Bj [q] w wr)
 case atStart=>exact ⟨0,n,0,by omega,Nat.le_refl _,rfl,rfl,by simp,by rw [<-HN.1];simp,HQ.out,by simp,Bj.refl _ _⟩
 case round=>
  obtain ⟨i,j,t,hij,hjn,rfl,rfl,hlo,hhi,hcn,htb,hup⟩:=hrel;have i0:(0:Int)<=(i:Int):=AY _;have j0:(0:Int)<=(j:Int):=AY _;have hi1:i<=j:=by omega
  have hi2:(i:Int)<=(j:Int):=by omega
  have hj2:(j:Int)<=(n:Int):=by omega
  by_cases hlt:i<j
  ·obtain ⟨p,hp⟩:=AU ((i+j) / 2);have hip:i<=p/\p<j:=by omega
   obtain ⟨s,hs⟩:∃s,R[p]? = some s:=⟨_,Ba (by rw [HN.1];omega)⟩;obtain ⟨g,og,hA,-,-,ey⟩:=(nU.out wr hup).at hs;subst hA;have y0:wr.cell? ⟨g,og+p*3,none⟩=some (.int .i64 s.lo):=ey 0 _ rfl;have y1:wr.cell? ⟨g,og+p*3+1,none⟩=some (.int .i64 s.hi):=ey 1 _ rfl;have y2:wr.cell? ⟨g,og+p*3+2,none⟩=some (.int .u32 (s.id:Int)):=ey 2 _ rfl;have hct:c+t<1000000:=Ac HN.2.2;have hsd:=OT s x q (c+t) wr hcn hct;unfold IE at hsd;have b1:(i:Int)<(j:Int):=by omega
   have p0:(0:Int)<=(p:Int):=AY _;have p1:(p:Int)<(n:Int):=by omega
   have HK:=Az hij hjn hlo hhi htb hup;have HS:=AX hs;have HP:=Ap hip hp;have HCT:=Ap hcn hct;clear hij hjn hlo hhi hcn htb hup hs ey hp hip hct hi1;go_upto_region 5 with fail
   have hcv:Value.int .i64 (((i:Int)+(j:Int)) / 2)=Value.int .i64 (p:Int):=by have:=HP.2;congr 1;omega
   simp only [hcv];clear hcv;by_cases hx:s.lo<=x
   ·have hsv:QV s x = -1:=by unfold QV;rw [if_pos hx]
    rw [hsv] at hsd;have WY:=AX hsd;have HX:=AX (kH HN.2.1 HS.out hx);clear hsd hsv hx;go_wp2_with fail
    go_fit WY.out
    rintro e w3 ⟨rfl,h3,u3⟩;have HE:=Ap h3 u3;clear h3 u3 y0 y1 y2;go_wp2_with fail
    go_roundg (j - (p+1))
    case measure=>have h1:=HK.1;have h2:=HP.out;omega
    case rel=>
     obtain ⟨k1,k2,k3,k4,k5,k6⟩:=HK.out;have h2:=HP.out;have h5:=GV (n:=j - i) (by omega) (k:=j - (p+1)) (by omega);exact ⟨p+1,j,t+1,by omega,k2,by go_num,rfl,HX.out,k4,HE.1,by omega,k6.trans HE.2⟩
   ·have hsv:QV s x=1:=by unfold QV;rw [if_neg hx]
    rw [hsv] at hsd;have WY:=AX hsd;have HX:=AX (kJ HN.2.1 HS.out (show x<s.lo by omega));clear hsd hsv hx;go_wp2_with fail
    go_fit WY.out
    rintro e w3 ⟨rfl,h3,u3⟩;have HE:=Ap h3 u3;clear h3 u3 y0 y1 y2;go_wp2_with fail
    go_roundg (p - i)
    case measure=>have h1:=HK.1;have h2:=HP.out;omega
    case rel=>
     obtain ⟨k1,k2,k3,k4,k5,k6⟩:=HK.out;have h2:=HP.out;have h5:=GV (n:=j - i) (by omega) (k:=p - i) (by omega);exact ⟨i,p,t+1,by omega,by omega,rfl,rfl,k3,HX.out,HE.1,by omega,k6.trans HE.2⟩
  ·have hij2:i=j:=by omega
   subst hij2;have hb:=a1T (R:=R) (x:=x) (by rw [HN.1];exact hjn) hlo hhi;have HB:=AX hb;have aG:t<=BA n:=by omega
   have HK:=Ap aG hup;by_cases hin:i<n
   ·obtain ⟨s,hs⟩:∃s,R[i]? = some s:=⟨_,Ba (by rw [HN.1];omega)⟩;obtain ⟨g,og,hA,-,-,ey⟩:=(nU.out wr hup).at hs;subst hA;have y0:wr.cell? ⟨g,og+i*3,none⟩=some (.int .i64 s.lo):=ey 0 _ rfl;have y1:wr.cell? ⟨g,og+i*3+1,none⟩=some (.int .i64 s.hi):=ey 1 _ rfl;have y2:wr.cell? ⟨g,og+i*3+2,none⟩=some (.int .u32 (s.id:Int)):=ey 2 _ rfl;have hct:c+t<1000000:=Ac HN.2.2;have hsd:=OT s x q (c+t) wr hcn hct
    have hxs:x<s.lo:=hhi s (by
     obtain ⟨h1,h2⟩:=AZ hs;rw [List.drop_eq_getElem_cons h1,h2];simp)
    have hsv:QV s x=1:=by unfold QV;rw [if_neg (by omega)]
    rw [hsv] at hsd;unfold IE at hsd;have b1:(i:Int)<(n:Int):=by omega
    have WY:=AX hsd;clear hsd hsv hxs hs ey hct hlo hhi hcn htb hup hij hjn hi1 aG hb hlt;go_wp2_with fail
    go_fit WY.out
    rintro e w3 ⟨rfl,h3,u3⟩;have HE:=Ap h3 u3;clear h3 u3 y0 y1 y2;go_wp2_with fail
    go_ret2
    exact ⟨t+1,by rw [HB.out];rfl,HE.1,by rw [HN.1];have:=HK.1;omega,HK.2.trans HE.2⟩
   ·have hin2:i=n:=by omega
    subst hin2;have HC:=AX hcn;clear hlo hhi hcn htb hup hij hjn hi1 aG hb hlt;go_wp2_with fail
    go_ret2
    exact ⟨t,by rw [HB.out];rfl,HC.out,by rw [HN.1];have:=HK.1;omega,HK.2⟩
theorem qX {M:Nat} (hM:M<=1000000) (hso:Tv M) {w:World} {b:Nat} {p vr:Value} {R:List Sp} {T:Kn} {Fk:List Nat} (h:Jd w b p vr R T Fk) (x:Int) (qU:T.small) (hT:T.touch x<1000000) (hL:(T.FQ x).length<M) :
 Calls Tryz.prog 63 #[.pointer (some b),x] w (OW w (FX (IU (T.FQ x))) (T.touch x)):=by
 have c0:=h.cells.1;have HS:=AX (a1R h x qU hT (Bg hL hM));have hlen:(IU (T.FQ x)).length<M:=by rw [JB];exact hL
 obtain ⟨L,QT⟩:=AU (IU (T.FQ x));rw [QT] at HS hlen |-;have HL:=AX hlen;have HSU:=AX hso;clear h qU hT hL QT hlen hso hM;go_enter Tryz.func63,Tryz.ntmps63
 go_wp2_with fail
 go_fit HS.out
 rintro e w1 ⟨A,C,rfl,r1,u1⟩;have nR:=AX (HSU.out w.heap.size _ L w1 r1 HL.out);have HU:=Ap r1 u1;clear r1 u1;go_wp2_with fail
 go_fit nR.out
 rintro e w3 ⟨rfl,t1,t2⟩;have HT:=Ap t1 t2;clear t1 t2;go_wp2_with fail
 go_ret2
 refine ⟨A,C,?_,?_,HU.2.trans' HT.2 (λy hy=>.inr (BH HU.1 y hy))⟩
 ·rw [EF];rfl
 ·rw [EF];exact HT.1
def YA (w:World) (L:List Nat) (B:Nat) (e:Ending) (w':World):Prop:=∃t,OW w L t e w'/\L.length<=t/\t<=B+L.length
structure NG (w:World) (x:Sp) (T:Kn) (p:Value) (F:List Nat) (T':Kn) (p':Value) (F':List Nat) (S':List Sp):Prop where
 here:Gy w T' p' F'
 sub:∀k∈F',k∈F
 ok:T'.ok S'
 has:x∈S'
 nodup:S'.Nodup
 few:S'.length<=1000
 plug:∀w'',Bj F' w w''->Gy w'' (T'.drop x) p' F'->Gy w'' (T.drop x) p F
theorem NG.start {w:World} {x:Sp} {T:Kn} {p:Value} {F:List Nat} {S:List Sp} (h:Gy w T p F) (ho:T.ok S) (hx:x∈S) (hn:S.Nodup) (hf:S.length<=1000):NG w x T p F T p F S:=
 ⟨h,λ_ hk=>hk,ho,hx,hn,hf,λ_ _ hk=>hk⟩
theorem NG.node {w:World} {x:Sp} {T:Kn} {p:Value} {F:List Nat} {T':Kn} {p':Value} {F':List Nat} {S':List Sp} (h:NG w x T p F T' p' F' S') :
 ∃m lo hi l r,T'=.node m lo hi l r:=by
 cases T' with
 |nil=>have h1:=h.ok;have h2:=h.has;rw [show S' = [] from h1] at h2;simp at h2
 |node m lo hi l r=>exact ⟨m,lo,hi,l,r,rfl⟩
theorem aH {b:Nat} {Eb Gh:Value} {Fl Fr:List Nat} (hn:(b::(blk Eb++(blk Gh++(Fl++Fr)))).Nodup) :
 (b∉blk Eb/\b∉blk Gh/\b∉Fl/\b∉Fr)/\(∀k∈blk Eb,k∉blk Gh/\k∉Fl/\k∉Fr)/\(∀k∈blk Gh,k∉Fl/\k∉Fr)/\∀k∈Fl,k∉Fr:=by
 rw [List.nodup_cons,List.nodup_append,List.nodup_append,List.nodup_append] at hn;obtain ⟨h1,-,⟨-,⟨-,-,h4⟩,h3⟩,h2⟩:=hn;simp only [List.mem_append] at h1 h2 h3
 refine ⟨⟨λhc=>h1 (.inl hc),λhc=>h1 (.inr (.inl hc)),λhc=>h1 (.inr (.inr (.inl hc))),λhc=>h1 (.inr (.inr (.inr hc)))⟩,λk hk=>⟨λhc=>h2 k hk k (.inl hc) rfl,λhc=>h2 k hk k (.inr (.inl hc)) rfl,λhc=>h2 k hk k (.inr (.inr hc)) rfl⟩,
  λk hk=>⟨λhc=>h3 k hk k (.inl hc) rfl,λhc=>h3 k hk k (.inr hc) rfl⟩,λk hk hc=>h4 k hk k hc rfl⟩
structure a1U (w:World) (x:Sp) (T:Kn) (p:Value) (F:List Nat) (m:Int) (lo hi:List Sp) (l r:Kn) (S':List Sp) (b:Nat) (Eb Gh pl pr:Value) (Fl Fr:List Nat):Prop where
 head:w.heap[b]? = some (.cells #[m,Eb,Gh,pl,pr] 258 (0,0))
 rlo:CY.row w 0 Eb lo
 rhi:CY.row w 0 Gh hi
 left:x.hi<m->NG w x T p F l pl Fl (Em m S')
 right:¬x.hi<m->m<x.lo->NG w x T p F r pr Fr (En m S')
 inF:∀k,k=b\/k∈blk Eb\/k∈blk Gh->k∈F
 blo:b∉blk Eb
 bhi:b∉blk Gh
 lh:∀k∈blk Eb,k∉blk Gh
 flo:lo.length<=1000
 fhi:hi.length<=1000
 nlo:lo.Nodup
 nhi:hi.Nodup
 xlo:¬x.hi<m->¬m<x.lo->x∈lo
 xhi:¬x.hi<m->¬m<x.lo->x∈hi
 hit:¬x.hi<m->¬m<x.lo->∀(w'':World) (zi vn2:Value),Bj (b::(blk Eb++blk Gh)) w w''->w''.heap[b]? = some (.cells #[m,zi,vn2,pl,pr] 258 (0,0))->CY.row w'' 0 zi (without lo x)->CY.row w'' 0 vn2 (without hi x)->
  blk zi=blk Eb->blk vn2=blk Gh->Gy w'' (T.drop x) p F
theorem NG.open {w:World} {x:Sp} {T:Kn} {p:Value} {F:List Nat} {m:Int} {lo hi:List Sp} {l r:Kn} {p':Value} {F':List Nat} {S':List Sp} (h:NG w x T p F (.node m lo hi l r) p' F' S') :
 ∃(b:Nat) (Eb Gh pl pr:Value) (Fl Fr:List Nat),p'=.pointer (some b)/\a1U w x T p F m lo hi l r S' b Eb Gh pl pr Fl Fr:=by
 obtain ⟨b,Eb,Gh,pl,pr,Fl,Fr,rfl,h1,⟨h2,h3⟩,h4,h5,rfl,h6⟩:=h.here;obtain ⟨⟨o1,o2⟩,⟨o3,o4⟩,o5,o6⟩:=h.ok;obtain ⟨⟨a1,a2,a3,a4⟩,a5,a6,a7⟩:=aH h6;have hsub:=h.sub;have qY:=h.plug;have hhas:=h.has;have zk:=h.nodup;simp only [List.mem_cons,List.mem_append] at hsub;have hmid:¬x.hi<m->¬m<x.lo->x∈Eo m S':=λc1 c2=>by unfold Eo;rw [List.mem_filter];exact ⟨hhas,by simp;omega⟩
 refine ⟨b,Eb,Gh,pl,pr,Fl,Fr,rfl,⟨h1,h2,h3,λc1=>?_,λc1 c2=>?_,λk hk=>?_,a1,a2,λk hk=>(a5 k hk).1,by rw [o1.length_eq];exact Bh (List.length_filter_le _ _) h.few,by rw [o3.length_eq];exact Bh (List.length_filter_le _ _) h.few,o1.nodup_iff.2 (zk.filter _),o3.nodup_iff.2 (zk.filter _),
  λc1 c2=>o1.mem_iff.2 (hmid c1 c2),λc1 c2=>o3.mem_iff.2 (hmid c1 c2),λc1 c2 w'' zi vn2 hu hh r1 r2 e1 e2=>?_⟩⟩
 ·refine ⟨h4,λk hk=>hsub k (.inr (.inr (.inr (.inl hk)))),o5,by unfold Em;rw [List.mem_filter];exact ⟨hhas,by simpa using c1⟩,zk.filter _,Bh (List.length_filter_le _ _) h.few,λw'' hu hk=>qY w'' (hu.mono λy hy=>.inl (by simp only [List.mem_cons,List.mem_append];exact .inr (.inr (.inr (.inl hy))))) ?_⟩
  unfold Kn.drop;rw [if_pos c1];exact ⟨b,Eb,Gh,pl,pr,Fl,Fr,rfl,(hu.block b (lt_of_block h1) a3).trans h1,⟨Bl h2 hu (λk hk=>(a5 k hk).2.1),Bl h3 hu (λk hk=>(a6 k hk).1)⟩,hk,h5.upd hu (λk hk hc=>a7 k hc hk),rfl,h6⟩
 ·refine ⟨h5,λk hk=>hsub k (.inr (.inr (.inr (.inr hk)))),o6,by unfold En;rw [List.mem_filter];exact ⟨hhas,by simp;omega⟩,zk.filter _,Bh (List.length_filter_le _ _) h.few,λw'' hu hk=>qY w'' (hu.mono λy hy=>.inl (by simp only [List.mem_cons,List.mem_append];exact .inr (.inr (.inr (.inr hy))))) ?_⟩
  unfold Kn.drop;rw [if_neg c1,if_pos c2];exact ⟨b,Eb,Gh,pl,pr,Fl,Fr,rfl,(hu.block b (lt_of_block h1) a4).trans h1,⟨Bl h2 hu (λk hk=>(a5 k hk).2.2),Bl h3 hu (λk hk=>(a6 k hk).2)⟩,h4.upd hu (λk hk=>a7 k hk),hk,rfl,h6⟩
 ·rcases hk with hk | hk | hk
  ·exact hsub k (.inl hk)
  ·exact hsub k (.inr (.inl hk))
  ·exact hsub k (.inr (.inr (.inl hk)))
 ·have hnu:∀{k:Nat},(k∈Fl\/k∈Fr)->k∉b::(blk Eb++blk Gh):=λhk hc=>by
   simp only [List.mem_cons,List.mem_append] at hc;rcases hk with hk | hk<;>rcases hc with rfl | hc | hc
   ·exact a3 hk
   ·exact (a5 _ hc).2.1 hk
   ·exact (a6 _ hc).1 hk
   ·exact a4 hk
   ·exact (a5 _ hc).2.2 hk
   ·exact (a6 _ hc).2 hk
  refine qY w'' (hu.mono λy hy=>.inl (by simp only [List.mem_cons,List.mem_append] at hy |-;rcases hy with hy | hy | hy;exact .inl hy;exact .inr (.inl hy);exact .inr (.inr (.inl hy)))) ?_
  unfold Kn.drop;rw [if_neg c1,if_neg c2];exact ⟨b,zi,vn2,pl,pr,Fl,Fr,rfl,hh,⟨r1,r2⟩,h4.upd hu (λk hk=>hnu (.inl hk)),h5.upd hu (λk hk=>hnu (.inr hk)),by rw [e1,e2],h6⟩
