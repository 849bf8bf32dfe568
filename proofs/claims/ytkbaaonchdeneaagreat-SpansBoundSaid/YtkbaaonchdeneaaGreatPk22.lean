/- ivl.stab: what a number stabs, knot by knot. Printed by mkstab.py. -/
import Derived.Test.YtkbaaonchdeneaaGreatPkSpansTellP6
import Derived.Test.YtkbaaonchdeneaaGreatPkSpansTellP7
import Derived.Test.YtkbaaonchdeneaaGreatPkSpansTellP2
set_option maxHeartbeats 16000000
set_option maxRecDepth 100000
namespace Go.Proofs.YtkbaaonchdeneaaGreat
open Go.RowKit
theorem hasLoC (s:Sp) (x:Int) (q:Nat) (w:World) (h:w.cell? ⟨q,0,none⟩=some (.int .i64 x)) :
 Calls Tryz.prog 180 #[spV s,.pointer (some ⟨q,0,none⟩)] w fun e w'=>e=.returned (.bool (decide (s.lo≤x)))∧Upd [] w w':=by
 have hc:(w.alloc (.cells #[.int .i64 s.lo,.int .i64 s.hi,.int .u32 (s.id:Int)] 62)).cell? ⟨q,0,none⟩=some (.int .i64 x):=(((Upd.refl [] w).alloc _).cell (World.block_lt_of_cell? w _ h) (by simp)).trans h
 have d0:(w.alloc (.cells #[.int .i64 s.lo,.int .i64 s.hi,.int .u32 (s.id:Int)] 62)).cell? ⟨w.heap.size,0,none⟩=some (.int .i64 s.lo):=by rw [World.cell?_alloc_at _ _ _ _ rfl];rfl
 unfold spV
 go_enter Tryz.func180,Tryz.ntmps180
 go_wp2_with fail
 go_ret
 exact ⟨rfl,(Upd.refl _ _).alloc _⟩
theorem hasHiC (s:Sp) (x:Int) (q:Nat) (w:World) (h:w.cell? ⟨q,0,none⟩=some (.int .i64 x)) :
 Calls Tryz.prog 181 #[spV s,.pointer (some ⟨q,0,none⟩)] w fun e w'=>e=.returned (.bool (decide (x≤s.hi)))∧Upd [] w w':=by
 have hc:(w.alloc (.cells #[.int .i64 s.lo,.int .i64 s.hi,.int .u32 (s.id:Int)] 62)).cell? ⟨q,0,none⟩=some (.int .i64 x):=(((Upd.refl [] w).alloc _).cell (World.block_lt_of_cell? w _ h) (by simp)).trans h
 have d0:(w.alloc (.cells #[.int .i64 s.lo,.int .i64 s.hi,.int .u32 (s.id:Int)] 62)).cell? ⟨w.heap.size,1,none⟩=some (.int .i64 s.hi):=by rw [World.cell?_alloc_at _ _ _ _ rfl];rfl
 unfold spV
 go_enter Tryz.func181,Tryz.ntmps181
 go_wp2_with fail
 go_ret
 exact ⟨rfl,(Upd.refl _ _).alloc _⟩
def idsK (L:List Sp):List Nat:=L.map Sp.id
theorem idsK_app (A B:List Sp):idsK (A++B)=idsK A++idsK B:=by simp [idsK]
theorem idsK_len (A:List Sp):(idsK A).length=A.length:=by simp [idsK]
theorem takeWhile_all {α:Type} {p:α→Bool}:∀{l:List α},(∀a∈l,p a=true)→l.takeWhile p=l
 | [],_=>rfl
 |a::l,h=>by rw [List.takeWhile_cons_of_pos (h a (by simp)),takeWhile_all fun b hb=>h b (by simp [hb])]
theorem takeWhile_stop {α:Type} {p:α→Bool} {l:List α} {k:Nat} {a:α} (h:∀b∈l.take k,p b=true) (ha:l[k]? = some a) (hn:p a=false):l.takeWhile p=l.take k:=by
 obtain ⟨h1,h2⟩:=List.getElem?_eq_some_iff.1 ha
 have e:l=l.take k++a::l.drop (k+1):=by rw [←h2,←List.drop_eq_getElem_cons h1,List.take_append_drop]
 conv=>lhs;rw [e]
 rw [List.takeWhile_append_of_pos h,List.takeWhile_cons_of_neg (by simp [hn]),List.append_nil]
theorem depth_l (m:Int) (lo hi:List Sp) (l r:Kn):l.depth<(Kn.node m lo hi l r).depth∧r.depth<(Kn.node m lo hi l r).depth∧Kn.nil.depth<(Kn.node m lo hi l r).depth:=by
 simp only [Kn.depth];omega
theorem stab_lt {x m:Int} {lo hi:List Sp} {l r:Kn} (h:x<m):(Kn.node m lo hi l r).stab x=partK x m lo hi++l.stab x∧(Kn.node m lo hi l r).touch x=1+lookK x m lo hi+l.touch x:=by
 exact ⟨by show partK x m lo hi++(if x<m then l.stab x else if m<x then r.stab x else [])=_;rw [if_pos h],by show 1+lookK x m lo hi+(if x<m then l.touch x else if m<x then r.touch x else 0)=_;rw [if_pos h]⟩
theorem stab_gt {x m:Int} {lo hi:List Sp} {l r:Kn} (h:m<x):(Kn.node m lo hi l r).stab x=partK x m lo hi++r.stab x∧(Kn.node m lo hi l r).touch x=1+lookK x m lo hi+r.touch x:=by
 exact ⟨by show partK x m lo hi++(if x<m then l.stab x else if m<x then r.stab x else [])=_;rw [if_neg (show ¬x<m by omega),if_pos h],by show 1+lookK x m lo hi+(if x<m then l.touch x else if m<x then r.touch x else 0)=_;rw [if_neg (show ¬x<m by omega),if_pos h]⟩
theorem stab_eq {x m:Int} {lo hi:List Sp} {l r:Kn} (h:x=m):(Kn.node m lo hi l r).stab x=partK x m lo hi++Kn.nil.stab x∧(Kn.node m lo hi l r).touch x=1+lookK x m lo hi+Kn.nil.touch x:=by
 exact ⟨by show partK x m lo hi++(if x<m then l.stab x else if m<x then r.stab x else [])=_;rw [if_neg (show ¬x<m by omega),if_neg (show ¬m<x by omega)];rfl,by show 1+lookK x m lo hi+(if x<m then l.touch x else if m<x then r.touch x else 0)=_;rw [if_neg (show ¬x<m by omega),if_neg (show ¬m<x by omega)];rfl⟩
theorem part_le (x m:Int) (lo hi:List Sp) (l r:Kn):(partK x m lo hi).length≤((Kn.node m lo hi l r).stab x).length:=by
 show _≤(partK x m lo hi++_).length
 rw [List.length_append]
 omega
def Kn.small:Kn→Prop
 |.nil=>True
 |.node _ lo hi l r=>lo.length<1000000∧hi.length<1000000∧l.small∧r.small
theorem ok_small:∀{T:Kn} {S:List Sp},T.ok S→S.length<1000000→T.small
 |.nil,_,_,_=>trivial
 |.node m lo hi l r,S,h,hb=>by
  obtain ⟨⟨h1,h2⟩,⟨h3,h4⟩,h5,h6⟩:=h
  have hm:(midS m S).length≤S.length:=List.length_filter_le _ _
  have hl:(lessS m S).length≤S.length:=List.length_filter_le _ _
  have hr:(moreS m S).length≤S.length:=List.length_filter_le _ _
  exact ⟨by rw [h1.length_eq];omega,by rw [h3.length_eq];omega,ok_small h5 (by omega),ok_small h6 (by omega)⟩
theorem take_le {α:Type} {p:α→Bool} {l:List α} {k:Nat} (h:∀b∈l.take k,p b=true) (hk:k≤l.length):k≤(l.takeWhile p).length:=by
 have e:l=l.take k++l.drop k:=(List.take_append_drop k l).symm
 have h2:(l.takeWhile p).length=((l.take k++l.drop k).takeWhile p).length:=by rw [←e]
 rw [List.takeWhile_append_of_pos h,List.length_append,List.length_take] at h2
 omega
def StabKPost (w:World) (L:List Nat) (t:Nat) (e:Ending) (w':World):Prop:=∃A C,e=.returned (.tuple #[.slice A L.length C,.int .i64 (t:Int)])∧KU.row w' w.heap.size (.slice A L.length C) L∧Upd [] w w'
theorem stabKC {w:World} {b:Nat} {p vr:Value} {R:List Sp} {T:Kn} {Fk:List Nat} (h:IvlAt w b p vr R T Fk) (x:Int) (hsml:T.small) (hT:T.touch x<1000000) (hL:(T.stab x).length<1000000) :
 Calls Tryz.prog 117 #[.pointer (some ⟨b,0,none⟩),.int .i64 x] w (StabKPost w (idsK (T.stab x)) (T.touch x)):=by
 obtain ⟨i0,hi,hz0,hz1,hz2⟩:=info_parts infoU32S
 obtain ⟨pq,rfl⟩:=h.tree.ptr
 have c1:=h.cells.2.1
 have HTR:=Lib.hid h.tree
 have HSML:=Lib.hid hsml
 have hbl:=lt_of_block h.head
 have HW0:=Lib.hid ((Upd.refl [] w).alloc (.cells #[.int .i64 x] 2))
 have hz0':w.heap.size<(w.alloc (.cells #[.int .i64 x] 2)).heap.size:=by simp
 have d0:(w.alloc (.cells #[.int .i64 x] 2)).cell? ⟨w.heap.size,0,none⟩=some (.int .i64 x):=by rw [World.cell?_alloc_at _ _ _ _ rfl];rfl
 have c1':(w.alloc (.cells #[.int .i64 x] 2)).cell? ⟨b,1,none⟩=some (.pointer pq):=(HW0.out.cell (p:=⟨b,1,none⟩) hbl (by simp)).trans c1
 obtain ⟨ST,hST⟩:∃ST,T.stab x=ST:=⟨_,rfl⟩
 obtain ⟨TT,hTT⟩:∃TT,T.touch x=TT:=⟨_,rfl⟩
 rw [hST] at hL ⊢
 rw [hTT] at hT ⊢
 have HS:=Lib.hid (And.intro hST (And.intro hTT hL))
 have HTB:=Lib.hid hT
 clear h hST hTT c1 hbl hL hT hsml
 go_enter Tryz.func117,Tryz.ntmps117
 go_upto_region 1 with fail
 generalize (w.alloc (.cells #[.int .i64 x] 2))=W0 at HW0 hz0' d0 c1' ⊢
 obtain ⟨q,hq⟩:∃q,w.heap.size=q:=⟨_,rfl⟩
 rw [hq] at hz0' d0 ⊢
 have HQ:=Lib.hid (And.intro hq (And.intro hz0' d0))
 clear hq hz0' d0
 go_wp2_with fail
 clear c1'
 go_loopg [6,7,8] T.depth (fun m' s6 s7 s8 wr=>∃(T':Kn) (Fs:List Nat) (vo:Value) (acc:List Sp) (t:Nat),m'=T'.depth∧s6=vo∧s7=.int .i64 (t:Int)∧KnAt w T' s8 Fs∧T'.small∧KU.row wr W0.heap.size vo (idsK acc)∧acc++T'.stab x=ST∧t+T'.touch x=TT∧Upd [] W0 wr)
 case atStart=>exact ⟨T,Fk,.slice none 0 0,[],0,rfl,rfl,rfl,HTR.out,HSML.out,World.ownsRow_nil _ _ _ _,HS.out.1,by have:=HS.out.2.1;omega,Upd.refl _ _⟩
 case round=>
  obtain ⟨T',Fs,vo,acc,t,hmd,rfl,rfl,hk,hsm,hro,hst,hto,hup⟩:=hrel
  cases T' with
  |nil=>
   obtain ⟨rfl,-⟩:=hk
   have e1:acc=ST:=by rw [←hst];simp [Kn.stab]
   have e2:t=TT:=by rw [←hto];simp [Kn.touch]
   subst e1 e2
   obtain ⟨Ao,Co,rfl⟩:=own_form hro
   have HR:=Lib.hid (And.intro hro hup)
   clear hro hup hst hto hmd hsm
   go_wp2_with fail
   go_ret2
   exact ⟨Ao,Co,rfl,own_base HR.out.1 (by have:=HQ.out.1;have:=HQ.out.2.1;omega),HW0.out.trans HR.out.2⟩
  |node m lo hi2 l r=>
   obtain ⟨kb,vlo,vhi,pl,pr,Fl,Fr,rfl,hhd,⟨hrl,hrh⟩,hkl,hkr,-,-⟩:=hk
   obtain ⟨ql,rfl⟩:=hkl.ptr
   obtain ⟨qr,rfl⟩:=hkr.ptr
   have hw1:Upd [] w wr:=HW0.out.trans hup
   have hhw:wr.heap[kb]? = some (.cells #[.int .i64 m,vlo,vhi,.pointer ql,.pointer qr] 258 (0,0)):=(hw1.block kb (lt_of_block hhd) (by simp)).trans hhd
   have qc:wr.cell? ⟨q,0,none⟩=some (.int .i64 x):=(hup.cell (p:=⟨q,0,none⟩) HQ.out.2.1 (by simp)).trans HQ.out.2.2
   have t0:(0:Int)≤(t:Int):=Int.natCast_nonneg _
   have t1:(t:Int)<1000000:=by have:=HTB.out;omega
   have hdep:=depth_l m lo hi2 l r
   obtain ⟨hsl,hsh,hsa,hsb⟩:=hsm
   have HSB:=Lib.hid (And.intro hsl (And.intro hsh (And.intro hsa hsb)))
   clear hsl hsh hsa hsb
   have HK:=Lib.hid (And.intro hkl (And.intro hkr (And.intro hmd hdep)))
   have HA:=Lib.hid (And.intro hst (And.intro hto (And.intro hro (And.intro hup hw1))))
   have HH:=Lib.hid hhd
   have HLH:=Lib.hid (And.intro hrl hrh)
   have HQC:=Lib.hid qc
   have k0:wr.cell? ⟨kb,0,none⟩=some (.int .i64 m):=by simp [World.cell?,hhw]
   have k1:wr.cell? ⟨kb,1,none⟩=some vlo:=by simp [World.cell?,hhw]
   have k2:wr.cell? ⟨kb,2,none⟩=some vhi:=by simp [World.cell?,hhw]
   clear hro hst hto hup hw1 hhw hrl hrh hkl hkr hhd hmd hdep
   by_cases hx:m<x
   ·have HX:=Lib.hid hx
    have q1:decide (m<x)=true:=decide_eq_true hx
    obtain ⟨Av,Cv,rfl⟩:=own_form HLH.out.2
    have hrow:KSp.row w 0 (.slice Av hi2.length Cv) hi2:=HLH.out.2
    obtain ⟨V,hV⟩:∃V,hi2=V:=⟨_,rfl⟩
    have hrowK:rowK x m lo hi2=V:=by unfold rowK;rw [if_pos HX.out];exact hV
    rw [hV] at hrow k2
    obtain ⟨n,hn⟩:∃n,V.length=n:=⟨_,rfl⟩
    rw [hn] at hrow k2
    have hhas:∀(s:Sp) (w':World),Upd [] W0 w'→Calls Tryz.prog 181 #[spV s,.pointer (some ⟨q,0,none⟩)] w' fun e w''=>e=.returned (.bool (hasK x m s))∧Upd [] w' w'':=fun s w' hu=>by
     unfold hasK
     rw [if_pos HX.out]
     exact hasHiC s x q w' ((hu.cell (p:=⟨q,0,none⟩) HQ.out.2.1 (by simp)).trans HQ.out.2.2)
    have n0:(0:Int)≤(n:Int):=Int.natCast_nonneg _
    have HSM:=Lib.hid (show n<1000000 by rw [←hn,←hV];exact HSB.out.2.1)
    have HV:=Lib.hid (And.intro hrowK (And.intro hn hrow))
    have HHAS:=Lib.hid hhas
    have HPV:=Lib.hid (show partK x m lo hi2=V.takeWhile (hasK x m) by unfold partK;rw [HV.out.1])
    clear hrow hrowK hn hhas hx hV
    go_wp2_with fail
    go_quiet (fail)
    clear q1 k0
    go_wp2_with fail
    generalize hwd:wr.drewN _=Wd
    have hud:Upd [] wr Wd:=hwd ▸ (Upd.refl [] wr).drewN _
    have HUD:=Lib.hid hud
    clear hwd hud
    go_loopg [6,7,39] n (fun m6 s6 s7 s39 wr=>∃(j:Nat) (vo':Value),m6+j=n∧s6=vo'∧s39=.int .i64 (j:Int)∧s7=.int .i64 ((t+1+j:Nat):Int)∧KU.row wr W0.heap.size vo' (idsK (acc++V.take j))∧(∀s∈V.take j,hasK x m s=true)∧Upd [] W0 wr)
    case atStart=>exact ⟨0,_,rfl,rfl,rfl,by go_num,by rw [List.take_zero,List.append_nil];exact own_upd HA.out.2.2.1 HUD.out (by simp),by simp,HA.out.2.2.2.1.trans HUD.out⟩
    case round=>
     obtain ⟨j,vo',hj,rfl,rfl,rfl,hro2,hal,hup2⟩:=hrel
     have j0:(0:Int)≤(j:Int):=Int.natCast_nonneg _
     have hjn:j≤n:=by omega
     have tj1:((t+1+j:Nat):Int)=(t:Int)+1+(j:Int):=by omega
     have hmx:(n:Int)≤1000000:=by have:=HSM.out;omega
     have h23:=((HW0.out.trans hup2).block kb (lt_of_block HH.out) (by simp)).trans HH.out
     have HJ:=Lib.hid (And.intro hj (And.intro hro2 (And.intro hal (And.intro hup2 h23))))
     rw [tj1]
     by_cases hlt:j<n
     ·obtain ⟨s,hs⟩:∃s,V[j]? = some s:=⟨_,List.getElem?_eq_getElem (by rw [HV.out.2.1];exact hlt)⟩
      have hse:See KSp wr (.slice Av n Cv) V:=See.of_row (by have:=own_upd HV.out.2.2 (HW0.out.trans hup2) (by simp);exact this)
      obtain ⟨g,og,hAv,-,-,ey⟩:=hse.at hs
      subst hAv
      have y0:wr.cell? ⟨g,og+j*3,none⟩=some (.int .i64 s.lo):=ey 0 _ rfl
      have y1:wr.cell? ⟨g,og+j*3+1,none⟩=some (.int .i64 s.hi):=ey 1 _ rfl
      have y2:wr.cell? ⟨g,og+j*3+2,none⟩=some (.int .u32 (s.id:Int)):=ey 2 _ rfl
      have b1:(j:Int)<(n:Int):=by omega
      have HS2:=Lib.hid hs
      clear hse ey hs hj hro2 hal hup2 h23 k1 k2
      obtain ⟨wl,hwl⟩:∃wl:World,wl=wr:=⟨_,rfl⟩
      subst hwl
      go_upto_region 13 with fail
      have hu2:Upd [] wl (wl.alloc (.cells #[.int .i64 s.lo,.int .i64 s.hi,.int .u32 (s.id:Int)] 62)):=(Upd.refl _ _).alloc _
      have d0:(wl.alloc (.cells #[.int .i64 s.lo,.int .i64 s.hi,.int .u32 (s.id:Int)] 62)).cell? ⟨wl.heap.size,0,none⟩=some (.int .i64 s.lo):=by rw [World.cell?_alloc_at _ _ _ _ rfl];rfl
      have d1:(wl.alloc (.cells #[.int .i64 s.lo,.int .i64 s.hi,.int .u32 (s.id:Int)] 62)).cell? ⟨wl.heap.size,1,none⟩=some (.int .i64 s.hi):=by rw [World.cell?_alloc_at _ _ _ _ rfl];rfl
      have d2:(wl.alloc (.cells #[.int .i64 s.lo,.int .i64 s.hi,.int .u32 (s.id:Int)] 62)).cell? ⟨wl.heap.size,2,none⟩=some (.int .u32 (s.id:Int)):=by rw [World.cell?_alloc_at _ _ _ _ rfl];rfl
      have hq2:wl.heap.size<(wl.alloc (.cells #[.int .i64 s.lo,.int .i64 s.hi,.int .u32 (s.id:Int)] 62)).heap.size:=by simp
      generalize (wl.alloc (.cells #[.int .i64 s.lo,.int .i64 s.hi,.int .u32 (s.id:Int)] 62))=W2 at hu2 d0 d1 d2 hq2 ⊢
      obtain ⟨q2,hq2e⟩:∃q2,wl.heap.size=q2:=⟨_,rfl⟩
      rw [hq2e] at d0 d1 d2 hq2 ⊢
      have hcall:=HHAS.out s W2 (HJ.out.2.2.2.1.trans hu2)
      unfold spV at hcall
      have HU2:=Lib.hid hu2
      have HQ2:=Lib.hid (And.intro d2 hq2)
      clear hu2 y0 y1 y2 hq2e
      cases hb:hasK x m s with
      |false=>
       rw [hb] at hcall
       have HC:=Lib.hid hcall
       clear hcall
       go_wp2_with fail
       (with_reducible refine HC.out.mono ?_)
       rintro e w3 ⟨rfl,u3⟩
       have hpk:partK x m lo hi2=V.take j:=by rw [HPV.out];exact takeWhile_stop HJ.out.2.2.1 HS2.out hb
       have hlk:lookK x m lo hi2=j+1:=by
        unfold lookK
        rw [hpk,HV.out.1,List.length_take,HV.out.2.1,Nat.min_eq_left hjn,if_pos hlt]
       have hu3:=HU2.out.trans u3
       have hrow3:=own_upd HJ.out.2.1 hu3 (by simp)
       rw [←hpk] at hrow3
       have hupw:=HJ.out.2.2.2.1.trans hu3
       have h33:=(hu3.block kb (lt_of_block HJ.out.2.2.2.2) (by simp)).trans HJ.out.2.2.2.2
       have htj:((t+1+lookK x m lo hi2:Nat):Int)=(t:Int)+1+(j:Int)+1:=by rw [hlk];omega
       clear d0 d1 d2 u3 hpk hlk hu3 hb hq2
       have k3:w3.cell? ⟨kb,3,none⟩=some (.pointer ql):=by simp [World.cell?,h33]
       have k4:w3.cell? ⟨kb,4,none⟩=some (.pointer qr):=by simp [World.cell?,h33]
       have k0:w3.cell? ⟨kb,0,none⟩=some (.int .i64 m):=by simp [World.cell?,h33]
       have qc3:w3.cell? ⟨q,0,none⟩=some (.int .i64 x):=(hupw.cell (p:=⟨q,0,none⟩) HQ.out.2.1 (by simp)).trans HQ.out.2.2
       have HF:=Lib.hid (And.intro hrow3 (And.intro hupw htj))
       clear hrow3 hupw h33 htj
       have hcx:m<x:=HX.out
       have hcm:=fun w'=>cmpInt x m w'
       rw [cmpI_gt hcx] at hcm
       have HCM:=Lib.hid (fun w'=>(hcm w').mono (fun e w'' hh=>(⟨hh.1,hh.2.symm⟩:e=.returned (.int .i64 (1))∧w''=w')))
       have HST:=Lib.hid (stab_gt (lo:=lo) (hi:=hi2) (l:=l) (r:=r) hcx)
       clear hcm hcx
       go_wp2_with fail
       go_quiet (first | (go_at_call 182;refine Calls.quiet_of_same (HCM.out _)))
       go_wp2_with fail
       go_roundg (r.depth)
       case measure=>have h1:=HK.out.2.2.1;have h2:=HK.out.2.2.2.2.1;omega
       case rel=>
        have h1:=HA.out.1
        have h2:=HA.out.2.1
        rw [HST.out.1] at h1
        rw [HST.out.2] at h2
        exact ⟨r,Fr,_,acc++partK x m lo hi2,t+1+lookK x m lo hi2,rfl,rfl,by rw [HF.out.2.2],HK.out.2.1,HSB.out.2.2.2,own_upd HF.out.1 ((Upd.refl [] _).drewN _) (by simp),by rw [List.append_assoc];exact h1,by omega,HF.out.2.1.drewN _⟩
      |true=>
       rw [hb] at hcall
       have HC:=Lib.hid hcall
       have hal2:∀y∈V.take (j+1),hasK x m y=true:=fun y hy=>by
        obtain ⟨g1,g2⟩:=List.getElem?_eq_some_iff.1 HS2.out
        rw [List.take_succ_eq_append_getElem g1,g2,List.mem_append] at hy
        rcases hy with hy | hy
        ·exact HJ.out.2.2.1 y hy
        ·simp at hy;subst hy;exact hb
       have hlen:(acc++V.take j).length+1<1000000:=by
        have h1:=take_le hal2 (by rw [HV.out.2.1];omega)
        have h2:=part_le x m lo hi2 l r
        have h3:=congrArg List.length HA.out.1
        rw [List.length_append] at h3
        rw [HPV.out] at h2
        rw [List.length_append,List.length_take,HV.out.2.1,Nat.min_eq_left hjn]
        have h4:=HS.out.2.2
        omega
       have HAL:=Lib.hid (And.intro hal2 hlen)
       clear hcall hal2 hlen hb
       go_wp2_with fail
       (with_reducible refine HC.out.mono ?_)
       rintro e w3 ⟨rfl,u3⟩
       have hd2:w3.cell? ⟨q2,2,none⟩=some (.int .u32 (s.id:Int)):=(u3.cell (p:=⟨q2,2,none⟩) HQ2.out.2 (by simp)).trans HQ2.out.1
       have hu3:=HU2.out.trans u3
       have HU3:=Lib.hid (And.intro hu3 (own_upd HJ.out.2.1 hu3 (by simp)))
       have HZ3:=Lib.hid (show W0.heap.size≤w3.heap.size from by have h2:=HJ.out.2.2.2.1.size;have h3:=hu3.size;omega)
       clear u3 hu3 hq2 d0 d1 d2
       (go_wp2_with (at_builtin;refine wpList_app _ rfl _ _ 35 rfl W0.heap.size 26 i0 (.int .u32 0) 1 4 Tryz.underlying35 hi hz0 hz1 hz2 rfl (by decide) _ _ _ rfl (own_upd HU3.out.2 ((Upd.refl [] w3).alloc _) (by simp)) _ 1 [.int .u32 (s.id:Int)] rfl (sees_lit w3 #[.int .u32 (s.id:Int)] 26 1 1 rfl (by decide)) (by simp [Value.oneCell']) (by have:=HAL.out.2;rw [idsK_len];unfold maxLen;omega) (by have:=HAL.out.2;rw [idsK_len];omega) (by have:=HZ3.out;simp;omega) ?_))
       intro A1 C1 w4 HP
       have hr4:KU.row w4 W0.heap.size (.slice A1 ((idsK (acc++V.take j)).length+1) C1) (idsK (acc++V.take (j+1))):=by
        obtain ⟨g1,g2⟩:=List.getElem?_eq_some_iff.1 HS2.out
        have e:idsK (acc++V.take (j+1))=idsK (acc++V.take j)++[s.id]:=by
         rw [List.take_succ_eq_append_getElem g1,g2,←List.append_assoc,idsK_app (acc++V.take j) [s]]
         rfl
        rw [e]
        unfold Kind.row
        rw [List.length_append,KU.all_app]
        exact HP.own
       have hu4:=((HJ.out.2.2.2.1.trans HU3.out.1).alloc (.cells #[.int .u32 (s.id:Int)] 26)).trans' HP.upd (fun y hy=>.inr (own_ge HU3.out.2 y hy))
       have HE:=Lib.hid (And.intro hr4 hu4)
       clear hr4 hu4 HP hd2
       go_wp2_with fail
       go_roundg (n - (j+1))
       case measure=>have:=HJ.out.1;omega
       case rel=>exact ⟨j+1,_,by have:=HJ.out.1;omega,rfl,by go_num,by go_num,HE.out.1,HAL.out.1,HE.out.2⟩
     ·have hjn2:j=n:=by omega
      have hLL:V.take j=V:=by rw [hjn2,←HV.out.2.1];exact List.take_length
      rw [hLL] at hro2 hal
      have hpk:partK x m lo hi2=V:=by rw [HPV.out];exact takeWhile_all hal
      have hlk:lookK x m lo hi2=j:=by
       unfold lookK
       rw [hpk,HV.out.1,if_neg (by omega),HV.out.2.1,hjn2]
       rfl
      have hrow3:=hro2
      rw [←hpk] at hrow3
      have hupw:=hup2
      have h33:=h23
      have htj:((t+1+lookK x m lo hi2:Nat):Int)=(t:Int)+1+(j:Int):=by rw [hlk];omega
      clear hpk hlk hLL hro2 hal hup2 h23 hjn2 hj k1 k2 hjn
      have k3:wr.cell? ⟨kb,3,none⟩=some (.pointer ql):=by simp [World.cell?,h33]
      have k4:wr.cell? ⟨kb,4,none⟩=some (.pointer qr):=by simp [World.cell?,h33]
      have k0:wr.cell? ⟨kb,0,none⟩=some (.int .i64 m):=by simp [World.cell?,h33]
      have qc3:wr.cell? ⟨q,0,none⟩=some (.int .i64 x):=(hupw.cell (p:=⟨q,0,none⟩) HQ.out.2.1 (by simp)).trans HQ.out.2.2
      have HF:=Lib.hid (And.intro hrow3 (And.intro hupw htj))
      clear hrow3 hupw h33 htj
      have hcx:m<x:=HX.out
      have hcm:=fun w'=>cmpInt x m w'
      rw [cmpI_gt hcx] at hcm
      have HCM:=Lib.hid (fun w'=>(hcm w').mono (fun e w'' hh=>(⟨hh.1,hh.2.symm⟩:e=.returned (.int .i64 (1))∧w''=w')))
      have HST:=Lib.hid (stab_gt (lo:=lo) (hi:=hi2) (l:=l) (r:=r) hcx)
      clear hcm hcx
      go_wp2_with fail
      go_quiet (first | (go_at_call 182;refine Calls.quiet_of_same (HCM.out _)))
      go_wp2_with fail
      go_roundg (r.depth)
      case measure=>have h1:=HK.out.2.2.1;have h2:=HK.out.2.2.2.2.1;omega
      case rel=>
       have h1:=HA.out.1
       have h2:=HA.out.2.1
       rw [HST.out.1] at h1
       rw [HST.out.2] at h2
       exact ⟨r,Fr,_,acc++partK x m lo hi2,t+1+lookK x m lo hi2,rfl,rfl,by rw [HF.out.2.2],HK.out.2.1,HSB.out.2.2.2,own_upd HF.out.1 ((Upd.refl [] _).drewN _) (by simp),by rw [List.append_assoc];exact h1,by omega,HF.out.2.1.drewN _⟩
   ·have HX:=Lib.hid hx
    have q1:decide (m<x)=false:=decide_eq_false hx
    obtain ⟨Av,Cv,rfl⟩:=own_form HLH.out.1
    have hrow:KSp.row w 0 (.slice Av lo.length Cv) lo:=HLH.out.1
    obtain ⟨V,hV⟩:∃V,lo=V:=⟨_,rfl⟩
    have hrowK:rowK x m lo hi2=V:=by unfold rowK;rw [if_neg HX.out];exact hV
    rw [hV] at hrow k1
    obtain ⟨n,hn⟩:∃n,V.length=n:=⟨_,rfl⟩
    rw [hn] at hrow k1
    have hhas:∀(s:Sp) (w':World),Upd [] W0 w'→Calls Tryz.prog 180 #[spV s,.pointer (some ⟨q,0,none⟩)] w' fun e w''=>e=.returned (.bool (hasK x m s))∧Upd [] w' w'':=fun s w' hu=>by
     unfold hasK
     rw [if_neg HX.out]
     exact hasLoC s x q w' ((hu.cell (p:=⟨q,0,none⟩) HQ.out.2.1 (by simp)).trans HQ.out.2.2)
    have n0:(0:Int)≤(n:Int):=Int.natCast_nonneg _
    have HSM:=Lib.hid (show n<1000000 by rw [←hn,←hV];exact HSB.out.1)
    have HV:=Lib.hid (And.intro hrowK (And.intro hn hrow))
    have HHAS:=Lib.hid hhas
    have HPV:=Lib.hid (show partK x m lo hi2=V.takeWhile (hasK x m) by unfold partK;rw [HV.out.1])
    clear hrow hrowK hn hhas hx hV
    go_wp2_with fail
    go_quiet (fail)
    clear q1 k0
    go_wp2_with fail
    generalize hwd:wr.drewN _=Wd
    have hud:Upd [] wr Wd:=hwd ▸ (Upd.refl [] wr).drewN _
    have HUD:=Lib.hid hud
    clear hwd hud
    go_loopg [6,7,39] n (fun m6 s6 s7 s39 wr=>∃(j:Nat) (vo':Value),m6+j=n∧s6=vo'∧s39=.int .i64 (j:Int)∧s7=.int .i64 ((t+1+j:Nat):Int)∧KU.row wr W0.heap.size vo' (idsK (acc++V.take j))∧(∀s∈V.take j,hasK x m s=true)∧Upd [] W0 wr)
    case atStart=>exact ⟨0,_,rfl,rfl,rfl,by go_num,by rw [List.take_zero,List.append_nil];exact own_upd HA.out.2.2.1 HUD.out (by simp),by simp,HA.out.2.2.2.1.trans HUD.out⟩
    case round=>
     obtain ⟨j,vo',hj,rfl,rfl,rfl,hro2,hal,hup2⟩:=hrel
     have j0:(0:Int)≤(j:Int):=Int.natCast_nonneg _
     have hjn:j≤n:=by omega
     have tj1:((t+1+j:Nat):Int)=(t:Int)+1+(j:Int):=by omega
     have hmx:(n:Int)≤1000000:=by have:=HSM.out;omega
     have h23:=((HW0.out.trans hup2).block kb (lt_of_block HH.out) (by simp)).trans HH.out
     have HJ:=Lib.hid (And.intro hj (And.intro hro2 (And.intro hal (And.intro hup2 h23))))
     rw [tj1]
     by_cases hlt:j<n
     ·obtain ⟨s,hs⟩:∃s,V[j]? = some s:=⟨_,List.getElem?_eq_getElem (by rw [HV.out.2.1];exact hlt)⟩
      have hse:See KSp wr (.slice Av n Cv) V:=See.of_row (by have:=own_upd HV.out.2.2 (HW0.out.trans hup2) (by simp);exact this)
      obtain ⟨g,og,hAv,-,-,ey⟩:=hse.at hs
      subst hAv
      have y0:wr.cell? ⟨g,og+j*3,none⟩=some (.int .i64 s.lo):=ey 0 _ rfl
      have y1:wr.cell? ⟨g,og+j*3+1,none⟩=some (.int .i64 s.hi):=ey 1 _ rfl
      have y2:wr.cell? ⟨g,og+j*3+2,none⟩=some (.int .u32 (s.id:Int)):=ey 2 _ rfl
      have b1:(j:Int)<(n:Int):=by omega
      have HS2:=Lib.hid hs
      clear hse ey hs hj hro2 hal hup2 h23 k1 k2
      obtain ⟨wl,hwl⟩:∃wl:World,wl=wr:=⟨_,rfl⟩
      subst hwl
      go_upto_region 13 with fail
      have hu2:Upd [] wl (wl.alloc (.cells #[.int .i64 s.lo,.int .i64 s.hi,.int .u32 (s.id:Int)] 62)):=(Upd.refl _ _).alloc _
      have d0:(wl.alloc (.cells #[.int .i64 s.lo,.int .i64 s.hi,.int .u32 (s.id:Int)] 62)).cell? ⟨wl.heap.size,0,none⟩=some (.int .i64 s.lo):=by rw [World.cell?_alloc_at _ _ _ _ rfl];rfl
      have d1:(wl.alloc (.cells #[.int .i64 s.lo,.int .i64 s.hi,.int .u32 (s.id:Int)] 62)).cell? ⟨wl.heap.size,1,none⟩=some (.int .i64 s.hi):=by rw [World.cell?_alloc_at _ _ _ _ rfl];rfl
      have d2:(wl.alloc (.cells #[.int .i64 s.lo,.int .i64 s.hi,.int .u32 (s.id:Int)] 62)).cell? ⟨wl.heap.size,2,none⟩=some (.int .u32 (s.id:Int)):=by rw [World.cell?_alloc_at _ _ _ _ rfl];rfl
      have hq2:wl.heap.size<(wl.alloc (.cells #[.int .i64 s.lo,.int .i64 s.hi,.int .u32 (s.id:Int)] 62)).heap.size:=by simp
      generalize (wl.alloc (.cells #[.int .i64 s.lo,.int .i64 s.hi,.int .u32 (s.id:Int)] 62))=W2 at hu2 d0 d1 d2 hq2 ⊢
      obtain ⟨q2,hq2e⟩:∃q2,wl.heap.size=q2:=⟨_,rfl⟩
      rw [hq2e] at d0 d1 d2 hq2 ⊢
      have hcall:=HHAS.out s W2 (HJ.out.2.2.2.1.trans hu2)
      unfold spV at hcall
      have HU2:=Lib.hid hu2
      have HQ2:=Lib.hid (And.intro d2 hq2)
      clear hu2 y0 y1 y2 hq2e
      cases hb:hasK x m s with
      |false=>
       rw [hb] at hcall
       have HC:=Lib.hid hcall
       clear hcall
       go_wp2_with fail
       (with_reducible refine HC.out.mono ?_)
       rintro e w3 ⟨rfl,u3⟩
       have hpk:partK x m lo hi2=V.take j:=by rw [HPV.out];exact takeWhile_stop HJ.out.2.2.1 HS2.out hb
       have hlk:lookK x m lo hi2=j+1:=by
        unfold lookK
        rw [hpk,HV.out.1,List.length_take,HV.out.2.1,Nat.min_eq_left hjn,if_pos hlt]
       have hu3:=HU2.out.trans u3
       have hrow3:=own_upd HJ.out.2.1 hu3 (by simp)
       rw [←hpk] at hrow3
       have hupw:=HJ.out.2.2.2.1.trans hu3
       have h33:=(hu3.block kb (lt_of_block HJ.out.2.2.2.2) (by simp)).trans HJ.out.2.2.2.2
       have htj:((t+1+lookK x m lo hi2:Nat):Int)=(t:Int)+1+(j:Int)+1:=by rw [hlk];omega
       clear d0 d1 d2 u3 hpk hlk hu3 hb hq2
       have k3:w3.cell? ⟨kb,3,none⟩=some (.pointer ql):=by simp [World.cell?,h33]
       have k4:w3.cell? ⟨kb,4,none⟩=some (.pointer qr):=by simp [World.cell?,h33]
       have k0:w3.cell? ⟨kb,0,none⟩=some (.int .i64 m):=by simp [World.cell?,h33]
       have qc3:w3.cell? ⟨q,0,none⟩=some (.int .i64 x):=(hupw.cell (p:=⟨q,0,none⟩) HQ.out.2.1 (by simp)).trans HQ.out.2.2
       have HF:=Lib.hid (And.intro hrow3 (And.intro hupw htj))
       clear hrow3 hupw h33 htj
       by_cases hcx:x<m
       ·have hcm:=fun w'=>cmpInt x m w'
        rw [cmpI_lt hcx] at hcm
        have HCM:=Lib.hid (fun w'=>(hcm w').mono (fun e w'' hh=>(⟨hh.1,hh.2.symm⟩:e=.returned (.int .i64 (-1))∧w''=w')))
        have HST:=Lib.hid (stab_lt (lo:=lo) (hi:=hi2) (l:=l) (r:=r) hcx)
        clear hcm hcx
        go_wp2_with fail
        go_quiet (first | (go_at_call 182;refine Calls.quiet_of_same (HCM.out _)))
        go_wp2_with fail
        go_roundg (l.depth)
        case measure=>have h1:=HK.out.2.2.1;have h2:=HK.out.2.2.2.1;omega
        case rel=>
         have h1:=HA.out.1
         have h2:=HA.out.2.1
         rw [HST.out.1] at h1
         rw [HST.out.2] at h2
         exact ⟨l,Fl,_,acc++partK x m lo hi2,t+1+lookK x m lo hi2,rfl,rfl,by rw [HF.out.2.2],HK.out.1,HSB.out.2.2.1,own_upd HF.out.1 ((Upd.refl [] _).drewN _) (by simp),by rw [List.append_assoc];exact h1,by omega,HF.out.2.1.drewN _⟩
       ·replace hcx:x=m:=by have:=HX.out;omega
        have hcm:=fun w'=>cmpInt x m w'
        rw [cmpI_eq hcx] at hcm
        have HCM:=Lib.hid (fun w'=>(hcm w').mono (fun e w'' hh=>(⟨hh.1,hh.2.symm⟩:e=.returned (.int .i64 (0))∧w''=w')))
        have HST:=Lib.hid (stab_eq (lo:=lo) (hi:=hi2) (l:=l) (r:=r) hcx)
        clear hcm hcx
        go_wp2_with fail
        go_quiet (first | (go_at_call 182;refine Calls.quiet_of_same (HCM.out _)))
        go_wp2_with fail
        go_roundg (Kn.nil.depth)
        case measure=>have h1:=HK.out.2.2.1;have h2:=HK.out.2.2.2.2.2;omega
        case rel=>
         have h1:=HA.out.1
         have h2:=HA.out.2.1
         rw [HST.out.1] at h1
         rw [HST.out.2] at h2
         exact ⟨.nil,[],_,acc++partK x m lo hi2,t+1+lookK x m lo hi2,rfl,rfl,by rw [HF.out.2.2],⟨rfl,rfl⟩,trivial,own_upd HF.out.1 ((Upd.refl [] _).drewN _) (by simp),by rw [List.append_assoc];exact h1,by omega,HF.out.2.1.drewN _⟩
      |true=>
       rw [hb] at hcall
       have HC:=Lib.hid hcall
       have hal2:∀y∈V.take (j+1),hasK x m y=true:=fun y hy=>by
        obtain ⟨g1,g2⟩:=List.getElem?_eq_some_iff.1 HS2.out
        rw [List.take_succ_eq_append_getElem g1,g2,List.mem_append] at hy
        rcases hy with hy | hy
        ·exact HJ.out.2.2.1 y hy
        ·simp at hy;subst hy;exact hb
       have hlen:(acc++V.take j).length+1<1000000:=by
        have h1:=take_le hal2 (by rw [HV.out.2.1];omega)
        have h2:=part_le x m lo hi2 l r
        have h3:=congrArg List.length HA.out.1
        rw [List.length_append] at h3
        rw [HPV.out] at h2
        rw [List.length_append,List.length_take,HV.out.2.1,Nat.min_eq_left hjn]
        have h4:=HS.out.2.2
        omega
       have HAL:=Lib.hid (And.intro hal2 hlen)
       clear hcall hal2 hlen hb
       go_wp2_with fail
       (with_reducible refine HC.out.mono ?_)
       rintro e w3 ⟨rfl,u3⟩
       have hd2:w3.cell? ⟨q2,2,none⟩=some (.int .u32 (s.id:Int)):=(u3.cell (p:=⟨q2,2,none⟩) HQ2.out.2 (by simp)).trans HQ2.out.1
       have hu3:=HU2.out.trans u3
       have HU3:=Lib.hid (And.intro hu3 (own_upd HJ.out.2.1 hu3 (by simp)))
       have HZ3:=Lib.hid (show W0.heap.size≤w3.heap.size from by have h2:=HJ.out.2.2.2.1.size;have h3:=hu3.size;omega)
       clear u3 hu3 hq2 d0 d1 d2
       (go_wp2_with (at_builtin;refine wpList_app _ rfl _ _ 35 rfl W0.heap.size 26 i0 (.int .u32 0) 1 4 Tryz.underlying35 hi hz0 hz1 hz2 rfl (by decide) _ _ _ rfl (own_upd HU3.out.2 ((Upd.refl [] w3).alloc _) (by simp)) _ 1 [.int .u32 (s.id:Int)] rfl (sees_lit w3 #[.int .u32 (s.id:Int)] 26 1 1 rfl (by decide)) (by simp [Value.oneCell']) (by have:=HAL.out.2;rw [idsK_len];unfold maxLen;omega) (by have:=HAL.out.2;rw [idsK_len];omega) (by have:=HZ3.out;simp;omega) ?_))
       intro A1 C1 w4 HP
       have hr4:KU.row w4 W0.heap.size (.slice A1 ((idsK (acc++V.take j)).length+1) C1) (idsK (acc++V.take (j+1))):=by
        obtain ⟨g1,g2⟩:=List.getElem?_eq_some_iff.1 HS2.out
        have e:idsK (acc++V.take (j+1))=idsK (acc++V.take j)++[s.id]:=by
         rw [List.take_succ_eq_append_getElem g1,g2,←List.append_assoc,idsK_app (acc++V.take j) [s]]
         rfl
        rw [e]
        unfold Kind.row
        rw [List.length_append,KU.all_app]
        exact HP.own
       have hu4:=((HJ.out.2.2.2.1.trans HU3.out.1).alloc (.cells #[.int .u32 (s.id:Int)] 26)).trans' HP.upd (fun y hy=>.inr (own_ge HU3.out.2 y hy))
       have HE:=Lib.hid (And.intro hr4 hu4)
       clear hr4 hu4 HP hd2
       go_wp2_with fail
       go_roundg (n - (j+1))
       case measure=>have:=HJ.out.1;omega
       case rel=>exact ⟨j+1,_,by have:=HJ.out.1;omega,rfl,by go_num,by go_num,HE.out.1,HAL.out.1,HE.out.2⟩
     ·have hjn2:j=n:=by omega
      have hLL:V.take j=V:=by rw [hjn2,←HV.out.2.1];exact List.take_length
      rw [hLL] at hro2 hal
      have hpk:partK x m lo hi2=V:=by rw [HPV.out];exact takeWhile_all hal
      have hlk:lookK x m lo hi2=j:=by
       unfold lookK
       rw [hpk,HV.out.1,if_neg (by omega),HV.out.2.1,hjn2]
       rfl
      have hrow3:=hro2
      rw [←hpk] at hrow3
      have hupw:=hup2
      have h33:=h23
      have htj:((t+1+lookK x m lo hi2:Nat):Int)=(t:Int)+1+(j:Int):=by rw [hlk];omega
      clear hpk hlk hLL hro2 hal hup2 h23 hjn2 hj k1 k2 hjn
      have k3:wr.cell? ⟨kb,3,none⟩=some (.pointer ql):=by simp [World.cell?,h33]
      have k4:wr.cell? ⟨kb,4,none⟩=some (.pointer qr):=by simp [World.cell?,h33]
      have k0:wr.cell? ⟨kb,0,none⟩=some (.int .i64 m):=by simp [World.cell?,h33]
      have qc3:wr.cell? ⟨q,0,none⟩=some (.int .i64 x):=(hupw.cell (p:=⟨q,0,none⟩) HQ.out.2.1 (by simp)).trans HQ.out.2.2
      have HF:=Lib.hid (And.intro hrow3 (And.intro hupw htj))
      clear hrow3 hupw h33 htj
      by_cases hcx:x<m
      ·have hcm:=fun w'=>cmpInt x m w'
       rw [cmpI_lt hcx] at hcm
       have HCM:=Lib.hid (fun w'=>(hcm w').mono (fun e w'' hh=>(⟨hh.1,hh.2.symm⟩:e=.returned (.int .i64 (-1))∧w''=w')))
       have HST:=Lib.hid (stab_lt (lo:=lo) (hi:=hi2) (l:=l) (r:=r) hcx)
       clear hcm hcx
       go_wp2_with fail
       go_quiet (first | (go_at_call 182;refine Calls.quiet_of_same (HCM.out _)))
       go_wp2_with fail
       go_roundg (l.depth)
       case measure=>have h1:=HK.out.2.2.1;have h2:=HK.out.2.2.2.1;omega
       case rel=>
        have h1:=HA.out.1
        have h2:=HA.out.2.1
        rw [HST.out.1] at h1
        rw [HST.out.2] at h2
        exact ⟨l,Fl,_,acc++partK x m lo hi2,t+1+lookK x m lo hi2,rfl,rfl,by rw [HF.out.2.2],HK.out.1,HSB.out.2.2.1,own_upd HF.out.1 ((Upd.refl [] _).drewN _) (by simp),by rw [List.append_assoc];exact h1,by omega,HF.out.2.1.drewN _⟩
      ·replace hcx:x=m:=by have:=HX.out;omega
       have hcm:=fun w'=>cmpInt x m w'
       rw [cmpI_eq hcx] at hcm
       have HCM:=Lib.hid (fun w'=>(hcm w').mono (fun e w'' hh=>(⟨hh.1,hh.2.symm⟩:e=.returned (.int .i64 (0))∧w''=w')))
       have HST:=Lib.hid (stab_eq (lo:=lo) (hi:=hi2) (l:=l) (r:=r) hcx)
       clear hcm hcx
       go_wp2_with fail
       go_quiet (first | (go_at_call 182;refine Calls.quiet_of_same (HCM.out _)))
       go_wp2_with fail
       go_roundg (Kn.nil.depth)
       case measure=>have h1:=HK.out.2.2.1;have h2:=HK.out.2.2.2.2.2;omega
       case rel=>
        have h1:=HA.out.1
        have h2:=HA.out.2.1
        rw [HST.out.1] at h1
        rw [HST.out.2] at h2
        exact ⟨.nil,[],_,acc++partK x m lo hi2,t+1+lookK x m lo hi2,rfl,rfl,by rw [HF.out.2.2],⟨rfl,rfl⟩,trivial,own_upd HF.out.1 ((Upd.refl [] _).drewN _) (by simp),by rw [List.append_assoc];exact h1,by omega,HF.out.2.1.drewN _⟩
end Go.Proofs.YtkbaaonchdeneaaGreat
