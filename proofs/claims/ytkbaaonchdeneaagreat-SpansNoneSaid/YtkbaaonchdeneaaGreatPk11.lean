/- slices.Sort of names: turned about; medians; the pivot. The library's own text is walked. -/
import Derived.Test.YtkbaaonchdeneaaGreatPk9
set_option maxHeartbeats 8000000
set_option maxRecDepth 100000
namespace Go.Proofs.YtkbaaonchdeneaaGreat
open Go.RowKit Go.Sort
theorem reverseU (p C a b:Nat) (d:Array Int) (rest:List Value) (et:TypeId) (w:World) (h:RB w p d rest et) (hab:a<b) (hb:b≤d.size) (hsz:d.size<1000000) :
 Calls Tryz.prog 187 #[.slice (some ⟨p,0,none⟩) d.size C,.int .i64 (a:Int),.int .i64 (b:Int)] w fun e w'=>∃d',PermIn a b d d'∧SrtPost w p rest et d' e w':=by
 unfold SrtPost
 obtain ⟨n,hn⟩:∃n,d.size=n:=⟨_,rfl⟩
 rw [hn] at hb hsz ⊢
 have n0:(n:Int)<1000000:=by omega
 have b0:(b:Int)<1000000:=by omega
 have a0:(a:Int)<(b:Int):=by omega
 have HH:=Lib.hid h
 have HN:=Lib.hid hn
 have HB:=Lib.hid (And.intro hab hb)
 clear h hn hab hb hsz
 go_enter Tryz.func187,Tryz.ntmps187
 go_wp2_with fail
 have e1:(b:Int) - 1=((b - 1:Nat):Int):=by have:=HB.out;omega
 obtain ⟨b1,hb1⟩:∃b1,b1=b - 1:=⟨_,rfl⟩
 rw [←hb1] at e1
 have HB1:=Lib.hid hb1
 clear hb1
 go_loopg [6,7] b1 (fun m s6 s7 wr=>∃(i j:Nat) (dk:Array Int),m=j∧s6=.int .i64 (i:Int)∧s7=.int .i64 (j:Int)∧a≤i∧j<b∧i≤b∧dk.size=n∧RB wr p dk rest et∧Upd [p] w wr∧PermIn a b d dk)
 case atStart=>exact ⟨a,b1,d,rfl,rfl,by first | rfl | simp_all,Nat.le_refl _,by have:=HB.out;have:=HB1.out;omega,by have:=HB.out;omega,HN.out,HH.out,Upd.refl _ _,permIn_refl _ _ _⟩
 case round=>
  obtain ⟨i,j,dk,hm,rfl,rfl,hai,hjb,hib,hdn,hrb,hu,hp⟩:=hrel
  have i0:(i:Int)<1000000:=by omega
  have j0:(j:Int)<1000000:=by omega
  by_cases hlt:i<j
  ·have hz:(i:Int)<(j:Int):=by omega
   have g1:(i:Int)<(n:Int):=by have:=HB.out;omega
   have g2:(j:Int)<(n:Int):=by have:=HB.out;omega
   have l1:=hrb.cell (t:=i) (by have:=HB.out;omega)
   have l2:=hrb.cell (t:=j) (by have:=HB.out;omega)
   have f1:=hrb.frozen i
   have f2:=hrb.frozen j
   have hps:=permIn_trans _ _ _ a b hp (swp_permIn dk a b i j hai (by omega) (by omega) hjb (by rw [hdn];exact HB.out.2))
   have HS:=Lib.hid (And.intro (hrb.swp (i:=i) (j:=j) (by have:=HB.out;omega) (by have:=HB.out;omega)) (hu.swp (p:=p) (.inl (by simp)) i j (.int .u32 dk[j]!) (.int .u32 dk[i]!)))
   obtain ⟨va,hva⟩:∃v,dk[i]! = v:=⟨_,rfl⟩
   obtain ⟨vx,hvx⟩:∃v,dk[j]! = v:=⟨_,rfl⟩
   rw [hva,hvx] at HS
   rw [hva] at l1
   rw [hvx] at l2
   have HP:=Lib.hid hps
   have HI:=Lib.hid (And.intro hai (And.intro hjb (And.intro hlt hm)))
   have HDN:=Lib.hid (show (swp dk i j).size=n by rw [size_swp];exact hdn)
   clear hai hjb hib hlt hm hdn hrb hu hp hps hva hvx
   go_wp2_with fail
   go_region
   generalize (wr.setCell ⟨p,i,none⟩ (.int .u32 vx)).setCell ⟨p,j,none⟩ (.int .u32 va)=W at HS ⊢
   go_wp2_with fail
   go_roundg (j - 1)
   case measure=>have:=HI.out;omega
   case rel=>
    have h1:=HI.out
    exact ⟨i+1,j - 1,_,rfl,by go_num,by go_num,by omega,by omega,by omega,HDN.out,HS.out.1,HS.out.2.drew,HP.out⟩
  ·have hz:¬(i:Int)<(j:Int):=by omega
   have HR:=Lib.hid (And.intro hrb (And.intro hu hp))
   clear hai hjb hib hlt hm hdn hrb hu hp
   go_wp2_with fail
   go_end0
   exact ⟨dk,HR.out.2.2,rfl,HR.out.1,HR.out.2.1⟩
def NB (w:World) (s:Nat):Prop:=∃(z:Int) (t:TypeId),w.heap[s]? = some (.cells #[.int .i64 z] t (0,0))
theorem orderU (p C a b s:Nat) (d:Array Int) (rest:List Value) (et:TypeId) (w:World) (h:RB w p d rest et) (ha:a<d.size) (hb:b<d.size) (hsz:d.size<1000000) (hs:NB w s) :
 Calls Tryz.prog 280 #[.slice (some ⟨p,0,none⟩) d.size C,.int .i64 (a:Int),.int .i64 (b:Int),.pointer (some ⟨s,0,none⟩)] w fun e w'=>
  ∃x y:Nat,e=.returned (.tuple #[.int .i64 (x:Int),.int .i64 (y:Int)])∧(x=a∧y=b∨x=b∧y=a)∧NB w' s∧Upd [s] w w':=by
 obtain ⟨n,hn⟩:∃n,d.size=n:=⟨_,rfl⟩
 have l1:=h.cell ha
 have l2:=h.cell hb
 obtain ⟨va,hva⟩:∃v,d[a]! = v:=⟨_,rfl⟩
 obtain ⟨vb,hvb⟩:∃v,d[b]! = v:=⟨_,rfl⟩
 obtain ⟨c,hc⟩:∃c,ltInt vb va=c:=⟨_,rfl⟩
 rw [hva] at l1
 rw [hvb] at l2
 rw [hn] at ha hb hsz ⊢
 have a0:(a:Int)<(n:Int):=by omega
 have b0:(b:Int)<(n:Int):=by omega
 have n0:(n:Int)<1000000:=by omega
 have HLS:=Lib.hid (show ∀w,Calls Tryz.prog 189 #[.int .u32 vb,.int .u32 va] w fun e w'=>e=.returned (.bool c)∧w'=w from fun w=>by have:=lessU vb va w;rw [hc] at this;exact this)
 obtain ⟨z,t,hz⟩:=hs
 have c1:w.cell? ⟨s,0,none⟩=some (.int .i64 z):=by simp [World.cell?,hz]
 have f1:w.frozen? ⟨s,0,none⟩=false:=by simp [World.frozen?,hz]
 have HZ:=Lib.hid hz
 clear h hn ha hb hsz hva hvb hc hz
 cases c
 ·go_enter Tryz.func280,Tryz.ntmps280
  go_wp2_with fail
  go_quiet (first | (go_at_call 189;refine Calls.quiet_of_same (HLS.out _)))
  go_wp2_with fail
  go_ret2
  exact ⟨a,b,rfl,.inl ⟨rfl,rfl⟩,⟨z,t,HZ.out⟩,(Upd.refl _ _).drewN _⟩
 ·go_enter Tryz.func280,Tryz.ntmps280
  go_wp2_with fail
  go_quiet (first | (go_at_call 189;refine Calls.quiet_of_same (HLS.out _)))
  have HW:=Lib.hid (show w.cell? ⟨s,0,none⟩=some (.int .i64 z)∧w.frozen? ⟨s,0,none⟩=false from ⟨c1,f1⟩)
  clear c1 f1 l1 l2
  have c2:(w.drewN nq).cell? ⟨s,0,none⟩=some (.int .i64 z):=HW.out.1
  have f2:(w.drewN nq).frozen? ⟨s,0,none⟩=false:=HW.out.2
  have HU:=Lib.hid (show Upd [s] w (w.drewN nq) from (Upd.refl _ _).drewN _)
  have HZ2:=Lib.hid (show (w.drewN nq).heap[s]? = some (.cells #[.int .i64 z] t (0,0)) from HZ.out)
  generalize w.drewN nq=W at c2 f2 HU HZ2 ⊢
  go_wp2_with fail
  go_ret2
  exact ⟨b,a,rfl,.inr ⟨rfl,rfl⟩,⟨_,t,heap_set HZ2.out 0 _⟩,HU.out.setCell (.inl (by simp)) _⟩
theorem medianU (p C a b c s:Nat) (d:Array Int) (rest:List Value) (et:TypeId) (w:World) (h:RB w p d rest et) (ha:a<d.size) (hb:b<d.size) (hc:c<d.size) (hsz:d.size<1000000) (hs:NB w s) (hsp:s≠p) :
 Calls Tryz.prog 245 #[.slice (some ⟨p,0,none⟩) d.size C,.int .i64 (a:Int),.int .i64 (b:Int),.int .i64 (c:Int),.pointer (some ⟨s,0,none⟩)] w fun e w'=>
  ∃x:Nat,e=.returned (.int .i64 (x:Int))∧(x=a∨x=b∨x=c)∧NB w' s∧Upd [s] w w':=by
 have HO:=Lib.hid (show ∀(a b:Nat) W,Upd [s] w W→NB W s→a<d.size→b<d.size→_ from fun a b W hu hN h1 h2=>orderU p C a b s d rest et W (h.upd hu (by simpa using Ne.symm hsp)) h1 h2 hsz hN)
 obtain ⟨n,hn⟩:∃n,d.size=n:=⟨_,rfl⟩
 rw [hn] at HO ha hb hc ⊢
 have HB:=Lib.hid (And.intro ha (And.intro hb hc))
 have HS:=Lib.hid hs
 clear ha hb hc hn h hs hsp hsz
 go_enter Tryz.func245,Tryz.ntmps245
 go_wp2_with fail
 (with_reducible refine (HO.out _ _ _ (Upd.refl _ _) HS.out HB.out.1 HB.out.2.1).mono ?_)
 rintro e w1 ⟨x1,y1,rfl,h1,hn1,hu1⟩
 have H1:=Lib.hid (And.intro h1 (And.intro hn1 hu1))
 clear h1 hn1 hu1
 go_wp2_with fail
 (with_reducible refine (HO.out _ _ _ H1.out.2.2 H1.out.2.1 (by have:=H1.out.1;have:=HB.out;omega) HB.out.2.2).mono ?_)
 rintro e w2 ⟨x2,y2,rfl,h2,hn2,hu2⟩
 have H2:=Lib.hid (And.intro h2 (And.intro hn2 (H1.out.2.2.trans hu2)))
 clear h2 hn2 hu2
 go_wp2_with fail
 (with_reducible refine (HO.out _ _ _ H2.out.2.2 H2.out.2.1 (by have:=H1.out.1;have:=HB.out;omega) (by have:=H1.out.1;have:=H2.out.1;have:=HB.out;omega)).mono ?_)
 rintro e w3 ⟨x3,y3,rfl,h3,hn3,hu3⟩
 have H3:=Lib.hid (And.intro h3 (And.intro hn3 (H2.out.2.2.trans hu3)))
 clear h3 hn3 hu3
 go_wp2_with fail
 go_ret
 exact ⟨y3,rfl,by have h1:=H1.out.1;have h2:=H2.out.1;have h3:=H3.out.1;omega,H3.out.2⟩
theorem medianAdjU (p C a s:Nat) (d:Array Int) (rest:List Value) (et:TypeId) (w:World) (h:RB w p d rest et) (ha:1≤a) (hb:a+1<d.size) (hsz:d.size<1000000) (hs:NB w s) (hsp:s≠p) :
 Calls Tryz.prog 244 #[.slice (some ⟨p,0,none⟩) d.size C,.int .i64 (a:Int),.pointer (some ⟨s,0,none⟩)] w fun e w'=>
  ∃x:Nat,e=.returned (.int .i64 (x:Int))∧(x+1=a∨x=a∨x=a+1)∧NB w' s∧Upd [s] w w':=by
 obtain ⟨k,hk⟩:∃k,k=a - 1:=⟨_,rfl⟩
 obtain ⟨m,hm⟩:∃m,m=a+1:=⟨_,rfl⟩
 have HM:=Lib.hid (medianU p C k a m s d rest et w h (by omega) (by omega) (by omega) hsz hs hsp)
 obtain ⟨n,hn⟩:∃n,d.size=n:=⟨_,rfl⟩
 rw [hn] at HM hb hsz ⊢
 have e1:(a:Int) - 1=(k:Int):=by omega
 have e2:(a:Int)+1=(m:Int):=by omega
 have a0:(a:Int)<1000000:=by omega
 have a1:(0:Int)<(a:Int):=by omega
 have HK:=Lib.hid (And.intro ha (And.intro hk hm))
 clear h ha hb hsz hs hsp hk hm hn
 go_enter Tryz.func244,Tryz.ntmps244
 go_wp2_with fail
 (with_reducible refine HM.out.mono ?_)
 rintro e w1 ⟨x,rfl,h1,hn1,hu1⟩
 have H1:=Lib.hid (And.intro h1 (And.intro hn1 hu1))
 clear h1 hn1 hu1
 go_wp2_with fail
 go_ret
 exact ⟨x,rfl,by have:=H1.out.1;have:=HK.out;omega,H1.out.2⟩
theorem NB.new (w:World) (t:TypeId):NB (w.alloc (.cells #[.int .i64 0] t)) w.heap.size:=⟨0,t,heap_alloc_new w _⟩
def PivPost (w:World) (a b:Nat) (e:Ending) (w':World):Prop:=∃(x:Nat) (h:Int),e=.returned (.tuple #[.int .i64 (x:Int),.int .i64 h])∧a≤x∧x<b∧Upd [] w w'
theorem pivotU (p C a b:Nat) (d:Array Int) (rest:List Value) (et:TypeId) (w:World) (h:RB w p d rest et) (hab:a+12<b) (hb:b≤d.size) (hsz:d.size<1000000) :
 Calls Tryz.prog 186 #[.slice (some ⟨p,0,none⟩) d.size C,.int .i64 (a:Int),.int .i64 (b:Int)] w (PivPost w a b):=by
 unfold PivPost
 have hp:=h.lt
 obtain ⟨s,hs⟩:∃s,w.heap.size=s:=⟨_,rfl⟩
 rw [hs] at hp
 obtain ⟨n,hn⟩:∃n,d.size=n:=⟨_,rfl⟩
 obtain ⟨N,hN⟩:∃N,N=b - a:=⟨_,rfl⟩
 obtain ⟨q,hq⟩:∃q,q=N / 4:=⟨_,rfl⟩
 obtain ⟨i,hi⟩:∃i,i=a+q:=⟨_,rfl⟩
 obtain ⟨j,hj⟩:∃j,j=a+q*2:=⟨_,rfl⟩
 obtain ⟨k,hk⟩:∃k,k=a+q*3:=⟨_,rfl⟩
 have HM:=Lib.hid (show ∀(a b c:Nat) W,Upd [] w W→NB W s→a<d.size→b<d.size→c<d.size→_ from fun a b c W hu hN h1 h2 h3=>medianU p C a b c s d rest et W (h.upd hu (by simp)) h1 h2 h3 hsz hN (by omega))
 have HA:=Lib.hid (show ∀(a:Nat) W,Upd [] w W→NB W s→1≤a→a+1<d.size→_ from fun a W hu hN h1 h2=>medianAdjU p C a s d rest et W (h.upd hu (by simp)) h1 h2 hsz hN (by omega))
 rw [hn] at HM HA hb hsz ⊢
 have n0:(N:Int)<1000000:=by omega
 have n1:(8:Int)≤(N:Int):=by omega
 have a0:(a:Int)<1000000:=by omega
 have b0:(b:Int)<1000000:=by omega
 have q0:(q:Int)<1000000:=by omega
 have e1:(b:Int) - (a:Int)=(N:Int):=by omega
 have e2:(N:Int) / 4=(q:Int):=by omega
 have e3:(a:Int)+(q:Int)=(i:Int):=by omega
 have e4:(a:Int)+(q:Int)*2=(j:Int):=by omega
 have e5:(a:Int)+(q:Int)*3=(k:Int):=by omega
 have HB:=Lib.hid (And.intro hab (And.intro hb (And.intro hN (And.intro hq (And.intro hi (And.intro hj hk))))))
 have HW0:=Lib.hid (show NB (w.alloc (.cells #[.int .i64 0] 3)) s from hs ▸ NB.new w _)
 have HU0:=Lib.hid (show Upd [] w (w.alloc (.cells #[.int .i64 0] 3)) from (Upd.refl _ _).alloc _)
 have HS:=Lib.hid hs
 by_cases h50:50≤N
 ·have d50:decide ((50:Int)≤(N:Int))=true:=decide_eq_true (by omega)
  have d50':(50:Int)≤(N:Int):=by omega
  have H50:=Lib.hid h50
  clear h hn hab hb hsz hN hq hi hj hk hs hp h50
  go_enter Tryz.func186,Tryz.ntmps186
  go_wp2_with fail
  rw [HS.out]
  (with_reducible refine (HA.out i _ HU0.out HW0.out (by have:=HB.out;have:=H50.out;omega) (by have:=HB.out;have:=H50.out;omega)).mono ?_)
  rintro e w1 ⟨x1,rfl,h1,hn1,hu1⟩
  have H1:=Lib.hid (And.intro h1 (And.intro hn1 (show Upd [] w w1 from (HU0.out).trans' hu1 (by intro x hx;right;rw [List.mem_singleton.1 hx,HS.out];exact Nat.le_refl _))))
  clear h1 hn1 hu1
  go_wp2_with fail
  (with_reducible refine (HA.out j _ H1.out.2.2 H1.out.2.1 (by have:=HB.out;have:=H50.out;omega) (by have:=HB.out;have:=H50.out;omega)).mono ?_)
  rintro e w2 ⟨x2,rfl,h2,hn2,hu2⟩
  have H2:=Lib.hid (And.intro h2 (And.intro hn2 (show Upd [] w w2 from (H1.out.2.2).trans' hu2 (by intro x hx;right;rw [List.mem_singleton.1 hx,HS.out];exact Nat.le_refl _))))
  clear h2 hn2 hu2
  go_wp2_with fail
  (with_reducible refine (HA.out k _ H2.out.2.2 H2.out.2.1 (by have:=HB.out;have:=H50.out;omega) (by have:=HB.out;have:=H50.out;omega)).mono ?_)
  rintro e w3 ⟨x3,rfl,h3,hn3,hu3⟩
  have H3:=Lib.hid (And.intro h3 (And.intro hn3 (show Upd [] w w3 from (H2.out.2.2).trans' hu3 (by intro x hx;right;rw [List.mem_singleton.1 hx,HS.out];exact Nat.le_refl _))))
  clear h3 hn3 hu3
  go_wp2_with fail
  (with_reducible refine (HM.out x1 x2 x3 _ H3.out.2.2 H3.out.2.1 (by have hb:=HB.out;have g1:=H1.out.1;have g5:=H50.out;omega) (by have hb:=HB.out;have g2:=H2.out.1;have g5:=H50.out;omega) (by have hb:=HB.out;have g3:=H3.out.1;have g5:=H50.out;omega)).mono ?_)
  rintro e w4 ⟨x4,rfl,h4,hn4,hu4⟩
  have H4:=Lib.hid (And.intro h4 (And.intro hn4 (show Upd [] w w4 from (H3.out.2.2).trans' hu4 (by intro x hx;right;rw [List.mem_singleton.1 hx,HS.out];exact Nat.le_refl _))))
  clear h4 hn4 hu4
  clear e1 e2 e3 e4 e5 n0 n1 a0 b0 q0 d50 d50'
  obtain ⟨z,t,hz⟩:=H4.out.2.1
  have c1:w4.cell? ⟨s,0,none⟩=some (.int .i64 z):=by simp [World.cell?,hz]
  clear hz
  by_cases hz0:z=0
  ·have d1:(z==0)=true:=by rw [beq_iff_eq];exact hz0
   clear hz0
   go_wp2_with fail
   go_ret2
   exact ⟨x4,_,rfl,by have hb:=HB.out;have g1:=H1.out.1;have g2:=H2.out.1;have g3:=H3.out.1;have g4:=H4.out.1;have g5:=H50.out;omega,by have hb:=HB.out;have g1:=H1.out.1;have g2:=H2.out.1;have g3:=H3.out.1;have g4:=H4.out.1;have g5:=H50.out;omega,H4.out.2.2⟩
  ·have d1:(z==0)=false:=by rw [beq_eq_false_iff_ne];exact hz0
   by_cases hz1:z=12
   ·have d2:(z==12)=true:=by rw [beq_iff_eq];exact hz1
    clear hz0 hz1
    go_wp2_with fail
    go_ret2
    exact ⟨x4,_,rfl,by have hb:=HB.out;have g1:=H1.out.1;have g2:=H2.out.1;have g3:=H3.out.1;have g4:=H4.out.1;have g5:=H50.out;omega,by have hb:=HB.out;have g1:=H1.out.1;have g2:=H2.out.1;have g3:=H3.out.1;have g4:=H4.out.1;have g5:=H50.out;omega,H4.out.2.2⟩
   ·have d2:(z==12)=false:=by rw [beq_eq_false_iff_ne];exact hz1
    clear hz0 hz1
    go_wp2_with fail
    go_ret2
    exact ⟨x4,_,rfl,by have hb:=HB.out;have g1:=H1.out.1;have g2:=H2.out.1;have g3:=H3.out.1;have g4:=H4.out.1;have g5:=H50.out;omega,by have hb:=HB.out;have g1:=H1.out.1;have g2:=H2.out.1;have g3:=H3.out.1;have g4:=H4.out.1;have g5:=H50.out;omega,H4.out.2.2⟩
 ·have d50:decide ((50:Int)≤(N:Int))=false:=decide_eq_false (by omega)
  have d50':¬(50:Int)≤(N:Int):=by omega
  clear h hn hab hb hsz hN hq hi hj hk hs hp h50
  go_enter Tryz.func186,Tryz.ntmps186
  go_wp2_with fail
  rw [HS.out]
  (with_reducible refine (HM.out i j k _ HU0.out HW0.out (by have hb:=HB.out;omega) (by have hb:=HB.out;omega) (by have hb:=HB.out;omega)).mono ?_)
  rintro e w1 ⟨x1,rfl,h1,hn1,hu1⟩
  have H1:=Lib.hid (And.intro h1 (And.intro hn1 (show Upd [] w w1 from (HU0.out).trans' hu1 (by intro x hx;right;rw [List.mem_singleton.1 hx,HS.out];exact Nat.le_refl _))))
  clear h1 hn1 hu1
  clear e1 e2 e3 e4 e5 n0 n1 a0 b0 q0 d50 d50'
  obtain ⟨z,t,hz⟩:=H1.out.2.1
  have c1:w1.cell? ⟨s,0,none⟩=some (.int .i64 z):=by simp [World.cell?,hz]
  clear hz
  by_cases hz0:z=0
  ·have d1:(z==0)=true:=by rw [beq_iff_eq];exact hz0
   clear hz0
   go_wp2_with fail
   go_ret2
   exact ⟨x1,_,rfl,by have hb:=HB.out;have g1:=H1.out.1;omega,by have hb:=HB.out;have g1:=H1.out.1;omega,H1.out.2.2⟩
  ·have d1:(z==0)=false:=by rw [beq_eq_false_iff_ne];exact hz0
   by_cases hz1:z=12
   ·have d2:(z==12)=true:=by rw [beq_iff_eq];exact hz1
    clear hz0 hz1
    go_wp2_with fail
    go_ret2
    exact ⟨x1,_,rfl,by have hb:=HB.out;have g1:=H1.out.1;omega,by have hb:=HB.out;have g1:=H1.out.1;omega,H1.out.2.2⟩
   ·have d2:(z==12)=false:=by rw [beq_eq_false_iff_ne];exact hz1
    clear hz0 hz1
    go_wp2_with fail
    go_ret2
    exact ⟨x1,_,rfl,by have hb:=HB.out;have g1:=H1.out.1;omega,by have hb:=HB.out;have g1:=H1.out.1;omega,H1.out.2.2⟩
end Go.Proofs.YtkbaaonchdeneaaGreat
