/- The document's nodes over leaves: Nodes, within, apart, Entered, parent, Canon. The document's nodes over leaves: within, apart, Entered. The document's nodes that make up a range: parent, Canon. The document's nodes and canonical nodes, in one. -/
import Derived.Deep.QuietTactic
import Derived.WalkSpells
import Derived.Test.YtkmnbodlciepaaaGreatPk41
import Derived.Test.YtkmnbodlciepaaaGreatPk46
import Derived.Test.YtkmnbodlciepaaaGreatPk2
import Derived.Test.YtkmnbodlciepaaaGreatPk47
set_option maxHeartbeats 8000000
set_option maxRecDepth 100000
namespace Go.Proofs.YtkmnbodlciepaaaGreat
open Go.RowKit
theorem KD.at {w:World} {A:Option Addr} {n C:Nat} {l:List Nd} (h:See KD w (.slice A n C) l) {k:Nat} {x:Nd} (hx:l[k]? = some x) :
 ∃b o,A=some ⟨b,o,none⟩∧n≤C∧C≤maxLen∧w.cell? ⟨b,o+k*7,none⟩=some (.int .u8 x.k)∧w.cell? ⟨b,o+k*7+1,none⟩=some (.int .i64 x.l)∧w.cell? ⟨b,o+k*7+2,none⟩=some (.int .i64 x.r)∧
  w.cell? ⟨b,o+k*7+3,none⟩=some (.int .i64 x.fr)∧w.cell? ⟨b,o+k*7+4,none⟩=some (.int .i64 x.to)∧w.cell? ⟨b,o+k*7+5,none⟩=some (.int .i64 x.at_)∧w.cell? ⟨b,o+k*7+6,none⟩=some (.int .i64 x.it):=by
 obtain ⟨b,o,h1,h2,h3,h4⟩:=h.at hx
 exact ⟨b,o,h1,h2,h3,h4 0 _ rfl,h4 1 _ rfl,h4 2 _ rfl,h4 3 _ rfl,h4 4 _ rfl,h4 5 _ rfl,h4 6 _ rfl⟩
def RNPost (w:World) (L:List Nd) (e:Ending) (w':World):Prop:=
 ∃A C,e=.returned (.slice A L.length C)∧KD.row w' w.heap.size (.slice A L.length C) L∧Upd [] w w'
theorem rnodes_none (f t o:Nat) (w:World) (h:t≤f) (hf:f<100000):Calls Tryz.prog 112 #[.int .i64 (f:Int),.int .i64 (t:Int),.int .i64 (o:Int)] w fun e w'=>e=.returned (.slice none 0 0)∧w=w':=by
 have d:decide ((t:Int) - (f:Int)<1)=true:=decide_eq_true (by omega)
 have b0:(0:Int)≤(f:Int):=Int.natCast_nonneg _
 have b1:(f:Int)<100000:=by omega
 have b2:(0:Int)≤(t:Int):=Int.natCast_nonneg _
 have b3:(t:Int)<100000:=by omega
 clear h hf
 go_enter Tryz.func112,Tryz.ntmps112
 go_wp2_with fail
 go_ret
 exact ⟨rfl,rfl⟩
theorem rnodes_leaf (f o:Nat) (w:World) (hf:f<100000):Calls Tryz.prog 112 #[.int .i64 (f:Int),.int .i64 ((f+1:Nat):Int),.int .i64 (o:Int)] w (RNPost w [⟨1,-1,-1,f,(f+1:Nat),0,f⟩]):=by
 obtain ⟨t,ht⟩:∃t,f+1=t:=⟨_,rfl⟩
 rw [ht]
 have d:decide ((t:Int) - (f:Int)<1)=false:=decide_eq_false (by omega)
 have d2:((t:Int) - (f:Int)==1)=true:=by rw [beq_iff_eq];omega
 have b0:(0:Int)≤(f:Int):=Int.natCast_nonneg _
 have b1:(f:Int)<100000:=by omega
 have b2:(0:Int)≤(t:Int):=Int.natCast_nonneg _
 have b3:(t:Int)<100001:=by omega
 clear ht hf
 go_enter Tryz.func112,Tryz.ntmps112
 go_wp2_with fail
 go_ret
 refine ⟨_,_,rfl,?_,(Upd.refl _ _).alloc _⟩
 exact World.ownsRow_lit (e:=208) (size:=7) (base:=w.heap.size) w #[.int .u8 1,.int .i64 (-1),.int .i64 (-1),.int .i64 (f:Int),.int .i64 (t:Int),.int .i64 0,.int .i64 (f:Int)] 1 (Nat.le_refl _) (by decide) rfl
theorem rnodes_node (f t o m:Nat) (w:World) (hm:mid f t=m) (hft:f+1<t) (ht:t<100000) (ho:o<1000000)
 (ih:∀(f' t' o':Nat) (w:World),f'<t'→t' - f'<t - f→t'<100000→o'+2*(t' - f')≤o+2*(t - f)→Calls Tryz.prog 112 #[.int .i64 (f':Int),.int .i64 (t':Int),.int .i64 (o':Int)] w (RNPost w (nodesL f' t' o'))) (ho2:o+2*(t - f)<1000000) :
 Calls Tryz.prog 112 #[.int .i64 (f:Int),.int .i64 (t:Int),.int .i64 (o:Int)] w (RNPost w (nodesL f t o)):=by
 obtain ⟨i0,hi,hz0,hz1,hz2⟩:=info_parts info_nd
 have hmi:=mid_in hft
 have hnl:=nodesL_node o hft
 rw [hm] at hmi hnl
 have d:decide ((t:Int) - (f:Int)<1)=false:=decide_eq_false (by omega)
 have d2:((t:Int) - (f:Int)==1)=false:=by rw [beq_eq_false_iff_ne];omega
 have b0:(0:Int)≤(f:Int):=Int.natCast_nonneg _
 have b1:(f:Int)<100000:=by omega
 have b2:(0:Int)≤(t:Int):=Int.natCast_nonneg _
 have b3:(t:Int)<100001:=by omega
 have b4:(0:Int)≤(o:Int):=Int.natCast_nonneg _
 have b5:(o:Int)<1000000:=by omega
 have hv:Value.int .i64 (wrap64 ((f:Int)+((t:Int) - (f:Int)+1).tdiv 2))=Value.int .i64 (m:Int):=by
  congr 1
  rw [Int.tdiv_eq_ediv_of_nonneg (by omega),IntWalk.wrap64_in _ (by omega),←hm]
  unfold mid;omega
 obtain ⟨L1,hL1⟩:∃L,nodesL f m o=L:=⟨_,rfl⟩
 obtain ⟨n1,hn1⟩:∃n,L1.length=n:=⟨_,rfl⟩
 have e1:n1=2*(m - f) - 1:=by rw [←hn1,←hL1,nodesL_length o hmi.1]
 obtain ⟨L2,hL2⟩:∃L,nodesL m t (o+n1)=L:=⟨_,rfl⟩
 obtain ⟨n2,hn2⟩:∃n,L2.length=n:=⟨_,rfl⟩
 have e2:n2=2*(t - m) - 1:=by rw [←hn2,←hL2,nodesL_length _ hmi.2]
 have ih1:=fun w=>ih f m o w hmi.1 (by omega) (by omega) (by omega)
 have ih2:=fun w=>ih m t (o+n1) w hmi.2 (by omega) ht (by omega)
 rw [hL1] at ih1
 rw [hL2] at ih2
 simp only [Int.natCast_add] at ih2
 unfold RNPost at ih1 ih2
 rw [hn1] at ih1
 rw [hn2] at ih2
 have hend0:nodesL f t o=(L1++L2)++[⟨2,((o+n1 - 1:Nat):Int),((o+(n1+n2) - 1:Nat):Int),f,t,0,0⟩]:=by
  rw [hnl,hL1,show o+2*(m - f) - 1=o+n1 by omega,hL2,show o+2*(m - f) - 2=o+n1 - 1 by omega,show o+n1+2*(t - m) - 2=o+(n1+n2) - 1 by omega,List.append_assoc]
 have hend:=hend0
 have n1p:0<n1:=by omega
 have n2p:0<n2:=by omega
 have n1b:n1<200000:=by omega
 have n2b:n2<200000:=by omega
 have H1:=Lib.hid ih1
 have H2:=Lib.hid ih2
 have NB:=Lib.hid (And.intro n1p (And.intro n2p (And.intro n1b n2b)))
 obtain ⟨N,hNN⟩:∃N,n1+n2=N:=⟨_,rfl⟩
 have q0:(0:Int)≤(n1:Int):=Int.natCast_nonneg _
 have q1:(n1:Int)<200000:=by omega
 have q2:(0:Int)<(N:Int):=by omega
 have q3:(N:Int)<400000:=by omega
 rw [hNN] at hend
 rw [hend]
 have HNN:=Lib.hid hNN
 have HV:=Lib.hid hv
 have HN:=Lib.hid (And.intro hn1 hn2)
 have hx1:Value.int .i64 ((o:Int)+(n1:Int) - 1)=Value.int .i64 ((o+n1 - 1:Nat):Int):=by congr 1;omega
 have hx2:Value.int .i64 ((o:Int)+(N:Int) - 1)=Value.int .i64 ((o+N - 1:Nat):Int):=by congr 1;omega
 have HX:=Lib.hid (And.intro hx1 hx2)
 clear hend0 hNN n1p n2p n1b n2b ih ih1 ih2 hm hft ho2 hmi hnl hv hL1 hL2 hn1 hn2 e1 e2 hend hx1 hx2 ht ho
 go_enter Tryz.func112,Tryz.ntmps112
 go_upto_region 6 with fail
 rw [HV.out]
 go_wp2_with fail
 (with_reducible refine (H1.out _).mono ?_)
 rintro e w1 ⟨A1,C1,rfl,hr1,hu1⟩
 have HR1:=Lib.hid (And.intro hr1 hu1)
 clear hr1 hu1
 go_wp2_with fail
 (with_reducible refine (H2.out _).mono ?_)
 rintro e w2 ⟨A2,C2,rfl,hr2,hu2⟩
 have hr1:w2.ownsRow w.heap.size 208 7 (.slice A1 n1 C1) n1 (KD.all L1):=by
  have h:=own_upd HR1.out.1 hu2 (by simp)
  unfold Kind.row at h
  rw [HN.out.1] at h
  exact h
 have hs2:Sees w2 7 (.slice A2 n2 C2) n2 (KD.all L2):=by
  have h:=sees_of_own hr2
  rw [HN.out.2] at h
  exact h
 have HR:=Lib.hid (And.intro hr1 (And.intro hs2 (HR1.out.2.trans hu2)))
 clear hr1 hs2 hr2 hu2 HR1
 go_wp2_with (at_builtin;refine wpList_app _ rfl _ _ 146 rfl w.heap.size 208 i0 (.agg #[.int .u8 0,.int .i64 0,.int .i64 0,.int .i64 0,.int .i64 0,.int .i64 0,.int .i64 0]) 7 56 Tryz.underlying146 hi hz0 hz1 hz2 rfl (by decide) _ n1 (KD.all L1) rfl HR.out.1 _ n2 (KD.all L2) rfl HR.out.2.1 (KD.all_one _) (by have:=NB.out;unfold maxLen;omega) (by have:=NB.out;omega) HR.out.2.2.size ?_)
 intro A3 C3 w3 HP
 have hu3:Upd [] w w3:=HR.out.2.2.trans' HP.upd (fun k hk=>.inr (own_ge HR.out.1 k hk))
 have ho3:=HP.own
 rw [HNN.out] at ho3 ⊢
 have HQ:=Lib.hid (And.intro ho3 hu3)
 clear HP hu3 ho3
 clear d d2 b0 b1 b2 b3
 have x1:wrap64 ((o:Int)+(n1:Int))=(o:Int)+(n1:Int):=IntWalk.wrap64_in _ (by omega)
 have x2:wrap64 ((o:Int)+(n1:Int) - 1)=(o:Int)+(n1:Int) - 1:=IntWalk.wrap64_in _ (by omega)
 have x3:wrap64 ((o:Int)+(N:Int))=(o:Int)+(N:Int):=IntWalk.wrap64_in _ (by omega)
 have x4:wrap64 ((o:Int)+(N:Int) - 1)=(o:Int)+(N:Int) - 1:=IntWalk.wrap64_in _ (by omega)
 have QB:=Lib.hid (And.intro q3 b5)
 clear b4 b5 q0 q1 q2 q3
 go_upto_region 9 with fail
 go_wp2_with (at_builtin;refine wpList_app _ rfl _ _ 146 rfl w.heap.size 208 i0 (.agg #[.int .u8 0,.int .i64 0,.int .i64 0,.int .i64 0,.int .i64 0,.int .i64 0,.int .i64 0]) 7 56 Tryz.underlying146 hi hz0 hz1 hz2 rfl (by decide) _ N (KD.all L1++KD.all L2) rfl (own_upd HQ.out.1 ((Upd.refl [] w3).alloc _) (by simp)) _ 1 [.int .u8 2,.int .i64 ((o:Int)+(n1:Int) - 1),.int .i64 ((o:Int)+(N:Int) - 1),.int .i64 (f:Int),.int .i64 (t:Int),.int .i64 0,.int .i64 0] rfl (sees_lit w3 #[.int .u8 2,.int .i64 ((o:Int)+(n1:Int) - 1),.int .i64 ((o:Int)+(N:Int) - 1),.int .i64 (f:Int),.int .i64 (t:Int),.int .i64 0,.int .i64 0] 208 7 1 rfl (by decide)) (by simp [Value.oneCell']) (by have:=QB.out;unfold maxLen;omega) (by have:=QB.out;omega) (by have:=HQ.out.2.size;simp;omega) ?_)
 intro A4 C4 w4 HP
 have hu4:Upd [] w w4:=(HQ.out.2.alloc _).trans' HP.upd (fun k hk=>.inr (own_ge HQ.out.1 k hk))
 have ho4:=HP.own
 rw [HX.out.1,HX.out.2] at ho4
 have HQ4:=Lib.hid (And.intro ho4 hu4)
 clear HP hu4 ho4
 go_wp2_with fail
 go_ret
 have hlen:(L1++L2++[(⟨2,((o+n1 - 1:Nat):Int),((o+N - 1:Nat):Int),f,t,0,0⟩:Nd)]).length=N+1:=by
  rw [List.length_append,List.length_append,HN.out.1,HN.out.2,HNN.out];rfl
 refine ⟨A4,C4,by rw [hlen];rfl,?_,HQ4.out.2⟩
 unfold Kind.row
 rw [hlen,Kind.all_app,Kind.all_app]
 exact HQ4.out.1
theorem rnodesC:∀(d f t o:Nat) (w:World),t - f≤d→f<t→t<100000→o+2*(t - f)<1000000→
 Calls Tryz.prog 112 #[.int .i64 (f:Int),.int .i64 (t:Int),.int .i64 (o:Int)] w (RNPost w (nodesL f t o)):=by
 intro d
 induction d with
 |zero=>intro f t o w hd hf;omega
 |succ d ih=>
  intro f t o w hd hf ht ho
  by_cases h:f+1<t
  ·refine rnodes_node f t o _ w rfl h ht (by omega) (fun f' t' o' w h1 h2 h3 h4=>?_) ho
   exact ih f' t' o' w (by omega) h1 h3 (by omega)
  ·have:t=f+1:=by omega
   subst this
   rw [nodesL_leaf o h]
   exact rnodes_leaf f o w (by omega)
def withinB (x:Nd) (a b:Nat):Bool:=decide ((a:Int)≤x.fr)&&decide (x.to≤(b:Int))
def apartB (x:Nd) (a b:Nat):Bool:=decide (x.to≤(a:Int))||decide ((b:Int)≤x.fr)
theorem withinC (x:Nd) (a b:Nat) (w:World):Calls Tryz.prog 141 #[ndV x,.int .i64 (a:Int),.int .i64 (b:Int)] w fun e w'=>e=.returned (.bool (withinB x a b))∧Upd [] w w':=by
 obtain ⟨xk,xl,xr,xf,xt,xa,xi⟩:=x
 unfold ndV
 dsimp only
 by_cases h1:(a:Int)≤xf
 ·have d1:decide ((a:Int)≤xf)=true:=decide_eq_true h1
  have hv:withinB ⟨xk,xl,xr,xf,xt,xa,xi⟩ a b=decide (xt≤(b:Int)):=by unfold withinB;dsimp only;rw [d1,Bool.true_and]
  rw [hv]
  clear hv h1
  go_enter Tryz.func141,Tryz.ntmps141
  go_wp2_with fail
  go_ret
  exact ⟨rfl,(Upd.refl _ _).alloc _⟩
 ·have d1:decide ((a:Int)≤xf)=false:=decide_eq_false h1
  have hv:withinB ⟨xk,xl,xr,xf,xt,xa,xi⟩ a b=false:=by unfold withinB;dsimp only;rw [d1,Bool.false_and]
  rw [hv]
  clear hv h1
  go_enter Tryz.func141,Tryz.ntmps141
  go_wp2_with fail
  go_ret
  exact ⟨rfl,(Upd.refl _ _).alloc _⟩
theorem apartC (x:Nd) (a b:Nat) (w:World):Calls Tryz.prog 166 #[ndV x,.int .i64 (a:Int),.int .i64 (b:Int)] w fun e w'=>e=.returned (.bool (apartB x a b))∧Upd [] w w':=by
 obtain ⟨xk,xl,xr,xf,xt,xa,xi⟩:=x
 unfold ndV
 dsimp only
 by_cases h1:xt≤(a:Int)
 ·have d1:decide (xt≤(a:Int))=true:=decide_eq_true h1
  have hv:apartB ⟨xk,xl,xr,xf,xt,xa,xi⟩ a b=true:=by unfold apartB;dsimp only;rw [d1,Bool.true_or]
  rw [hv]
  clear hv h1
  go_enter Tryz.func166,Tryz.ntmps166
  go_wp2_with fail
  go_ret
  exact ⟨rfl,(Upd.refl _ _).alloc _⟩
 ·have d1:decide (xt≤(a:Int))=false:=decide_eq_false h1
  have hv:apartB ⟨xk,xl,xr,xf,xt,xa,xi⟩ a b=decide ((b:Int)≤xf):=by unfold apartB;dsimp only;rw [d1,Bool.false_or]
  rw [hv]
  clear hv h1
  go_enter Tryz.func166,Tryz.ntmps166
  go_wp2_with fail
  go_ret
  exact ⟨rfl,(Upd.refl _ _).alloc _⟩
def NdC (w:World) (g p:Nat) (xk xl xr xf xt xa xi:Int):Prop:=
 w.cell? ⟨g,p,none⟩=some (.int .u8 xk)∧w.cell? ⟨g,p+1,none⟩=some (.int .i64 xl)∧w.cell? ⟨g,p+2,none⟩=some (.int .i64 xr)∧w.cell? ⟨g,p+3,none⟩=some (.int .i64 xf)∧
  w.cell? ⟨g,p+4,none⟩=some (.int .i64 xt)∧w.cell? ⟨g,p+5,none⟩=some (.int .i64 xa)∧w.cell? ⟨g,p+6,none⟩=some (.int .i64 xi)
theorem NdC.upd0 {w w':World} {g p:Nat} {xk xl xr xf xt xa xi:Int} (h:NdC w g p xk xl xr xf xt xa xi) (hu:Upd [] w w'):NdC w' g p xk xl xr xf xt xa xi:=by
 have e:∀{a:Addr} {v:Value},w.cell? a=some v→w'.cell? a=some v:=fun {a v} ha=>(hu.cell (World.block_lt_of_cell? w _ ha) (by simp)).trans ha
 exact ⟨e h.1,e h.2.1,e h.2.2.1,e h.2.2.2.1,e h.2.2.2.2.1,e h.2.2.2.2.2.1,e h.2.2.2.2.2.2⟩
theorem enteredC (v:Value) (L:List Nd) (a b:Nat) (hL:L.length<1000000):∀(d f t o:Nat) (w:World),t - f≤d→f<t→NodesAt L f t o→See KD w v L→
 Calls Tryz.prog 142 #[v,.int .i64 ((o+2*(t - f) - 2:Nat):Int),.int .i64 (a:Int),.int .i64 (b:Int)] w fun e w'=>e=.returned (.int .i64 (ent a b f t:Nat))∧Upd [] w w':=by
 intro d
 induction d with
 |zero=>intro f t o w hd hf;omega
 |succ d ih=>
  intro f t o w hd hf hN hs
  have hroot:=hN.root hf
  obtain ⟨A,C,rfl⟩:=hs.form
  obtain ⟨k,hk⟩:∃k,o+2*(t - f) - 2=k:=⟨_,rfl⟩
  rw [hk] at hroot ⊢
  obtain ⟨g,q,rfl,-,-,c0,c1,c2,c3,c4,c5,c6⟩:=KD.at hs hroot
  have hkl:=(List.getElem?_eq_some_iff.1 hroot).1
  have hfr:=ndG_fr f t k
  have hto:=ndG_to f t k
  obtain ⟨n,hn⟩:∃n,L.length=n:=⟨_,rfl⟩
  have k0:(0:Int)≤(k:Int):=Int.natCast_nonneg _
  have k1:(k:Int)<(n:Int):=by omega
  have kn:k<n:=by omega
  have hgt:f+1<t→ndG f t k=⟨2,((o+2*(mid f t - f) - 2:Nat):Int),((o+2*(mid f t - f) - 1+2*(t - mid f t) - 2:Nat):Int),f,t,0,0⟩:=fun hft=>by
   have hm:=mid_in hft
   unfold ndG
   rw [if_pos hft,←hk]
   have e:o+2*(t - f) - 2 - 2*(t - mid f t)=o+2*(mid f t - f) - 2:=by omega
   have e':o+2*(t - f) - 2 - 1=o+2*(mid f t - f) - 1+2*(t - mid f t) - 2:=by omega
   rw [e,e']
  obtain ⟨x,hx⟩:∃x,ndG f t k=x:=⟨_,rfl⟩
  rw [hx] at hroot hfr hto hgt c0 c1 c2 c3 c4 c5 c6
  have hwc:=fun w=>withinC x a b w
  have hac:=fun w=>apartC x a b w
  have hwb:withinB x a b=(decide (a≤f)&&decide (t≤b)):=by unfold withinB;rw [hfr,hto];simp
  have hab:apartB x a b=(decide (t≤a)||decide (b≤f)):=by unfold apartB;rw [hfr,hto];simp
  unfold ndV at hwc hac
  obtain ⟨xk,xl,xr,xf,xt,xa,xi⟩:=x
  dsimp only at hwc hac c0 c1 c2 c3 c4 c5 c6
  have HX:=Lib.hid (And.intro hx (And.intro hgt hf))
  have HS:=Lib.hid (And.intro hs (And.intro hN hd))
  have HK:=Lib.hid hk
  rw [hn] at hs ⊢
  have HSN:=Lib.hid hs
  have hn1:(n:Int)<1000000:=by omega
  clear hroot hkl hfr hto hgt hx hf hN hd hk
  cases hwv:withinB ⟨xk,xl,xr,xf,xt,xa,xi⟩ a b with
  |true=>
   have he:ent a b f t=1:=ent_in (by rw [hwv] at hwb;simpa using hwb.symm)
   rw [he]
   rw [hwv] at hwc
   have HC:=Lib.hid hwc
   clear hwb hab he hwv hwc hac hs hn ih
   go_enter Tryz.func142,Tryz.ntmps142
   go_wp2_with fail
   (with_reducible refine (HC.out _).mono ?_)
   rintro e w1 ⟨rfl,hu⟩
   have HU:=Lib.hid hu
   clear hu
   go_wp2_with fail
   go_ret
   exact ⟨rfl,HU.out⟩
  |false=>
   rw [hwv] at hwc
   cases hav:apartB ⟨xk,xl,xr,xf,xt,xa,xi⟩ a b with
   |true=>
    have he:ent a b f t=1:=ent_out (by rw [hav] at hab;simpa using hab.symm)
    rw [he]
    rw [hav] at hac
    have HC:=Lib.hid hwc
    have HA:=Lib.hid hac
    clear hwb hab he hwv hav hwc hac hs hn ih
    have d0:∀w1,Upd [] w w1→w1.cell? ⟨g,q+k*7,none⟩=some (.int .u8 xk):=fun w1 h=>(h.cell (World.block_lt_of_cell? _ _ c0) (by simp)).trans c0
    have d1:∀w1,Upd [] w w1→w1.cell? ⟨g,q+k*7+1,none⟩=some (.int .i64 xl):=fun w1 h=>(h.cell (World.block_lt_of_cell? _ _ c1) (by simp)).trans c1
    have d2:∀w1,Upd [] w w1→w1.cell? ⟨g,q+k*7+2,none⟩=some (.int .i64 xr):=fun w1 h=>(h.cell (World.block_lt_of_cell? _ _ c2) (by simp)).trans c2
    have d3:∀w1,Upd [] w w1→w1.cell? ⟨g,q+k*7+3,none⟩=some (.int .i64 xf):=fun w1 h=>(h.cell (World.block_lt_of_cell? _ _ c3) (by simp)).trans c3
    have d4:∀w1,Upd [] w w1→w1.cell? ⟨g,q+k*7+4,none⟩=some (.int .i64 xt):=fun w1 h=>(h.cell (World.block_lt_of_cell? _ _ c4) (by simp)).trans c4
    have d5:∀w1,Upd [] w w1→w1.cell? ⟨g,q+k*7+5,none⟩=some (.int .i64 xa):=fun w1 h=>(h.cell (World.block_lt_of_cell? _ _ c5) (by simp)).trans c5
    have d6:∀w1,Upd [] w w1→w1.cell? ⟨g,q+k*7+6,none⟩=some (.int .i64 xi):=fun w1 h=>(h.cell (World.block_lt_of_cell? _ _ c6) (by simp)).trans c6
    have HD:=Lib.hid (And.intro d0 (And.intro d1 (And.intro d2 (And.intro d3 (And.intro d4 (And.intro d5 d6))))))
    clear d0 d1 d2 d3 d4 d5 d6
    go_enter Tryz.func142,Tryz.ntmps142
    go_wp2_with fail
    (with_reducible refine (HC.out _).mono ?_)
    rintro e w1 ⟨rfl,hu⟩
    obtain ⟨d0,d1,d2,d3,d4,d5,d6⟩:=HD.out
    replace d0:=d0 _ hu
    replace d1:=d1 _ hu
    replace d2:=d2 _ hu
    replace d3:=d3 _ hu
    replace d4:=d4 _ hu
    replace d5:=d5 _ hu
    replace d6:=d6 _ hu
    have HU:=Lib.hid hu
    clear hu
    go_wp2_with fail
    (with_reducible refine (HA.out _).mono ?_)
    rintro e w2 ⟨rfl,hu⟩
    have HU2:=Lib.hid (HU.out.trans hu)
    clear hu
    go_wp2_with fail
    go_ret
    exact ⟨rfl,HU2.out⟩
   |false=>
    have hft:f+1<t:=by
     rw [hwv] at hwb
     rw [hav] at hab
     have h1:=hwb.symm
     have h2:=hab.symm
     have h3:=HX.out.2.2
     simp at h1 h2
     omega
    have hx:=HX.out.2.1 hft
    have hno:¬(t≤a∨b≤f):=by rw [hav] at hab;have h2:=hab.symm;simp at h2;omega
    have hni:¬(a≤f∧t≤b):=by rw [hwv] at hwb;have h1:=hwb.symm;simp at h1;omega
    have hnl:2*(t - f) - 1≤L.length:=by
     obtain ⟨Na,Nb,e,-⟩:=HS.out.2.1
     rw [e,List.length_append,List.length_append,nodesL_length _ (by omega)];omega
    have he:=ent_node hno hni hft
    obtain ⟨m,hm⟩:∃m,mid f t=m:=⟨_,rfl⟩
    have hmi:=mid_in hft
    have ih1:=fun w=>ih f (mid f t) o w (by have:=HS.out.2.2;omega) hmi.1 (HS.out.2.1.left hft)
    have ih2:=fun w=>ih (mid f t) t (o+2*(mid f t - f) - 1) w (by have:=HS.out.2.2;omega) hmi.2 (HS.out.2.1.right hft)
    have g1:=ent_any (a:=a) (b:=b) (mid f t - f) f (mid f t) (Nat.le_refl _)
    have g2:=ent_any (a:=a) (b:=b) (t - mid f t) (mid f t) t (Nat.le_refl _)
    have g3:lg (mid f t - f)≤20:=bitsN_le _ 20 (by omega)
    have g4:lg (t - mid f t)≤20:=bitsN_le _ 20 (by omega)
    rw [hm] at he ih1 ih2 hx g1 g2 g3 g4
    rw [hn] at ih1 ih2
    obtain ⟨E1,hE1⟩:∃E,ent a b f m=E:=⟨_,rfl⟩
    obtain ⟨E2,hE2⟩:∃E,ent a b m t=E:=⟨_,rfl⟩
    obtain ⟨l,hl⟩:∃l,o+2*(m - f) - 2=l:=⟨_,rfl⟩
    obtain ⟨r,hr⟩:∃l,o+2*(m - f) - 1+2*(t - m) - 2=l:=⟨_,rfl⟩
    rw [hE1,hE2] at he
    rw [hE1] at ih1 g1
    rw [hE2] at ih2 g2
    rw [hl] at ih1 hx
    rw [hr] at ih2 hx
    rw [he]
    injection hx with e1 e2 e3 e4 e5 e6 e7
    subst e1 e2 e3 e4 e5 e6 e7
    rw [hav] at hac
    have HC:=Lib.hid hwc
    have HA:=Lib.hid hac
    have HI1:=Lib.hid ih1
    have HI2:=Lib.hid ih2
    have hv:Value.int .i64 (1+(E1:Int)+(E2:Int))=Value.int .i64 ((1+(E1+E2):Nat):Int):=by congr 1;omega
    have y1:IntKind.i64.wrap (1+(E1:Int))=1+(E1:Int):=IntWalk.i64_in _ (by omega)
    have y2:IntKind.i64.wrap (1+(E1:Int)+(E2:Int))=1+(E1:Int)+(E2:Int):=IntWalk.i64_in _ (by omega)
    have HV:=Lib.hid hv
    have HY:=Lib.hid (And.intro y1 y2)
    have HND:=Lib.hid (show NdC w g (q+k*7) 2 (l:Int) (r:Int) (f:Int) (t:Int) 0 0 from ⟨c0,c1,c2,c3,c4,c5,c6⟩)
    clear hwb hab he hwv hav hwc hac hs hn ih ih1 ih2 hm hmi g1 g2 g3 g4 hE1 hE2 hl hr hno hni hnl hv y1 y2 hft HX
    go_enter Tryz.func142,Tryz.ntmps142
    go_wp2_with fail
    (with_reducible refine (HC.out _).mono ?_)
    rintro e w1 ⟨rfl,hu⟩
    obtain ⟨d0,d1,d2,d3,d4,d5,d6⟩:=HND.out.upd0 hu
    have HU:=Lib.hid hu
    clear hu c0 c1 c2 c3 c4 c5 c6
    go_wp2_with fail
    (with_reducible refine (HA.out _).mono ?_)
    rintro e w2 ⟨rfl,hu⟩
    have HU2:=Lib.hid (HU.out.trans hu)
    clear hu d0 d1 d2 d3 d4 d5 d6
    go_upto_region 3 with fail
    have z1:∀x:QW w2,x.w.cell? ⟨g,q+k*7+1,none⟩=some (.int .i64 (l:Int)):=fun x=>(HND.out.upd0 (HU2.out.trans x.up)).2.1
    have z2:∀x:QW w2,x.w.cell? ⟨g,q+k*7+2,none⟩=some (.int .i64 (r:Int)):=fun x=>(HND.out.upd0 (HU2.out.trans x.up)).2.2.1
    have H1:=Lib.hid (fun x:QW w2=>HI1.out x.w (HSN.out.upd0 (HU2.out.trans x.up)))
    have H2:=Lib.hid (fun x:QW w2=>HI2.out x.w (HSN.out.upd0 (HU2.out.trans x.up)))
    obtain ⟨y1,y2⟩:=HY.out
    refine wp_region_quietU (by kernel_rfl) (by kernel_rfl) ?_
    repeat (go_big_quiet_step (first | (with_reducible exact Calls.quietU (H1.out _)) | (with_reducible exact Calls.quietU (H2.out _))))
    refine wpQuiet_nil ?_
    intro wq hw'
    obtain ⟨⟨wy,hwq⟩,hw''⟩:=hw'
    dsimp only at hw''
    subst hw''
    go_wp2_with fail
    go_ret
    exact ⟨by rw [←HV.out];rfl,HU2.out.trans hwq⟩
def ParPost (w:World) (n:Nat) (e:Ending) (w':World):Prop:=∃z:Int,e=.returned (.int .i64 z)∧-1≤z∧z<(n:Int)∧w'=w
theorem parentC (v:Value) (L:List Nd) (p:Int) (n:Nat) (w:World) (hn:L.length=n) (hs:See KD w v L) (hL:n<1000000) :
 Calls Tryz.prog 140 #[v,.int .i64 p] w (ParPost w n):=by
 obtain ⟨A,C,rfl⟩:=hs.form
 have HS:=Lib.hid hs
 rw [hn]
 have HN:=Lib.hid hn
 have b2:(n:Int)<1000000:=by omega
 clear hs hn hL
 go_enter Tryz.func140,Tryz.ntmps140
 go_wp2_with fail
 go_loopg [5] n (fun m s5 wr=>∃i,m+i=n∧s5=.int .i64 (i:Int)∧wr=w)
 case atStart=>exact ⟨0,rfl,rfl,rfl⟩
 case round=>
  obtain ⟨i,hi,rfl,rfl⟩:=hrel
  have HI:=Lib.hid hi
  have i0:(0:Int)≤(i:Int):=Int.natCast_nonneg _
  by_cases hlt:i<n
  ·obtain ⟨x,hx⟩:∃x,L[i]? = some x:=⟨_,List.getElem?_eq_getElem (by rw [HN.out];exact hlt)⟩
   obtain ⟨g,q,hA,-,-,c0,c1,c2,-,-,-,-⟩:=KD.at HS.out hx
   subst hA
   obtain ⟨xk,xl,xr,xf,xt,xa,xi⟩:=x
   dsimp only at c0 c1 c2
   have i1:(i:Int)<(n:Int):=by omega
   have i2:(-1:Int)≤(i:Int):=by omega
   clear hx hi
   by_cases h1:xl=p
   ·have d1:(xl==p)=true:=by rw [beq_iff_eq];exact h1
    clear h1
    go_wp2_with fail
    go_ret
    exact ⟨_,rfl,i2,i1,rfl⟩
   ·have d1:(xl==p)=false:=by rw [beq_eq_false_iff_ne];exact h1
    clear h1
    by_cases h2:xr=p
    ·have d2:(xr==p)=true:=by rw [beq_iff_eq];exact h2
     clear h2
     go_wp2_with fail
     go_ret
     exact ⟨_,rfl,i2,i1,rfl⟩
    ·have d2:(xr==p)=false:=by rw [beq_eq_false_iff_ne];exact h2
     clear h2
     go_wp2_with fail
     go_roundg (n - (i+1))
     case measure=>have:=HI.out;omega
     case rel=>exact ⟨i+1,by have:=HI.out;omega,by go_num,rfl⟩
  ·have hd:decide ((i:Int)<(n:Int))=false:=decide_eq_false (by omega)
   have n0:(0:Int)≤(n:Int):=Int.natCast_nonneg _
   clear hi
   go_wp2_with fail
   go_ret
   exact ⟨-1,rfl,by omega,by omega,rfl⟩
def CanPost (w:World) (E:Nat) (e:Ending) (w':World):Prop:=∃v,e=.returned (.tuple #[v,.int .i64 (E:Int)])∧Upd [] w w'
theorem canon_none (v:Value) (a b:Nat) (h:a=b) (w:World):Calls Tryz.prog 113 #[v,.int .i64 (a:Int),.int .i64 (b:Int)] w (CanPost w 0):=by
 subst h
 have d:((a:Int)==(a:Int))=true:=by rw [beq_iff_eq]
 go_enter Tryz.func113,Tryz.ntmps113
 go_wp2_with fail
 go_ret2
 exact ⟨_,rfl,Upd.refl _ _⟩
theorem canon_some (v:Value) (L:List Nd) (N a b n:Nat) (hn:L.length=n) (hL:L=nodesL 0 N 0) (hN:0<N) (hNb:N<1000) (hab:a<b) (hb:b≤N) (w:World) (hs:See KD w v L) :
 Calls Tryz.prog 113 #[v,.int .i64 (a:Int),.int .i64 (b:Int)] w (CanPost w (ent a b 0 N)):=by
 obtain ⟨i1,hi1,hy0,hy1,hy2⟩:=info_parts kn_info
 obtain ⟨A,C,rfl⟩:=hs.form
 have hnn:n=2*N - 1:=by rw [←hn,hL,nodesL_length _ hN];omega
 have hen:=fun w=>enteredC (.slice A L.length C) L a b (by rw [hn];omega) N 0 N 0 w (by omega) hN ⟨[],[],by rw [hL];simp,rfl⟩
 rw [show 0+2*(N - 0) - 2=n - 1 by omega] at hen
 obtain ⟨E,hE⟩:∃E,ent a b 0 N=E:=⟨_,rfl⟩
 rw [hE] at hen ⊢
 rw [hn] at hen ⊢
 have hpar:=fun p w=>parentC (.slice A n C) L p n w hn
 rw [hn] at hs
 have hmx:∀leaf,leaf≤b→(leaf - a)*n≤2000000:=fun leaf h=>by
  have:=Nat.mul_le_mul (show leaf - a≤1000 by omega) (show n≤2000 by omega)
  omega
 have hn1:Value.int .i64 ((n:Int) - 1)=Value.int .i64 ((n - 1:Nat):Int):=by congr 1;omega
 have HS:=Lib.hid hs
 have HN:=Lib.hid hn
 have HEN:=Lib.hid hen
 have HPAR:=Lib.hid hpar
 have HMX0:=Lib.hid hmx
 have HN1:=Lib.hid hn1
 have d0:((a:Int)==(b:Int))=false:=by rw [beq_eq_false_iff_ne];omega
 have a0:(0:Int)≤(a:Int):=Int.natCast_nonneg _
 have b1:(b:Int)<1000:=by omega
 have n0:(0:Int)<(n:Int):=by omega
 have n1:(n:Int)<2000:=by omega
 have HAB:=Lib.hid (And.intro hab (And.intro hb (show n<2000 by omega)))
 clear hs hn hen hpar hmx hn1 hL hE hnn hab hb
 go_enter Tryz.func113,Tryz.ntmps113
 go_wp2_with fail
 go_loopg [8,9,10,11] (b - a) (fun m s8 s9 _ _ wr=>∃(k:Nat) (l:List Nat) (A':Option Addr) (C':Nat),m+k=b∧a≤k∧s9=.int .i64 (k:Int)∧s8=.slice A' l.length C'∧Upd [] w wr∧KN.row wr w.heap.size (.slice A' l.length C') l∧l.length≤(k - a)*n)
 case atStart=>exact ⟨a,[],none,0,by have:=HAB.out.1;omega,Nat.le_refl _,rfl,rfl,Upd.refl _ _,World.ownsRow_nil _ _ _ _,by simp⟩
 case round=>
  obtain ⟨k,l,A1,C1,hk,hak,rfl,rfl,hu,hrow,hll⟩:=hrel
  obtain ⟨wl,rfl⟩:∃wl:World,wl=wr:=⟨_,rfl⟩
  have k0:(0:Int)≤(k:Int):=Int.natCast_nonneg _
  by_cases hlt:k<b
  ·have k1:(k:Int)<(b:Int):=by omega
   have hmk:=HMX0.out k (by omega)
   have hmk1:=HMX0.out (k+1) (by omega)
   obtain ⟨T,hT⟩:∃T,(k - a)*n=T:=⟨_,rfl⟩
   have hT1:(k+1 - a)*n=T+n:=by rw [←hT,show k+1 - a=(k - a)+1 by omega,Nat.add_mul,Nat.one_mul]
   rw [hT] at hll hmk
   rw [hT1] at hmk1
   have HMX:=Lib.hid hmk1
   have HO:=Lib.hid (And.intro hu (And.intro hrow hll))
   have HK:=Lib.hid (And.intro hk (And.intro hak (And.intro hlt hT1)))
   clear hk hak hu hrow hll hmk hmk1 hT hT1 hlt
   go_wp2_with fail
   go_loopg [8,10,11] n (fun m s8 s10 _ wr=>∃(j:Nat) (l:List Nat) (A':Option Addr) (C':Nat),m+j=n∧s10=.int .i64 (j:Int)∧s8=.slice A' l.length C'∧Upd [] w wr∧KN.row wr w.heap.size (.slice A' l.length C') l∧l.length≤T+j)
   case atStart=>exact ⟨0,l,A1,C1,rfl,rfl,rfl,HO.out.1,HO.out.2.1,by have:=HO.out.2.2;omega⟩
   case round=>
    obtain ⟨j,l,A1,C1,hj,rfl,rfl,hu,hrow,hll⟩:=hrel
    obtain ⟨wq,rfl⟩:∃wq:World,wq=wr:=⟨_,rfl⟩
    have j0:(0:Int)≤(j:Int):=Int.natCast_nonneg _
    have HJ:=Lib.hid hj
    have HB:=Lib.hid (And.intro hu (And.intro hrow (And.intro hll trivial)))
    by_cases hlt:j<n
    ·have j1:(j:Int)<(n:Int):=by omega
     have hsee:=HS.out.upd0 hu
     obtain ⟨x,hx⟩:∃x,L[j]? = some x:=⟨_,List.getElem?_eq_getElem (by rw [HN.out];exact hlt)⟩
     obtain ⟨g,q,hA,-,-,c0,c1,c2,c3,c4,c5,c6⟩:=KD.at hsee hx
     have HPC:=Lib.hid (HPAR.out (j:Int) wq hsee (by have:=HAB.out.2.2;omega))
     subst hA
     obtain ⟨xk,xl,xr,xf,xt,xa,xi⟩:=x
     have hwc:=fun w=>withinC ⟨xk,xl,xr,xf,xt,xa,xi⟩ a b w
     unfold ndV at hwc
     dsimp only at c0 c1 c2 c3 c4 c5 c6 hwc
     have HSEE:=Lib.hid hsee
     clear hx hj hsee hu hrow hll
     go_upto_region 11 with ((with_reducible refine HPC.out.mono ?_);rintro e w' ⟨z,rfl,hz1,hz2,rfl⟩)
     by_cases h1:xf=(k:Int)
     ·have d1:(xf==(k:Int))=true:=by rw [beq_iff_eq];exact h1
      clear h1
      cases hwv:withinB ⟨xk,xl,xr,xf,xt,xa,xi⟩ a b with
      |false=>
       rw [hwv] at hwc
       have HWC:=Lib.hid hwc
       clear hwc hwv
       go_wp2_with fail
       (with_reducible refine (HWC.out _).mono ?_)
       rintro e w1 ⟨rfl,hu1⟩
       have HU1:=Lib.hid hu1
       clear hu1
       go_wp2_with fail
       go_roundg (n - (j+1))
       case measure=>have:=HJ.out;omega
       case rel=>exact ⟨j+1,l,A1,C1,by have:=HJ.out;omega,by go_num,rfl,HB.out.1.trans HU1.out,own_upd HB.out.2.1 HU1.out (by simp),by have:=HB.out.2.2.1;omega⟩
      |true=>
       rw [hwv] at hwc
       have HWC:=Lib.hid hwc
       clear hwc hwv
       by_cases hz:z<0
       ·have dz:decide (z<0)=true:=decide_eq_true hz
        clear hz
        go_wp2_with fail
        (with_reducible refine (HWC.out _).mono ?_)
        rintro e w1 ⟨rfl,hu1⟩
        have HU1:=Lib.hid hu1
        clear hu1
        go_wp2_with (at_builtin;refine wpList_app _ rfl _ _ 138 rfl w.heap.size 3 i1 (.int .i64 0) 1 8 Tryz.underlying138 hi1 hy0 hy1 hy2 rfl (by decide) _ l.length (KN.all l) rfl (own_upd HB.out.2.1 (HU1.out.trans ((Upd.refl [] _).alloc _)) (by simp)) _ 1 [.int .i64 (j:Int)] rfl (sees_lit _ #[.int .i64 (j:Int)] 3 1 1 rfl (by decide)) (by simp [Value.oneCell']) (by have:=HB.out.2.2.1;have:=HMX.out;unfold maxLen;omega) (by have:=HB.out.2.2.1;have:=HMX.out;omega) (by have:=HB.out.1.size;have:=(HU1.out).size;simp;omega) ?_)
        intro A' C' wa HP
        have hrow:KN.row wa w.heap.size (.slice A' (l++[j]).length C') (l++[j]):=by
         have h:=HP.own
         unfold Kind.row
         rw [List.length_append,Kind.all_app]
         exact h
        have hua:Upd [] w wa:=((HB.out.1.trans HU1.out).alloc _).trans' HP.upd (fun y hy=>.inr (own_ge HB.out.2.1 y hy))
        have hus:True:=trivial
        have HE:=Lib.hid (And.intro hua hrow)
        clear HP hrow hua hus
        go_wp2_with fail
        go_roundg (n - (j+1))
        case measure=>have:=HJ.out;omega
        case rel=>exact ⟨j+1,l++[j],A',C',by have:=HJ.out;omega,by go_num,by simp,HE.out.1,HE.out.2,by have:=HB.out.2.2.1;simp;omega⟩
       ·have dz:decide (z<0)=false:=decide_eq_false hz
        obtain ⟨u,rfl⟩:∃u:Nat,z=(u:Int):=⟨z.toNat,by omega⟩
        have u0:(0:Int)≤(u:Int):=Int.natCast_nonneg _
        have un:u<n:=by omega
        obtain ⟨y,hy⟩:∃y,L[u]? = some y:=⟨_,List.getElem?_eq_getElem (by rw [HN.out];exact un)⟩
        obtain ⟨g',q',hA,-,-,e0,e1,e2,e3,e4,e5,e6⟩:=KD.at HSEE.out hy
        cases hA
        obtain ⟨yk,yl,yr,yf,yt,ya,yi⟩:=y
        have hyc:=fun w=>withinC ⟨yk,yl,yr,yf,yt,ya,yi⟩ a b w
        unfold ndV at hyc
        dsimp only at e0 e1 e2 e3 e4 e5 e6 hyc
        have HND:=Lib.hid (show NdC w' g (q+u*7) yk yl yr yf yt ya yi from ⟨e0,e1,e2,e3,e4,e5,e6⟩)
        clear hz hy e0 e1 e2 e3 e4 e5 e6
        obtain ⟨bv,hbv⟩:∃bv,withinB ⟨yk,yl,yr,yf,yt,ya,yi⟩ a b=bv:=⟨_,rfl⟩
        rw [hbv] at hyc
        have HYC:=Lib.hid hyc
        clear hyc hbv
        go_wp2_with fail
        (with_reducible refine (HWC.out _).mono ?_)
        rintro e w1 ⟨rfl,hu1⟩
        obtain ⟨e0,e1,e2,e3,e4,e5,e6⟩:=HND.out.upd0 hu1
        have HU1:=Lib.hid hu1
        clear hu1 c0 c1 c2 c3 c4 c5 c6
        cases bv
        ·go_wp2_with fail
         (with_reducible refine (HYC.out _).mono ?_)
         rintro e w2 ⟨rfl,hu2⟩
         have HU2:=Lib.hid (HU1.out.trans hu2)
         clear hu2 e0 e1 e2 e3 e4 e5 e6
         go_wp2_with (at_builtin;refine wpList_app _ rfl _ _ 138 rfl w.heap.size 3 i1 (.int .i64 0) 1 8 Tryz.underlying138 hi1 hy0 hy1 hy2 rfl (by decide) _ l.length (KN.all l) rfl (own_upd HB.out.2.1 (HU2.out.trans ((Upd.refl [] _).alloc _)) (by simp)) _ 1 [.int .i64 (j:Int)] rfl (sees_lit _ #[.int .i64 (j:Int)] 3 1 1 rfl (by decide)) (by simp [Value.oneCell']) (by have:=HB.out.2.2.1;have:=HMX.out;unfold maxLen;omega) (by have:=HB.out.2.2.1;have:=HMX.out;omega) (by have:=HB.out.1.size;have:=(HU2.out).size;simp;omega) ?_)
         intro A' C' wa HP
         have hrow:KN.row wa w.heap.size (.slice A' (l++[j]).length C') (l++[j]):=by
          have h:=HP.own
          unfold Kind.row
          rw [List.length_append,Kind.all_app]
          exact h
         have hua:Upd [] w wa:=((HB.out.1.trans HU2.out).alloc _).trans' HP.upd (fun y hy=>.inr (own_ge HB.out.2.1 y hy))
         have hus:True:=trivial
         have HE:=Lib.hid (And.intro hua hrow)
         clear HP hrow hua hus
         go_wp2_with fail
         go_roundg (n - (j+1))
         case measure=>have:=HJ.out;omega
         case rel=>exact ⟨j+1,l++[j],A',C',by have:=HJ.out;omega,by go_num,by simp,HE.out.1,HE.out.2,by have:=HB.out.2.2.1;simp;omega⟩
        ·go_wp2_with fail
         (with_reducible refine (HYC.out _).mono ?_)
         rintro e w2 ⟨rfl,hu2⟩
         have HU2:=Lib.hid (HU1.out.trans hu2)
         clear hu2 e0 e1 e2 e3 e4 e5 e6
         go_wp2_with fail
         go_roundg (n - (j+1))
         case measure=>have:=HJ.out;omega
         case rel=>exact ⟨j+1,l,A1,C1,by have:=HJ.out;omega,by go_num,rfl,HB.out.1.trans HU2.out,own_upd HB.out.2.1 HU2.out (by simp),by have:=HB.out.2.2.1;omega⟩
     ·have d1:(xf==(k:Int))=false:=by rw [beq_eq_false_iff_ne];exact h1
      clear h1 hwc
      go_wp2_with fail
      go_roundg (n - (j+1))
      case measure=>have:=HJ.out;omega
      case rel=>exact ⟨j+1,l,A1,C1,by have:=HJ.out;omega,by go_num,rfl,HB.out.1,HB.out.2.1,by have:=HB.out.2.2.1;omega⟩
    ·have hd:decide ((j:Int)<(n:Int))=false:=decide_eq_false (by omega)
     have HJN:=Lib.hid (show j=n by omega)
     clear hj hu hrow hll
     go_wp2_with fail
     go_roundg (b - (k+1))
     case measure=>have:=HK.out;omega
     case rel=>exact ⟨k+1,l,A1,C1,by have:=HK.out;omega,by have:=HK.out;omega,by go_num,rfl,HB.out.1,HB.out.2.1,by rw [HK.out.2.2.2];have:=HB.out.2.2.1;have:=HJN.out;omega⟩
  ·have hd:decide ((k:Int)<(b:Int))=false:=decide_eq_false (by omega)
   have HO:=Lib.hid (And.intro hu (HEN.out _ (HS.out.upd0 hu)))
   clear hk hak hu hrow hll
   go_wp2_with fail
   rw [HN1.out]
   (with_reducible refine HO.out.2.mono ?_)
   rintro e w1 ⟨rfl,hu1⟩
   have HU1:=Lib.hid (HO.out.1.trans hu1)
   clear hu1
   go_wp2_with fail
   go_ret2
   exact ⟨_,rfl,HU1.out⟩
theorem rcanonC (v:Value) (N a b:Nat) (hN:N<1000) (hab:a≤b) (hb:b≤N) (w:World) (hs:See KD w v (nodesN N)) :
 Calls Tryz.prog 113 #[v,.int .i64 (a:Int),.int .i64 (b:Int)] w (CanPost w (entN (a,b) N)):=by
 unfold entN
 dsimp only
 by_cases h:a=b
 ·rw [if_pos h]
  exact canon_none v a b h w
 ·rw [if_neg h]
  have hN0:0<N:=by omega
  have e:nodesN N=nodesL 0 N 0:=by unfold nodesN;rw [if_neg (by omega)]
  rw [e] at hs
  exact canon_some v _ N a b _ rfl rfl hN0 hN (by omega) hb w hs
theorem rnodes_all (n:Nat) (hn:n<1000) (w:World):Calls Tryz.prog 112 #[.int .i64 0,.int .i64 (n:Int),.int .i64 0] w fun e w'=>
 ∃A C,e=.returned (.slice A (nodesN n).length C)∧See KD w' (.slice A (nodesN n).length C) (nodesN n)∧Upd [] w w':=by
 by_cases h:n=0
 ·subst h
  have:=rnodes_none 0 0 0 w (Nat.le_refl _) (by omega)
  refine Calls.mono (this:Calls _ _ #[.int .i64 0,.int .i64 ((0:Nat):Int),.int .i64 0] w _) ?_
  rintro e w' ⟨rfl,rfl⟩
  exact ⟨none,0,rfl,⟨rfl,.inl ⟨rfl,rfl⟩⟩,Upd.refl _ _⟩
 ·have:=rnodesC n 0 n 0 w (by omega) (by omega) (by omega) (by omega)
  refine Calls.mono (this:Calls _ _ #[.int .i64 0,.int .i64 (n:Int),.int .i64 0] w _) ?_
  rintro e w' ⟨A,C,rfl,hr,hu⟩
  have e2:nodesN n=nodesL 0 n 0:=by unfold nodesN;rw [if_neg h]
  rw [e2]
  exact ⟨A,C,rfl,See.of_row hr,hu⟩
end Go.Proofs.YtkmnbodlciepaaaGreat
