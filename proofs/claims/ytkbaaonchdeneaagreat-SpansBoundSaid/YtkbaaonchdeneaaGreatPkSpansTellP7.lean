/- A region that draws its order and only reads, whose callees write nothing that was there (but may make memory): walked once. No program. rank.First: the place of the first one not below a number, in a list that rises. wide.Diff. Chapter 8 plainly: which nodes of a frame make up a range, which lie over a leaf; what stands at nodes. No program. Chapter 8 plainly: the slots of numbers among ends; what a number stabs is what stands over its slot. No program. -/
import Derived.BigQuiet
import Derived.WalkKit
import Derived.Deep.QuietTactic
import Derived.Deep.LoopGhost
import Derived.Deep.Light
import Derived.IntWalk
import Derived.Test.YtkbaaonchdeneaaGreatPkSpansTellP1
import Derived.Test.YtkbaaonchdeneaaGreatPk6
import Derived.Test.YtkbaaonchdeneaaGreatPkSpansTellP2
set_option maxHeartbeats 400000
set_option maxRecDepth 100000
namespace Go.Proofs.YtkbaaonchdeneaaGreat
open Go.RowKit
structure QW (W:World) where
 w:World
 up:Upd [] W w
instance (W:World):Nonempty (QW W):=⟨⟨W,Upd.refl _ _⟩⟩
theorem wp_region_quietU {P:Program} {id:Nat} {Q:Exit→Act→World→Prop} {a:Act} {w:World} {l:List Oper} (hm:P.follows .mixedOrders=true) (hB:Region.lexB .any l.toArray=true)
 (h:wpQuiet P l.toArray (fun w'=>∃x:QW w,w'=x.w) (fun a'=>∀w',(∃x:QW w,w'=x.w)→Q .normal a' w') l a):(Code.region id l.toArray true).wp P Q a w:=
 wp_region_quiet (C:=fun w'=>∃x:QW w,w'=x.w) hm hB ⟨⟨w.drewN 1,(Upd.refl _ _).drewN 1⟩,rfl⟩ (by simpa using h)
theorem Calls.quietU {P:Program} {f:FuncId} {args:Array Value} {w:World} {x:QW w} {v:Value}
 (h:Calls P f args x.w fun e w'=>e=.returned v∧Upd [] x.w w'):Calls P f args x.w fun e w''=>e=.returned v∧∃y:QW w,w''=y.w:=
 h.mono fun _ _ ⟨he,hu⟩=>⟨he,⟨⟨_,x.up.trans hu⟩,rfl⟩⟩
def below (L:List Int) (x:Int):Nat:=(L.filter fun y=>decide (y<x)).length
theorem below_le (L:List Int) (x:Int):below L x≤L.length:=List.length_filter_le _ _
theorem below_at {L:List Int} (hs:L.Pairwise (·≤·)) (x:Int):∀(k:Nat) (y:Int),L[k]? = some y→(y<x↔k<below L x):=by
 induction L with
 |nil=>intro k y h;simp at h
 |cons a L ih=>
  rw [List.pairwise_cons] at hs
  intro k y h
  by_cases ha:a<x
  ·have e:below (a::L) x=below L x+1:=by unfold below;rw [List.filter_cons,if_pos (by simpa using ha)];rfl
   rw [e]
   rcases k with _ | k
   ·simp at h;subst h;simp [ha]
   ·rw [ih hs.2 k y (by simpa using h)];omega
  ·have e:below (a::L) x=0:=by
    unfold below
    rw [List.length_eq_zero_iff,List.filter_eq_nil_iff]
    intro z hz
    rcases List.mem_cons.1 hz with rfl | hz
    ·simpa using ha
    ·have:=hs.1 z hz;simp;omega
   rw [e]
   have:a≤y:=by
    rcases k with _ | k
    ·simp at h;omega
    ·exact hs.1 y (List.mem_of_getElem? (by simpa using h))
   omega
theorem first_so (bl bx:Nat) (v:Value) (L:List Int) (x y:Int) (k:Nat) (w:World) (hc1:w.cell? ⟨bl,0,none⟩=some v) (hc2:w.cell? ⟨bx,0,none⟩=some (.int .i64 x)) (h:See KL w v L) (hk:L[k]? = some y) :
 Calls Tryz.prog 257 #[.int .i64 (k:Int),.pointer (some ⟨bl,0,none⟩),.pointer (some ⟨bx,0,none⟩)] w fun e w'=>e=.returned (.bool (decide (x≤y)))∧∃n,w'=w.drewN n:=by
 obtain ⟨A,C,rfl⟩:=h.form
 obtain ⟨b,o,rfl,h1,h2,h3⟩:=KL.at h hk
 have hkl:=(List.getElem?_eq_some_iff.1 hk).1
 unfold maxLen at h2
 have b0:(0:Int)≤(k:Int):=Int.natCast_nonneg _
 have b1:(k:Int)<(L.length:Int):=by omega
 clear h hk
 go_enter Tryz.func257,Tryz.ntmps257
 go_wp2_with fail
 go_quiet (fail)
 go_wp2_with fail
 go_ret
 exact ⟨rfl,_,rfl⟩
theorem bits_half (d e:Nat) (hd:0<d) (he:e≤d / 2):bitsN e+1≤bitsN d:=by
 have h1:=bitsN_lt d
 have hb:bitsN d≠0:=fun h=>by rw [h] at h1;omega
 obtain ⟨b,hbb⟩:∃b,bitsN d=b+1:=⟨bitsN d - 1,by omega⟩
 rw [hbb] at h1 ⊢
 have:bitsN e≤b:=bitsN_le e b (by rw [Nat.pow_succ] at h1;omega)
 omega
end Go.Proofs.YtkbaaonchdeneaaGreat
namespace Go.Proofs.YtkbaaonchdeneaaGreat
def canonL (a b f t o:Nat):List Nat:=
 if t≤a∨b≤f then [] else if a≤f∧t≤b then [o+2*(t - f) - 2] else
 if _h:f+1<t then canonL a b f (mid f t) o++canonL a b (mid f t) t (o+2*(mid f t - f) - 1) else []
termination_by t - f
decreasing_by
 ·have:=mid_in (by assumption);omega
 ·have:=mid_in (by assumption);omega
def pathL (s f t o:Nat):List Nat:=
 (o+2*(t - f) - 2)::(if _h:f+1<t then (if s<mid f t then pathL s f (mid f t) o else pathL s (mid f t) t (o+2*(mid f t - f) - 1)) else [])
termination_by t - f
decreasing_by
 ·have:=mid_in (by assumption);omega
 ·have:=mid_in (by assumption);omega
theorem canonL_out {a b f t o:Nat} (h:t≤a∨b≤f):canonL a b f t o = []:=by rw [canonL,if_pos h]
theorem canonL_in {a b f t o:Nat} (h:¬(t≤a∨b≤f)) (h1:a≤f∧t≤b):canonL a b f t o = [o+2*(t - f) - 2]:=by rw [canonL,if_neg h,if_pos h1]
theorem canonL_node {a b f t o:Nat} (h:¬(t≤a∨b≤f)) (h1:¬(a≤f∧t≤b)) (h2:f+1<t):canonL a b f t o=canonL a b f (mid f t) o++canonL a b (mid f t) t (o+2*(mid f t - f) - 1):=by rw [canonL,if_neg h,if_neg h1,dif_pos h2]
theorem pathL_leaf {s f t o:Nat} (h:¬f+1<t):pathL s f t o = [o+2*(t - f) - 2]:=by rw [pathL,dif_neg h]
theorem pathL_left {s f t o:Nat} (h:f+1<t) (hs:s<mid f t):pathL s f t o=(o+2*(t - f) - 2)::pathL s f (mid f t) o:=by rw [pathL,dif_pos h,if_pos hs]
theorem pathL_right {s f t o:Nat} (h:f+1<t) (hs:¬s<mid f t):pathL s f t o=(o+2*(t - f) - 2)::pathL s (mid f t) t (o+2*(mid f t - f) - 1):=by rw [pathL,dif_pos h,if_neg hs]
theorem canonL_range:∀(d a b f t o:Nat),t - f≤d→f<t→∀k∈canonL a b f t o,o≤k∧k<o+2*(t - f) - 1
 |0,_,_,_,_,_,hd,hft=>by omega
 |d+1,a,b,f,t,o,hd,hft=>by
  intro k hk
  by_cases h:t≤a∨b≤f
  ·rw [canonL_out h] at hk;simp at hk
  ·by_cases h1:a≤f∧t≤b
   ·rw [canonL_in h h1] at hk;simp at hk;omega
   ·have h2:f+1<t:=by omega
    have hm:=mid_in h2
    rw [canonL_node h h1 h2,List.mem_append] at hk
    rcases hk with hk | hk
    ·have:=canonL_range d a b f (mid f t) o (by omega) hm.1 k hk;omega
    ·have:=canonL_range d a b (mid f t) t (o+2*(mid f t - f) - 1) (by omega) hm.2 k hk;omega
theorem canonL_nodup:∀(d a b f t o:Nat),t - f≤d→f<t→(canonL a b f t o).Nodup
 |0,_,_,_,_,_,hd,hft=>by omega
 |d+1,a,b,f,t,o,hd,hft=>by
  by_cases h:t≤a∨b≤f
  ·rw [canonL_out h];exact List.nodup_nil
  ·by_cases h1:a≤f∧t≤b
   ·rw [canonL_in h h1];simp
   ·have h2:f+1<t:=by omega
    have hm:=mid_in h2
    rw [canonL_node h h1 h2,List.nodup_append]
    refine ⟨canonL_nodup d a b f (mid f t) o (by omega) hm.1,canonL_nodup d a b (mid f t) t _ (by omega) hm.2,fun x hx y hy=>?_⟩
    have h3:=canonL_range (mid f t - f) a b f (mid f t) o (Nat.le_refl _) hm.1 x hx
    have h4:=canonL_range (t - mid f t) a b (mid f t) t _ (Nat.le_refl _) hm.2 y hy
    omega
theorem pathL_range:∀(d s f t o:Nat),t - f≤d→f<t→∀k∈pathL s f t o,o≤k∧k<o+2*(t - f) - 1
 |0,_,_,_,_,hd,hft=>by omega
 |d+1,s,f,t,o,hd,hft=>by
  intro k hk
  by_cases h2:f+1<t
  ·have hm:=mid_in h2
   by_cases hs:s<mid f t
   ·rw [pathL_left h2 hs] at hk
    rcases List.mem_cons.1 hk with rfl | hk
    ·omega
    ·have:=pathL_range d s f (mid f t) o (by omega) hm.1 k hk;omega
   ·rw [pathL_right h2 hs] at hk
    rcases List.mem_cons.1 hk with rfl | hk
    ·omega
    ·have:=pathL_range d s (mid f t) t (o+2*(mid f t - f) - 1) (by omega) hm.2 k hk;omega
  ·rw [pathL_leaf h2] at hk;simp at hk;omega
theorem countP_none {l:List Nat} {C:List Nat} (h:∀k∈l,k∉C):l.countP (fun k=>decide (k∈C))=0:=by
 rw [List.countP_eq_zero]
 intro k hk
 simpa using h k hk
theorem path_canon:∀(d a b s f t o:Nat),t - f≤d→f≤s→s<t→(pathL s f t o).countP (fun k=>decide (k∈canonL a b f t o))=if a≤s∧s<b then 1 else 0
 |0,_,_,_,_,_,_,hd,hfs,hst=>by omega
 |d+1,a,b,s,f,t,o,hd,hfs,hst=>by
  by_cases h:t≤a∨b≤f
  ·rw [canonL_out h,if_neg (by omega)]
   exact countP_none fun k _=>by simp
  ·by_cases h1:a≤f∧t≤b
   ·rw [canonL_in h h1,if_pos (by omega)]
    by_cases h2:f+1<t
    ·have hm:=mid_in h2
     have key:∀l:List Nat,(∀k∈l,k<o+2*(t - f) - 2)→((o+2*(t - f) - 2)::l).countP (fun k=>decide (k∈[o+2*(t - f) - 2]))=1:=by
      intro l hl
      rw [List.countP_cons_of_pos (by simp),countP_none fun k hk=>by have:=hl k hk;simp;omega]
     by_cases hs:s<mid f t
     ·rw [pathL_left h2 hs]
      exact key _ fun k hk=>by have:=pathL_range (mid f t - f) s f (mid f t) o (Nat.le_refl _) hm.1 k hk;omega
     ·rw [pathL_right h2 hs]
      exact key _ fun k hk=>by have:=pathL_range (t - mid f t) s (mid f t) t _ (Nat.le_refl _) hm.2 k hk;omega
    ·rw [pathL_leaf h2]
     simp
   ·have h2:f+1<t:=by omega
    have hm:=mid_in h2
    rw [canonL_node h h1 h2]
    have hroot:(o+2*(t - f) - 2)∉canonL a b f (mid f t) o++canonL a b (mid f t) t (o+2*(mid f t - f) - 1):=by
     rw [List.mem_append]
     rintro (hk | hk)
     ·have:=canonL_range (mid f t - f) a b f (mid f t) o (Nat.le_refl _) hm.1 _ hk;omega
     ·have:=canonL_range (t - mid f t) a b (mid f t) t _ (Nat.le_refl _) hm.2 _ hk;omega
    by_cases hs:s<mid f t
    ·rw [pathL_left h2 hs,List.countP_cons_of_neg (by simpa using hroot),←path_canon d a b s f (mid f t) o (by omega) hfs hs]
     refine List.countP_congr fun k hk=>?_
     have h3:=pathL_range (mid f t - f) s f (mid f t) o (Nat.le_refl _) hm.1 k hk
     have h4:k∉canonL a b (mid f t) t (o+2*(mid f t - f) - 1):=fun hc=>by have:=canonL_range (t - mid f t) a b (mid f t) t _ (Nat.le_refl _) hm.2 _ hc;omega
     simp [List.mem_append,h4]
    ·rw [pathL_right h2 hs,List.countP_cons_of_neg (by simpa using hroot),←path_canon d a b s (mid f t) t (o+2*(mid f t - f) - 1) (by omega) (by omega) hst]
     refine List.countP_congr fun k hk=>?_
     have h3:=pathL_range (t - mid f t) s (mid f t) t _ (Nat.le_refl _) hm.2 k hk
     have h4:k∉canonL a b f (mid f t) o:=fun hc=>by have:=canonL_range (mid f t - f) a b f (mid f t) o (Nat.le_refl _) hm.1 _ hc;omega
     simp [List.mem_append,h4]
theorem pathL_len:∀(d s f t o:Nat),t - f≤d→f≤s→s<t→(pathL s f t o).length≤lg (t - f)+1
 |0,_,_,_,_,hd,hfs,hst=>by omega
 |d+1,s,f,t,o,hd,hfs,hst=>by
  by_cases h2:f+1<t
  ·have hm:=mid_in h2
   by_cases hs:s<mid f t
   ·rw [pathL_left h2 hs,List.length_cons]
    have:=pathL_len d s f (mid f t) o (by omega) hfs hs
    have:=lg_left h2
    omega
   ·rw [pathL_right h2 hs,List.length_cons]
    have:=pathL_len d s (mid f t) t (o+2*(mid f t - f) - 1) (by omega) (by omega) hst
    have:=lg_right h2
    omega
  ·rw [pathL_leaf h2];simp
end Go.Proofs.YtkbaaonchdeneaaGreat
namespace Go.Proofs.YtkbaaonchdeneaaGreat
theorem below_here {E:List Int} (h:E.Pairwise (· < ·)) {x:Int} (hx:x∈E):E[below E x]? = some x:=by
 obtain ⟨k,hk⟩:=List.mem_iff_getElem?.1 hx
 have hle:E.Pairwise (·≤·):=h.imp (by intro a b hab;omega)
 have h1:=below_at hle x
 have hkl:=(List.getElem?_eq_some_iff.1 hk).1
 have h2:¬k<below E x:=fun hc=>by have:=(h1 k x hk).2 hc;omega
 have h3:¬below E x<k:=fun hc=>by
  have hb:below E x<E.length:=by omega
  have e:=List.getElem?_eq_getElem hb
  have h4:¬E[below E x]<x:=fun hc'=>by have:=(h1 _ _ e).1 hc';omega
  have h5:=List.pairwise_iff_getElem.1 h (below E x) k hb hkl hc
  rw [(List.getElem?_eq_some_iff.1 hk).2] at h5
  exact h4 h5
 have:below E x=k:=by omega
 rw [this];exact hk
def slotX (E:List Int) (x:Int):Nat:=if E[below E x]? = some x then 2*below E x else 2*below E x - 1
def nSl (E:List Int):Nat:=2*E.length - 1
def nodesS (E:List Int) (s:Sp):List Nat:=canonL (2*below E s.lo) (2*below E s.hi+1) 0 (nSl E) 0
def pathS (E:List Int) (x:Int):List Nat:=pathL (slotX E x) 0 (nSl E) 0
theorem slot_facts {E:List Int} (h:E.Pairwise (· < ·)) {x a z:Int} (ha:E[0]? = some a) (hz:E[E.length - 1]? = some z) (hx:a≤x∧x≤z) :
 slotX E x<nSl E∧∀s:Sp,s.lo∈E→s.hi∈E→((2*below E s.lo≤slotX E x∧slotX E x<2*below E s.hi+1)↔(s.lo≤x∧x≤s.hi)):=by
 have hle:E.Pairwise (·≤·):=h.imp (by intro a b hab;omega)
 have hpos:0<E.length:=(List.getElem?_eq_some_iff.1 ha).1
 have hk:below E x≤E.length - 1:=by
  have:=(below_at hle x (E.length - 1) z hz)
  omega
 have hslot:slotX E x<nSl E:=by
  unfold slotX nSl
  split<;>omega
 refine ⟨hslot,fun s h1 h2=>?_⟩
 have e1:=below_here h h1
 have e2:=below_here h h2
 have b1:=below_at hle x (below E s.lo) s.lo e1
 have b2:=below_at hle x (below E s.hi) s.hi e2
 unfold slotX
 by_cases hh:E[below E x]? = some x
 ·rw [if_pos hh]
  have b3:=below_at hle s.lo (below E x) x hh
  omega
 ·rw [if_neg hh]
  have h0:0<below E x:=by
   refine Nat.pos_of_ne_zero fun hc=>?_
   rw [hc] at hh
   have:=below_at hle x 0 a ha
   rw [hc] at this
   have e:a=x:=by omega
   rw [e] at ha
   exact hh ha
  have hlo:s.lo≠x:=fun e=>by rw [e] at e1;exact hh e1
  have hhi:s.hi≠x:=fun e=>by rw [e] at e2;exact hh e2
  omega
theorem flatMap_append_perm {α β:Type} (f g:α→List β):∀l:List α,(l.flatMap fun x=>f x++g x).Perm (l.flatMap f++l.flatMap g)
 | []=>List.Perm.refl _
 |a::l=>by
  simp only [List.flatMap_cons,List.append_assoc]
  refine List.Perm.append_left _ ?_
  have:=(flatMap_append_perm f g l).append_left (g a)
  refine this.trans ?_
  rw [←List.append_assoc,←List.append_assoc]
  exact List.Perm.append_right _ List.perm_append_comm
theorem flatMap_one {α β:Type} (q:α→Bool) (s:β):∀P:List α,(P.flatMap fun k=>if q k=true then [s] else [])=List.replicate (P.countP q) s
 | []=>rfl
 |k::P=>by
  rw [List.flatMap_cons,flatMap_one q s P,List.countP_cons]
  cases q k<;>simp [List.replicate_succ]
theorem stands_perm {α β:Type} (q:α→β→Bool) (P:List α):∀S:List β,(P.flatMap fun k=>S.filter (q k)).Perm (S.flatMap fun s=>List.replicate (P.countP fun k=>q k s) s)
 | []=>by simp
 |s::S=>by
  have e:(fun k=>(s::S).filter (q k))=fun k=>(if q k s=true then [s] else [])++S.filter (q k):=by
   funext k
   rw [List.filter_cons]
   split<;>rfl
  rw [e,List.flatMap_cons]
  refine (flatMap_append_perm _ _ P).trans ?_
  rw [flatMap_one (fun k=>q k s) s P]
  exact List.Perm.append_left _ (stands_perm q P S)
theorem flatMap_rep {β:Type} (p:β→Bool):∀S:List β,(S.flatMap fun s=>List.replicate (if p s=true then 1 else 0) s)=S.filter p
 | []=>rfl
 |s::S=>by
  rw [List.flatMap_cons,flatMap_rep p S,List.filter_cons]
  cases p s<;>simp
def SpOk (E:List Int) (s:Sp):Prop:=s.lo∈E∧s.hi∈E∧s.lo≤s.hi
theorem stab_perm {E:List Int} (h:E.Pairwise (· < ·)) {x a z:Int} (ha:E[0]? = some a) (hz:E[E.length - 1]? = some z) (hx:a≤x∧x≤z) {S:List Sp} (hS:∀s∈S,SpOk E s) :
 ((pathS E x).flatMap fun k=>S.filter fun s=>decide (k∈nodesS E s)).Perm (S.filter fun s=>stabBM s.lo s.hi x):=by
 obtain ⟨h1,h2⟩:=slot_facts h ha hz hx
 refine (stands_perm (fun k s=>decide (k∈nodesS E s)) (pathS E x) S).trans ?_
 rw [←flatMap_rep]
 refine List.Perm.of_eq ?_
 have key:∀s∈S,List.replicate ((pathS E x).countP fun k=>decide (k∈nodesS E s)) s=List.replicate (if stabBM s.lo s.hi x=true then 1 else 0) s:=fun s hs=>by
  unfold pathS nodesS
  rw [path_canon (nSl E) _ _ _ 0 (nSl E) 0 (by omega) (Nat.zero_le _) h1]
  have:=h2 s (hS s hs).1 (hS s hs).2.1
  congr 1
  unfold stabBM
  by_cases c:s.lo≤x∧x≤s.hi
  ·rw [if_pos (this.2 c),if_pos (by simp [c.1,c.2])]
  ·rw [if_neg (fun hc=>c (this.1 hc)),if_neg (by simp only [Bool.and_eq_true,decide_eq_true_eq];exact c)]
 clear h2
 induction S with
 |nil=>rfl
 |cons s S ih=>
  rw [List.flatMap_cons,List.flatMap_cons,key s (by simp),ih (fun t ht=>hS t (List.mem_cons_of_mem _ ht)) (fun t ht=>key t (List.mem_cons_of_mem _ ht))]
theorem stab_out {E:List Int} (h:E.Pairwise (· < ·)) {x:Int} {S:List Sp} (hS:∀s∈S,SpOk E s) (hx:(∀a,E[0]? = some a→x<a)∨(∀z,E[E.length - 1]? = some z→z<x)):(S.filter fun s=>stabBM s.lo s.hi x) = []:=by
 rw [List.filter_eq_nil_iff]
 intro s hs hc
 unfold stabBM at hc
 simp only [Bool.and_eq_true,decide_eq_true_eq] at hc
 obtain ⟨h1,h2,h3⟩:=hS s hs
 have hpos:0<E.length:=List.length_pos_of_mem h1
 have hle:E.Pairwise (·≤·):=h.imp (by intro a b hab;omega)
 rcases hx with hx | hx
 ·have h0:=hx _ (List.getElem?_eq_getElem hpos)
  obtain ⟨k,hk,e⟩:=List.mem_iff_getElem.1 h1
  rcases Nat.eq_zero_or_pos k with hk0 | hk0
  ·subst hk0;rw [e] at h0;omega
  ·have:=List.pairwise_iff_getElem.1 h 0 k hpos hk hk0
   rw [e] at this;omega
 ·have h0:=hx _ (List.getElem?_eq_getElem (by omega))
  obtain ⟨k,hk,e⟩:=List.mem_iff_getElem.1 h2
  rcases Nat.lt_or_ge k (E.length - 1) with hk0 | hk0
  ·have:=List.pairwise_iff_getElem.1 h k (E.length - 1) hk (by omega) hk0
   rw [e] at this;omega
  ·have ek:k=E.length - 1:=by omega
   subst ek;rw [e] at h0;omega
end Go.Proofs.YtkbaaonchdeneaaGreat
