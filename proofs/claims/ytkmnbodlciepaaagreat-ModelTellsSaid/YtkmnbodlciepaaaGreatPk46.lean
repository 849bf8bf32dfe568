/- pool.Put: a node more. frame.lay: the nodes over some leaves are put. sync.Once, one goroutine: Do when it is not yet done; Do when it is done. (Turned from the guide's worked text on sync.Once.) frame: New, Root, the nodes that are made once. frame.Nodes: the nodes that are made once. A cover's change, plainly: the lists of the nodes' counts and parts. cover.change: a span's gaps are covered once more, or less. cover.change, as a whole: the lists of the nodes over some leaves become those of the changed counts. -/
import Derived.Lib.Hide
import Derived.BigQuiet
import Derived.Deep.QuietTactic
import Derived.Deep.LoopGhost
import Derived.Deep.Light
import Derived.Deep.RegionHeld3
import Derived.Deep.DeepCutAuto
import Derived.Deep.CutBlock
import Derived.Deep.RegionLaw
import Derived.Deep.DrawnRows
import Derived.IntWalk
import Derived.Test.YtkmnbodlciepaaaGreatRows
import Derived.Tactics
import Derived.Tactics2
import Derived.Defers
import Derived.Laws.Pointers
import Derived.Laws.LoneSync
import Derived.RegionTactic
import Derived.RegionCalls
import Derived.ChangeAlike
import Derived.Laws.NewBlocks
import Derived.Test.YtkmnbodlciepaaaGreatPk45
import Derived.Test.YtkmnbodlciepaaaGreatPk17
import Derived.Test.YtkmnbodlciepaaaGreatPk2
import Derived.Test.YtkmnbodlciepaaaGreatPk37
namespace Go.Proofs.YtkmnbodlciepaaaGreat
open Go.RowKit Go.Shelf
attribute [local go_sem ↓] Go.wp_at_zero Go.wp_at_succ
theorem info_nd:(Tryz.prog.info? 208).map (fun i=>(i.zero,i.size,i.bytes))=some (some (.agg #[.int .u8 0,.int .i64 0,.int .i64 0,.int .i64 0,.int .i64 0,.int .i64 0,.int .i64 0]),7,56):=by kernel_rfl
end Go.Proofs.YtkmnbodlciepaaaGreat
namespace Go.Proofs.YtkmnbodlciepaaaGreat
open Go.RowKit Go.Shelf
attribute [local go_sem ↓] Go.wp_at_zero Go.wp_at_succ
def ndG (f t at_:Nat):Nd:=if f+1<t then ⟨2,((at_ - 2*(t - mid f t):Nat):Int),((at_ - 1:Nat):Int),f,t,0,0⟩ else ⟨1,-1,-1,f,t,0,f⟩
def nodesL (f t o:Nat):List Nd:=postL (fun f t _ _ at_=>ndG f t at_) f t 0 0 o
theorem postL_par {α:Type} (g:Nat→Nat→Nat→α):∀(d f t pf pt pf' pt' o:Nat),t - f≤d→f<t→postL (fun f t _ _ a=>g f t a) f t pf pt o=postL (fun f t _ _ a=>g f t a) f t pf' pt' o:=by
 intro d f t pf pt pf' pt' o hd hf
 by_cases h:f+1<t
 ·rw [postL_node _ pf pt o h,postL_node _ pf' pt' o h]
 ·rw [postL_leaf _ pf pt o h,postL_leaf _ pf' pt' o h]
theorem nodesL_node {f t:Nat} (o:Nat) (h:f+1<t):nodesL f t o=nodesL f (mid f t) o++(nodesL (mid f t) t (o+2*(mid f t - f) - 1)++[⟨2,((o+2*(mid f t - f) - 2:Nat):Int),((o+2*(mid f t - f) - 1+2*(t - mid f t) - 2:Nat):Int),f,t,0,0⟩]):=by
 have hm:=mid_in h
 unfold nodesL
 rw [postL_node _ 0 0 o h,postL_par (fun f t a=>ndG f t a) (t - f) f (mid f t) f t 0 0 o (by omega) (by omega),postL_par (fun f t a=>ndG f t a) (t - f) (mid f t) t f t 0 0 _ (by omega) (by omega)]
 have e:o+2*(t - f) - 2 - 2*(t - mid f t)=o+2*(mid f t - f) - 2:=by omega
 have e':o+2*(t - f) - 2 - 1=o+2*(mid f t - f) - 1+2*(t - mid f t) - 2:=by omega
 have e2:ndG f t (o+2*(t - f) - 2)=⟨2,((o+2*(mid f t - f) - 2:Nat):Int),((o+2*(mid f t - f) - 1+2*(t - mid f t) - 2:Nat):Int),f,t,0,0⟩:=by
  unfold ndG
  rw [if_pos h,e,e']
 rw [e2]
theorem nodesL_leaf {f t:Nat} (o:Nat) (h:¬f+1<t):nodesL f t o = [⟨1,-1,-1,f,t,0,f⟩]:=by
 unfold nodesL
 rw [postL_leaf _ 0 0 o h]
 unfold ndG
 rw [if_neg h]
theorem nodesL_length {f t:Nat} (o:Nat) (h:f<t):(nodesL f t o).length=2*(t - f) - 1:=postL_length _ 0 0 o h
open Go.RowKit
end Go.Proofs.YtkmnbodlciepaaaGreat
namespace Go.Proofs.YtkmnbodlciepaaaGreat
open Go.RowKit Go.Shelf
end Go.Proofs.YtkmnbodlciepaaaGreat
namespace Go.Proofs.YtkmnbodlciepaaaGreat
open Go.RowKit Go.Shelf
attribute [local go_sem ↓] Go.wp_at_zero Go.wp_at_succ
def nodesN (n:Nat):List Nd:=if n=0 then [] else nodesL 0 n 0
end Go.Proofs.YtkmnbodlciepaaaGreat
namespace Go.Proofs.YtkmnbodlciepaaaGreat
section
variable {α:Type}
theorem get_mid (A B C:List α) (x:α) {k:Nat} (hk:k=A.length+B.length):(A++((B++[x])++C))[k]? = some x:=by
 subst hk
 rw [List.getElem?_append_right (by omega),List.getElem?_append_left (by simp),List.getElem?_append_right (by omega)]
 simp
end
attribute [local go_sem ↓] Go.wp_at_zero Go.wp_at_succ
def mf (M:List Int) (i:Nat):Int:=M[i]?.getD 0
theorem mf_get {M:List Int} {i:Nat} (h:i<M.length):M[i]? = some (mf M i):=by
 unfold mf
 rw [List.getElem?_eq_getElem h];rfl
def NodesAt (L:List Nd) (f t o:Nat):Prop:=∃Na Nb,L=Na++(nodesL f t o++Nb)∧Na.length=o
theorem NodesAt.root {L:List Nd} {f t o:Nat} (h:NodesAt L f t o) (hf:f<t):L[o+2*(t - f) - 2]? = some (ndG f t (o+2*(t - f) - 2)):=by
 obtain ⟨Na,Nb,rfl,hl⟩:=h
 unfold nodesL
 rw [postL_kids _ 0 0 o hf]
 exact get_mid _ _ _ _ (by rw [hl,kidsL_length _ o hf];omega)
theorem NodesAt.left {L:List Nd} {f t o:Nat} (h:NodesAt L f t o) (h1:f+1<t):NodesAt L f (mid f t) o:=by
 obtain ⟨Na,Nb,rfl,hl⟩:=h
 rw [nodesL_node o h1]
 exact ⟨Na,_,by simp only [List.append_assoc];rfl,hl⟩
theorem NodesAt.right {L:List Nd} {f t o:Nat} (h:NodesAt L f t o) (h1:f+1<t):NodesAt L (mid f t) t (o+2*(mid f t - f) - 1):=by
 have hm:=mid_in h1
 obtain ⟨Na,Nb,rfl,hl⟩:=h
 rw [nodesL_node o h1]
 refine ⟨Na++nodesL f (mid f t) o,_,by simp only [List.append_assoc];rfl,?_⟩
 rw [List.length_append,nodesL_length o hm.1,hl]
 omega
theorem ndG_fr (f t a:Nat):(ndG f t a).fr=f:=by unfold ndG;split<;>rfl
theorem ndG_to (f t a:Nat):(ndG f t a).to=t:=by unfold ndG;split<;>rfl
end Go.Proofs.YtkmnbodlciepaaaGreat
