/- Chapter 25: the boxes of some names, plainly. -/
import Derived.Test.YtkbaaonchdeneaaGreatPbBoxesCoverP5
namespace Go.Proofs.YtkbaaonchdeneaaGreat.GN
open Go.RowKit
def Vg (L acc:List Bx) (x:Nat):List Bx:=match GL L x with
 |none=>acc
 |some b=>if acc.any (fun u=>u.id==x) then acc else acc++[b]
def Ku (L:List Bx) (xs:List Nat):List Bx:=xs.foldl (Vg L) []
theorem gW (L:List Bx) (xs:List Nat) (x:Nat):Ku L (xs++[x])=Vg L (Ku L xs) x:=by
 unfold Ku;rw [List.foldl_append];rfl
theorem sQ {L acc:List Bx} {x:Nat} (h:GL L x=none):Vg L acc x=acc:=by unfold Vg;rw [h]
theorem a1J {L acc:List Bx} {x:Nat} {b:Bx} (h:GL L x=some b) (ha:acc.any (fun u=>u.id==x)=true):Vg L acc x=acc:=by
 unfold Vg;rw [h];exact if_pos ha
theorem a0b {L acc:List Bx} {x:Nat} {b:Bx} (h:GL L x=some b) (ha:¬acc.any (fun u=>u.id==x)=true):Vg L acc x=acc++[b]:=by
 unfold Vg;rw [h];exact if_neg ha
theorem sU {L:List Bx} {x:Nat} {b:Bx} (h:GL L x=some b):b∈L∧b.id=x:=by
 unfold GL at h;exact ⟨List.mem_of_find?_eq_some h,by simpa using List.find?_some h⟩
theorem Zj (L:List Bx):∀xs:List Nat,((Ku L xs).map Bx.id).Nodup∧(∀b∈Ku L xs,b∈L)∧(∀x∈xs,∀b,GL L x=some b→b∈Ku L xs)∧(Ku L xs).length≤xs.length:=by
 have key:∀r:List Nat,((Ku L r.reverse).map Bx.id).Nodup∧(∀b∈Ku L r.reverse,b∈L∧GL L b.id=some b)∧(∀x∈r.reverse,∀b,GL L x=some b→b∈Ku L r.reverse)∧(Ku L r.reverse).length≤r.reverse.length:=by
  intro r;induction r with
  |nil=>exact ⟨List.nodup_nil,by simp [Ku],by simp,Nat.le_refl _⟩
  |cons x r ih=>
   obtain ⟨h1,h2,h3,h4⟩:=ih;rw [List.reverse_cons,gW]
   cases hg:GL L x with
   |none=>
    rw [sQ hg];refine ⟨h1,h2,fun y hy b hb=>?_,by rw [AY];omega⟩
    rcases List.mem_append.1 hy with g | g
    ·exact h3 y g b hb
    ·simp at g;subst g;rw [hg] at hb;cases hb
   |some b=>
    obtain ⟨m1,m2⟩:=sU hg;by_cases ha:(Ku L r.reverse).any (fun u=>u.id==x)=true
    ·rw [a1J hg ha];refine ⟨h1,h2,fun y hy c hc=>?_,by rw [AY];omega⟩
     rcases List.mem_append.1 hy with g | g
     ·exact h3 y g c hc
     ·simp at g;subst g;rw [hg] at hc
      cases hc
      rw [List.any_eq_true] at ha;obtain ⟨u,hu,eu⟩:=ha;have eu':u.id=y:=by simpa using eu
      have:=(h2 u hu).2;rw [eu',hg] at this
      cases this
      exact hu
    ·rw [a0b hg ha];refine ⟨?_,fun c hc=>?_,fun y hy c hc=>?_,by rw [AY,AY];simpa using h4⟩
     ·rw [List.map_append,List.nodup_append];refine ⟨h1,by simp,fun a hA c hc=>?_⟩
      simp at hc;subst hc;intro e;obtain ⟨u,hu,eu⟩:=List.mem_map.1 hA;exact ha (List.any_eq_true.2 ⟨u,hu,by simp [eu,e,m2]⟩)
     ·rcases List.mem_append.1 hc with g | g
      ·exact h2 c g
      ·simp at g;subst g;exact ⟨m1,by rw [m2];exact hg⟩
     ·rcases List.mem_append.1 hy with g | g
      ·exact List.mem_append_left _ (h3 y g c hc)
      ·simp at g;subst g;rw [hg] at hc;cases hc;exact List.mem_append_right _ (by simp)
 intro xs;have:=key xs.reverse;rw [List.reverse_reverse] at this;exact ⟨this.1,fun b hb=>(this.2.1 b hb).1,this.2.2⟩
theorem a0c {L:List Bx} {xs:List Nat} (hn:(L.map Bx.id).Nodup) (h:∀b∈L,b.id∈xs):(Ku L xs).Perm L:=by
 obtain ⟨h1,h2,h3,-⟩:=Zj L xs;refine (List.perm_ext_iff_of_nodup (EI.J6 h1) (EI.J6 hn)).2 fun b=>⟨h2 b,fun hb=>h3 b.id (h b hb) b ?_⟩
 unfold GL
 cases hf:L.find? fun y=>y.id==b.id with
 |none=>
  rw [List.find?_eq_none] at hf;have:=hf b hb;simp at this
 |some t=>
  have h4:=List.mem_of_find?_eq_some hf;have h5:=List.find?_some hf;simp at h5;rw [Ps.P7 hn hb h4 h5.symm]
theorem a0d {L:List Bx} {xs:List Nat} {k x:Nat} (h:xs[k]? = some x):Ku L (xs.take (k+1))=Vg L (Ku L (xs.take k)) x:=by
 obtain ⟨g1,g2⟩:=AV h;rw [AZ g1,g2,gW]
theorem a1K {L:List Bx} {xs:List Nat} (o:Qp) (h:∀b∈L,b.id∈xs):∀b∈gV L o,b.id∈xs++[o.s.id]:=by
 intro b hb;unfold gV at hb;split at hb
 ·unfold O7 at hb;split at hb
  ·rcases List.mem_append.1 hb with g | g
   ·exact List.mem_append_left _ (h b g)
   ·simp at g;subst g;simp
  ·exact List.mem_append_left _ (h b hb)
 ·unfold J4 at hb;exact List.mem_append_left _ (h b (List.mem_filter.1 hb).1)
