/- The document's answers of chapter 8: Sorted, Stab, Drop. -/
import Derived.Test.YtkbaaonchdeneaaGreatPk24
set_option maxHeartbeats 8000000
set_option maxRecDepth 100000
namespace Go.Proofs.YtkbaaonchdeneaaGreat
open Go.RowKit
theorem rowU_atW {w:World} {base:Nat} {A:Option Addr} {n C:Nat} {L:List Nat} (h:KU.row w base (.slice A n C) L) {k:Nat} {x:Nat} (hx:L[k]? = some x):∃g,A=some ⟨g,0,none⟩∧w.cell? ⟨g,k,none⟩=some (.int .u32 (x:Int))∧∀j,w.frozen? ⟨g,j,none⟩=false:=by
 obtain ⟨g,hg,-,ec,hf⟩:=rowAt h hx
 have:=ec 0 _ rfl
 exact ⟨g,hg,by simpa [KU] using this,hf⟩
theorem KU_all_set (L:List Nat) (k x:Nat):(KU.all L).set k (.int .u32 (x:Int))=KU.all (L.set k x):=by
 have e:∀l:List Nat,KU.all l=l.map fun (x:Nat)=>(.int .u32 (x:Int):Value):=fun l=>by
  induction l with
  |nil=>rfl
  |cons a l ih=>rw [List.map_cons,←ih];rfl
 rw [e,e,List.map_set]
theorem KU_stored {w:World} {base g n C:Nat} {L:List Nat} (h:KU.row w base (.slice (some ⟨g,0,none⟩) n C) L) (hn:L.length=n) (k x:Nat):KU.row (w.setCell ⟨g,k,none⟩ (.int .u32 (x:Int))) base (.slice (some ⟨g,0,none⟩) n C) (L.set k x):=by
 unfold Kind.row at h ⊢
 rw [hn] at h
 rw [List.length_set,hn,←KU_all_set]
 exact (World.ownsRow.stored h k _).1
theorem ins_step {M:List Nat} {a:Nat} {y z:Nat} (hz:M[a]? = some z):(M.take (a+1)++y::M.drop (a+1)).set (a+1) z=M.take a++z::M.drop a:=by
 obtain ⟨h1,h2⟩:=List.getElem?_eq_some_iff.1 hz
 have hl:(M.take (a+1)).length=a+1:=by rw [List.length_take];omega
 rw [List.set_append_right _ _ (by omega),hl,Nat.sub_self,List.set_cons_zero,List.drop_eq_getElem_cons h1,h2,List.take_succ_eq_append_getElem h1,h2,List.append_assoc]
 rfl
theorem ins_at {M:List Nat} {a:Nat} {z y:Nat} (hz:M[a]? = some z):(M.take (a+1)++y::M.drop (a+1))[a]? = some z:=by
 obtain ⟨h1,h2⟩:=List.getElem?_eq_some_iff.1 hz
 rw [List.getElem?_append_left (by rw [List.length_take];omega),List.getElem?_take,if_pos (by omega)]
 exact hz
theorem ins_done {M:List Nat} (hM:M.Pairwise (·≤·)) {a x y:Nat} (ha:a≤M.length) (hlo:∀z,0<a→M[a - 1]? = some z→z≤x) (hhi:∀z∈M.drop a,x<z) :
 (M.take a++y::M.drop a).set a x=sortN (M++[x]):=by
 have hl:(M.take a).length=a:=by rw [List.length_take];omega
 rw [List.set_append_right _ _ (by omega),hl,Nat.sub_self,List.set_cons_zero]
 refine sortN_eq ?_ ?_
 ·refine List.perm_middle.trans ?_
  rw [List.take_append_drop]
  exact (List.perm_append_comm (l₁:=[x]) (l₂:=M))
 ·rw [List.pairwise_append,List.pairwise_cons]
  have hlow:∀z∈M.take a,z≤x:=by
   intro z hz
   obtain ⟨k,hk,e⟩:=List.mem_iff_getElem.1 hz
   rw [List.length_take] at hk
   rw [List.getElem_take] at e
   have h0:a - 1<M.length:=by omega
   have h1:=hlo M[a - 1] (by omega) (List.getElem?_eq_getElem h0)
   rcases Nat.lt_or_ge k (a - 1) with hc | hc
   ·have:=List.pairwise_iff_getElem.1 hM k (a - 1) (by omega) h0 hc
    omega
   ·have:k=a - 1:=by omega
    subst this;omega
  refine ⟨List.Pairwise.sublist (List.take_sublist _ _) hM,⟨fun z hz=>Nat.le_of_lt (hhi z hz),List.Pairwise.sublist (List.drop_sublist _ _) hM⟩,fun z hz u hu=>?_⟩
  have h1:=hlow z hz
  rcases List.mem_cons.1 hu with hu | hu
  ·omega
  ·have:=hhi u hu;omega
def RowPostU (w:World) (L:List Nat) (e:Ending) (w':World):Prop:=∃A C,e=.returned (.slice A L.length C)∧KU.row w' w.heap.size (.slice A L.length C) L∧Upd [] w w'
theorem refSorted (v:Value) (L:List Nat) (w:World) (h:See KU w v L) (hl:L.length<1000000) :
 Calls Tryz.prog 89 #[v] w (RowPostU w (sortN L)):=by
 obtain ⟨A,C,rfl⟩:=h.form
 obtain ⟨i3,hi3,hv0,hv1,hv2⟩:=info_parts infoU32S
 obtain ⟨N,hN⟩:∃N,L.length=N:=⟨_,rfl⟩
 have h':See KU w (.slice A N C) L:=by rw [←hN];exact h
 rw [hN] at hl ⊢
 have n0:(0:Int)≤(N:Int):=Int.natCast_nonneg _
 have H:=Lib.hid h'
 have HN:=Lib.hid hN
 clear h h' hN
 go_enter Tryz.func89,Tryz.ntmps89
 go_wp2_with fail
 go_loopg [3,4] N (fun m s3 s4 wr=>∃(i:Nat) (A2:Option Addr) (C2:Nat),m+i=N∧s3=.slice A2 i C2∧s4=.int .i64 (i:Int)∧KU.row wr w.heap.size (.slice A2 i C2) (sortN (L.take i))∧Upd [] w wr)
 case atStart=>exact ⟨0,none,0,rfl,rfl,rfl,by rw [List.take_zero,show sortN [] = [] by simp [sortN]];exact World.ownsRow_nil _ _ _ _,Upd.refl _ _⟩
 case round=>
  obtain ⟨i,A2,C2,hi,rfl,rfl,hrow,hup⟩:=hrel
  have i0:(0:Int)≤(i:Int):=Int.natCast_nonneg _
  have hiN:i≤N:=by omega
  have hwz:=hup.size
  have hMl:(sortN (L.take i)).length=i:=by rw [sortN_len,List.length_take,HN.out];omega
  have hMs:=sortN_le (L.take i)
  by_cases hlt:i<N
  ·obtain ⟨x,hx⟩:∃x,L[i]? = some x:=⟨_,List.getElem?_eq_getElem (by rw [HN.out];exact hlt)⟩
   obtain ⟨g,o,rfl,-,-,ex⟩:=KU.atS (H.out.upd0 hup) hx
   have hnext:sortN (L.take (i+1))=sortN (sortN (L.take i)++[x]):=by
    obtain ⟨g1,g2⟩:=List.getElem?_eq_some_iff.1 hx
    rw [List.take_succ_eq_append_getElem g1,g2]
    exact sortN_congr (List.Perm.append_right [x] (sortN_perm _).symm)
   generalize sortN (L.take i)=M at hrow hMl hMs hnext
   have hrow2:=hrow
   unfold Kind.row at hrow2
   rw [hMl] at hrow2
   have b1:(i:Int)<(N:Int):=by omega
   have HI:=Lib.hid (And.intro hi (And.intro hup (And.intro hrow2 (And.intro hMl (And.intro hMs (And.intro hnext hx))))))
   clear hi hup hrow hrow2 hMl hMs hnext hx
   go_wp2_with (at_builtin;refine wpList_app _ rfl _ _ 35 rfl w.heap.size 26 i3 (.int .u32 0) 1 4 Tryz.underlying35 hi3 hv0 hv1 hv2 rfl (by decide) _ i (KU.all M) rfl (own_upd HI.out.2.2.1 ((Upd.refl [] _).alloc _) (by simp)) _ 1 [.int .u32 (x:Int)] rfl (sees_lit wr #[.int .u32 (x:Int)] 26 1 1 rfl (by decide)) (by simp [Value.oneCell']) (by unfold maxLen;omega) (by omega) (by simp;omega) ?_)
   intro A3 C3 W3 HP3
   have hrow3:KU.row W3 w.heap.size (.slice A3 (i+1) C3) (M++[x]):=by
    unfold Kind.row
    rw [List.length_append,HI.out.2.2.2.1,KU.all_app]
    exact HP3.own
   have hu3:Upd [] w W3:=(HI.out.2.1.alloc _).trans' HP3.upd (fun y hy=>.inr (own_ge HI.out.2.2.1 y hy))
   obtain ⟨g3,rfl,-,-⟩:=rowU_atW hrow3 (k:=i) (x:=x) (by rw [List.getElem?_append_right (by rw [HI.out.2.2.2.1];exact Nat.le_refl _),HI.out.2.2.2.1,Nat.sub_self];rfl)
   have hg3:w.heap.size≤g3:=own_ge hrow3 g3 (by simp [blk])
   have H3:=Lib.hid (And.intro hrow3 hu3)
   clear hrow3 hu3 HP3 ex
   go_wp2_with fail
   go_loopg [5] i (fun m s5 wr=>∃a y:Nat,m=a∧a≤i∧s5=.int .i64 (a:Int)∧KU.row wr w.heap.size (.slice (some ⟨g3,0,none⟩) (i+1) C3) (M.take a++y::M.drop a)∧(∀z∈M.drop a,x<z)∧Upd [] w wr)
   case atStart=>exact ⟨i,x,rfl,Nat.le_refl _,rfl,by rw [List.take_of_length_le (by rw [HI.out.2.2.2.1];exact Nat.le_refl _),List.drop_of_length_le (by rw [HI.out.2.2.2.1];exact Nat.le_refl _)];exact H3.out.1,by rw [List.drop_of_length_le (by rw [HI.out.2.2.2.1];exact Nat.le_refl _)];simp,H3.out.2⟩
   case round=>
    obtain ⟨a,y,hm,hai,rfl,hrw,hhi,hup⟩:=hrel
    have a0:(0:Int)≤(a:Int):=Int.natCast_nonneg _
    have a1:(a:Int)<(i:Int)+1:=by omega
    have hrl:(M.take a++y::M.drop a).length=i+1:=by
     rw [List.length_append,List.length_take,List.length_cons,List.length_drop,HI.out.2.2.2.1]
     omega
    obtain ⟨g',hg',ca,fa⟩:=rowU_atW hrw (k:=a) (x:=y) (by rw [List.getElem?_append_right (by rw [List.length_take];omega),List.length_take,HI.out.2.2.2.1,Nat.min_eq_left hai,Nat.sub_self];rfl)
    injection hg' with hg'
    injection hg' with hg' _ _
    subst hg'
    have fa1:=fa a
    obtain ⟨g'',o'',hg'',-,-,ex⟩:=KU.atS (H.out.upd0 hup) HI.out.2.2.2.2.2.2
    injection hg'' with hg''
    injection hg'' with hg'' ho'' _
    subst hg'' ho''
    clear fa
    by_cases hap:0<a
    ·have hgt:decide (0<a)=true:=decide_eq_true hap
     obtain ⟨p,hp⟩:∃p,a=p+1:=⟨a - 1,by omega⟩
     have hpa:(a:Int) - 1=(p:Int):=by omega
     obtain ⟨z,hz⟩:∃z,M[p]? = some z:=⟨_,List.getElem?_eq_getElem (by rw [HI.out.2.2.2.1];omega)⟩
     obtain ⟨g4,hg4,cp,-⟩:=rowU_atW hrw (k:=p) (x:=z) (by rw [hp];exact ins_at hz)
     injection hg4 with hg4
     injection hg4 with hg4 _ _
     subst hg4
     have p0:(0:Int)≤(p:Int):=Int.natCast_nonneg _
     have p1:(p:Int)<(i:Int)+1:=by omega
     by_cases hxz:x<z
     ·have hg:decide (x<z)=true:=decide_eq_true hxz
      have HZ:=Lib.hid (And.intro hrw (And.intro hrl (And.intro hhi (And.intro hup (And.intro hp (And.intro hz (And.intro hxz hm)))))))
      clear hrw hrl hhi hup hp hz hxz hm hap
      go_wp2_with fail
      go_quiet (fail)
      go_wp2_with fail
      go_roundg p
      case measure=>have h1:=HZ.out.2.2.2.2.1;have h2:=HZ.out.2.2.2.2.2.2.2;omega
      case rel=>
       have hst:=KU_stored (own_upd HZ.out.1 ((Upd.refl [] wr).drewN nq) (by simp)) HZ.out.2.1 a z
       have e:=ins_step (y:=y) HZ.out.2.2.2.2.2.1
       rw [←HZ.out.2.2.2.2.1] at e
       rw [e] at hst
       refine ⟨p,z,rfl,by have:=HZ.out.2.2.2.2.1;omega,by go_num,hst,?_,(HZ.out.2.2.2.1.drewN nq).setCell (p:=⟨g3,a,none⟩) (.inr hg3) _⟩
       obtain ⟨h1,h2⟩:=List.getElem?_eq_some_iff.1 HZ.out.2.2.2.2.2.1
       rw [List.drop_eq_getElem_cons h1,h2,←HZ.out.2.2.2.2.1]
       intro u hu
       rcases List.mem_cons.1 hu with rfl | hu
       ·exact HZ.out.2.2.2.2.2.2.1
       ·exact HZ.out.2.2.1 u hu
     ·have hg:decide (x<z)=false:=decide_eq_false hxz
      have hlo:∀u,0<a→M[a - 1]? = some u→u≤x:=fun u _ hu=>by
       rw [hp,Nat.add_sub_cancel,hz] at hu
       injection hu with hu
       omega
      have HZ:=Lib.hid (And.intro hrw (And.intro hrl (And.intro hhi (And.intro hup hlo))))
      clear hrw hrl hhi hup hp hz hxz hm hap hlo
      go_wp2_with fail
      go_quiet (fail)
      go_wp2_with fail
      go_roundg (N - (i+1))
      case measure=>have:=HI.out.1;omega
      case rel=>
       have hst:=KU_stored (own_upd HZ.out.1 ((Upd.refl [] wr).drewN nq) (by simp)) HZ.out.2.1 a x
       rw [ins_done (y:=y) HI.out.2.2.2.2.1 (by rw [HI.out.2.2.2.1];exact hai) HZ.out.2.2.2.2 HZ.out.2.2.1] at hst
       exact ⟨i+1,_,_,by have:=HI.out.1;omega,rfl,by go_num,by rw [HI.out.2.2.2.2.2.1];exact hst,(HZ.out.2.2.2.1.drewN nq).setCell (p:=⟨g3,a,none⟩) (.inr hg3) _⟩
    ·have ha0:a=0:=by omega
     have hgt:decide (0<a)=false:=decide_eq_false hap
     have hlo:∀z,0<a→M[a - 1]? = some z→z≤x:=fun z h0=>by omega
     have HZ:=Lib.hid (And.intro hrw (And.intro hrl (And.intro hhi (And.intro hup hlo))))
     clear hrw hrl hhi hup hm hap hlo ha0
     go_wp2_with fail
     go_quiet (fail)
     go_wp2_with fail
     go_roundg (N - (i+1))
     case measure=>have:=HI.out.1;omega
     case rel=>
      have hst:=KU_stored (own_upd HZ.out.1 ((Upd.refl [] wr).drewN nq) (by simp)) HZ.out.2.1 a x
      rw [ins_done (y:=y) HI.out.2.2.2.2.1 (by rw [HI.out.2.2.2.1];exact hai) HZ.out.2.2.2.2 HZ.out.2.2.1] at hst
      exact ⟨i+1,_,_,by have:=HI.out.1;omega,rfl,by go_num,by rw [HI.out.2.2.2.2.2.1];exact hst,(HZ.out.2.2.2.1.drewN nq).setCell (p:=⟨g3,a,none⟩) (.inr hg3) _⟩
  ·have hfin:L.take i=L:=by rw [List.take_of_length_le];rw [HN.out];omega
   rw [hfin] at hrow hMl
   have HF:=Lib.hid (And.intro hrow (And.intro hup hMl))
   clear hrow hup hMl hMs hfin hi
   go_wp2_with fail
   go_ret
   exact ⟨A2,C2,by rw [HF.out.2.2];rfl,by rw [HF.out.2.2];exact HF.out.1,HF.out.2.1⟩
end Go.Proofs.YtkbaaonchdeneaaGreat
