/- rank.Squeeze: what came, in order, each once. -/
import Derived.Lib.OwnBridge
import Derived.Sort.OwnSortedInts
import Derived.Test.YtkbaaonchdeneaaGreatPk6
import Derived.Test.YtkbaaonchdeneaaGreatPk7
set_option maxHeartbeats 2000000
set_option maxRecDepth 100000
namespace Go.Proofs.YtkbaaonchdeneaaGreat
open Go.RowKit
def sqz (l:List Int):List Int:=Lib.compact (l.mergeSort fun x y=>decide (x≤y))
theorem sort_le (l:List Int):(l.mergeSort fun x y=>decide (x≤y)).Pairwise (·≤·):=by
 have:=List.pairwise_mergeSort (le:=fun (x y:Int)=>decide (x≤y)) (by intro a b c h1 h2;simp at *;omega) (by intro a b;simp;omega) l
 exact this.imp (by intro a b h;simpa using h)
theorem sort_mem (l:List Int) (x:Int):x∈(l.mergeSort fun x y=>decide (x≤y))↔x∈l:=(List.mergeSort_perm l _).mem_iff
theorem sqz_mem {l:List Int} {x:Int} (h:x∈sqz l):x∈l:=by
 unfold sqz Lib.compact Lib.compactUpTo at h
 simp only [List.mem_map,List.mem_filter,List.mem_range] at h
 obtain ⟨j,⟨hj,_⟩,rfl⟩:=h
 rw [←sort_mem,List.getElem!_toArray,getElem!_pos _ j hj]
 exact List.getElem_mem hj
theorem mem_sqz {l:List Int} {x:Int} (h:x∈l):x∈sqz l:=by
 rw [←sort_mem] at h
 unfold sqz Lib.compact Lib.compactUpTo
 obtain ⟨s,hss⟩:∃s,(l.mergeSort fun x y=>decide (x≤y))=s:=⟨_,rfl⟩
 rw [hss] at h ⊢
 obtain ⟨j0,hj0,hx0⟩:=List.getElem_of_mem h
 have key:∀j,j<s.length→s[j]! = x→∃i,i<s.length∧s[i]! = x∧Lib.keeps s.toArray i=true:=by
  intro j
  induction j with
  |zero=>intro h1 h2;exact ⟨0,h1,h2,Lib.keeps_lt_one _ 0 (by omega)⟩
  |succ j ih=>
   intro h1 h2
   by_cases he:s[j]! = x
   ·exact ih (by omega) he
   ·exact ⟨j+1,h1,h2,Lib.keeps_pos (by simp only [List.getElem!_toArray,Nat.add_sub_cancel];rw [h2];exact fun e=>he e.symm)⟩
 obtain ⟨i,h1,h2,h3⟩:=key j0 hj0 (by rw [getElem!_pos _ j0 hj0];exact hx0)
 rw [List.mem_map]
 exact ⟨i,by rw [List.mem_filter,List.mem_range];exact ⟨h1,h3⟩,by rw [List.getElem!_toArray];exact h2⟩
theorem sqz_rise (l:List Int):(sqz l).Pairwise (· < ·):=by
 have hs:=sort_le l
 unfold sqz Lib.compact Lib.compactUpTo
 obtain ⟨s,hss⟩:∃s,(l.mergeSort fun x y=>decide (x≤y))=s:=⟨_,rfl⟩
 rw [hss] at hs ⊢
 rw [List.pairwise_map]
 refine ((List.pairwise_lt_range (n:=s.length)).filter _).imp_of_mem ?_
 intro a b ha hb hab
 simp only [List.mem_filter,List.mem_range] at ha hb
 obtain ⟨ha1,_⟩:=ha
 obtain ⟨hb1,hb2⟩:=hb
 unfold Lib.keeps at hb2
 simp only [List.getElem!_toArray] at hb2 ⊢
 have hle:∀i j,i<j→j<s.length→s[i]!≤s[j]!:=by
  intro i j hij hj
  have:=List.pairwise_iff_getElem.1 hs i j (by omega) hj hij
  rw [getElem!_pos s i (by omega),getElem!_pos s j hj]
  exact this
 have hne:s[b]!≠s[b - 1]!:=by
  intro e
  simp [e] at hb2
  omega
 rcases Nat.lt_or_ge a (b - 1) with h1 | h1
 ·have h2:=hle a (b - 1) h1 (by omega)
  have h3:=hle (b - 1) b (by omega) hb1
  omega
 ·have:a=b - 1:=by omega
  rw [this]
  have h3:=hle (b - 1) b (by omega) hb1
  omega
theorem sqz_len (l:List Int):(sqz l).length≤l.length:=by
 have h:=Lib.compact_length_le (l.mergeSort fun x y=>decide (x≤y))
 rw [List.length_mergeSort] at h
 exact h
theorem sqz_nil:sqz [] = []:=by
 have:=sqz_len []
 exact List.length_eq_zero_iff.1 (by simpa using this)
def SqzPost (w:World) (l:List Int) (e:Ending) (w':World):Prop:=
 ∃A C,e=.returned (.slice A (sqz l).length C)∧KL.row w' w.heap.size (.slice A (sqz l).length C) (sqz l)∧Upd [] w w'
theorem squeezeC (v:Value) (l:List Int) (w:World) (hs:See KL w v l) (hl:l.length*8≤140737488355328) :
 Calls Tryz.prog 150 #[v] w (SqzPost w l):=by
 obtain ⟨Av,Cv,rfl⟩:=hs.form
 have hcl:=clone_int64 _ l.length (KL.all l) w hs (KL.all_one l) (by omega)
 have HCL:=Lib.hid hcl
 have HL:=Lib.hid hl
 clear hcl hs hl
 go_enter Tryz.func150,Tryz.ntmps150
 go_wp2_with fail
 (with_reducible refine HCL.out.mono ?_)
 rintro e w1 ⟨A,C,rfl,hown,hbel⟩
 rw [KL_all] at hown
 rcases Nat.eq_zero_or_pos l.length with h0 | h0
 ·have hl0:l = []:=List.length_eq_zero_iff.1 h0
  subst hl0
  simp only [List.length_nil] at hown ⊢
  have HO:=Lib.hid hown
  have HB:=Lib.hid hbel
  clear hown hbel h0
  go_wp2_with fail
  refine (Tryz.slices_Sort_none A C w1).mono ?_
  rintro e w' ⟨rfl,rfl⟩
  go_wp2_with fail
  refine (Tryz.slices_Compact_int_empty A C w').mono ?_
  rintro e w'' ⟨rfl,rfl⟩
  go_wp2_with fail
  go_ret
  refine ⟨A,C,?_,?_,Upd.of_below HB.out⟩
  ·rw [sqz_nil];rfl
  ·rw [sqz_nil];exact HO.out
 ·have hne:(.slice A l.length C:Value)≠.slice none 0 0:=by
   intro e;injection e with _ e2;omega
  obtain ⟨g,cap,hv,hg,hgw,hn,hm,-,hH⟩:=Lib.holds_of_ownsRow hown hne
  injection hv with hv1 _ hv3
  subst hv1;subst hv3
  have hso:=Tryz.slices_Sort g 0 C l w1 hH hgw (by have:=HL.out;omega)
  have hbk:∃cur,w1.heap[g]? = some (.cells cur 2 (0,0))∧cur.size=C*1:=by
   rcases hown.2 with ⟨e0,_⟩ | ⟨g',cap',cur,e0,hb,hgg,hnn,hmm,hsz,ht⟩
   ·exact absurd e0 hne
   ·injection e0 with e1 _ e3
    injection e1 with e1
    injection e1 with e1
    subst e1;subst e3
    exact ⟨cur,hgg,hsz⟩
  obtain ⟨cur,hcur,hcs⟩:=hbk
  have hlen:(l.mergeSort fun x y=>decide (x≤y)).length=l.length:=List.length_mergeSort _
  have HSO:=Lib.hid hso
  have HF:=Lib.hid (And.intro hcur (And.intro hcs (And.intro hg (And.intro hn (And.intro hm (And.intro hgw hlen))))))
  have HB:=Lib.hid hbel
  clear hso hcur hcs hH hown hbel hg hn hm hgw hlen hne
  go_wp2_with fail
  (with_reducible refine HSO.out.mono ?_)
  rintro e w2 ⟨rfl,nd,os,rfl⟩
  obtain ⟨h1,h2,h3,h4,h5,h6,h7⟩:=HF.out
  have hown2:=ownsRow_sortedI (os:=os) (n:=nd) h7 h3 h1 h4 h5 h2
  have hgr:=grownBy_sortedI (w:=w1) (g:=g) (n:=nd) (os:=os) (l.mergeSort fun x y=>decide (x≤y)).toArray
  have hb2:=HB.out.grown hgr (HB.out.size) (by intro k hk;cases hk;exact h3)
  obtain ⟨w2,hw2⟩:∃w2,Sort.grow (Sort.putRow (Value.int .i64) (Sort.ahead w1 nd) g 0 (l.mergeSort fun x y=>decide (x≤y)).toArray) os=w2:=⟨_,rfl⟩
  rw [hw2] at hown2 hb2 ⊢
  obtain ⟨s,hs⟩:∃s,(l.mergeSort fun x y=>decide (x≤y))=s:=⟨_,rfl⟩
  rw [hs] at hown2 h7
  rw [←h7] at hown2
  have hne:(.slice (some ⟨g,0,none⟩) s.length C:Value)≠.slice none 0 0:=by intro e;injection e with e1;cases e1
  obtain ⟨g',cap',hv,-,-,-,-,-,hH⟩:=Lib.holds_of_ownsRow hown2 hne
  injection hv with hv1 _ hv3
  injection hv1 with hv1
  injection hv1 with hv1
  subst hv1;subst hv3
  have hco:=Tryz.slices_Compact_int g 0 C s w2 hH (by have:=HL.out;omega) (by omega)
  rw [h7] at hco
  have hk:(Lib.compact s).length≤s.length:=Lib.compact_length_le s
  have HCO:=Lib.hid hco
  have HO2:=Lib.hid hown2
  have HB2:=Lib.hid hb2
  have HS:=Lib.hid hs
  have H7:=Lib.hid (And.intro h7 (And.intro hk h3))
  clear hco hown2 hb2 hs h1 h2 h3 h4 h5 h6 h7 hgr hw2 hH hne hk
  go_wp2_with fail
  (with_reducible refine HCO.out.mono ?_)
  rintro e w3 ⟨rfl,q,rfl⟩
  have hrow:=Lib.ownsRow_putRow (q:=q) (ys:=Lib.compact s++List.replicate (l.length - (Lib.compact s).length) 0) HO2.out (by have:=H7.out;simp;omega) H7.out.2.1
  rw [List.take_left] at hrow
  have hb3:=Lib.below_putRow (enc:=Value.int .i64) (q:=q) (d:=(Lib.compact s++List.replicate (l.length - (Lib.compact s).length) 0).toArray) HB2.out H7.out.2.2
  have HROW:=Lib.hid hrow
  have HB3:=Lib.hid hb3
  clear hrow hb3
  go_wp2_with fail
  go_ret
  have e0:sqz l=Lib.compact s:=by unfold sqz;rw [HS.out]
  refine ⟨some ⟨g,0,none⟩,C,?_,?_,Upd.of_below HB3.out⟩
  ·rw [e0];rfl
  ·rw [e0]
   unfold Kind.row
   rw [KL_all]
   exact HROW.out
end Go.Proofs.YtkbaaonchdeneaaGreat
