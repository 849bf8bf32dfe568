/- The document's Find and Without, of spans. -/
import Derived.IntWalk
import Derived.Test.YtkbaaonchdeneaaGreatPk24
import Derived.Test.YtkbaaonchdeneaaGreatPkSpansTellP5
set_option maxHeartbeats 8000000
set_option maxRecDepth 100000
namespace Go.Proofs.YtkbaaonchdeneaaGreat
open Go.RowKit
def findN (l:List Sp) (x:Nat):Option Nat:=l.findIdx? fun s=>s.id==x
def atV:Option Nat→Int
 |some i=>i
 |none=>-1
theorem findN_some {l:List Sp} {x k:Nat} (h:∀j,j<k→∀u,l[j]? = some u→u.id≠x) {s:Sp} (hs:l[k]? = some s) (e:s.id=x):findN l x=some k:=by
 obtain ⟨g1,g2⟩:=List.getElem?_eq_some_iff.1 hs
 unfold findN
 rw [List.findIdx?_eq_some_iff_getElem]
 refine ⟨g1,by rw [g2];simpa using e,fun j hj=>?_⟩
 have:=h j hj _ (List.getElem?_eq_getElem (by omega))
 simpa using this
theorem findN_none {l:List Sp} {x:Nat} (h:∀j,j<l.length→∀u,l[j]? = some u→u.id≠x):findN l x=none:=by
 unfold findN
 rw [List.findIdx?_eq_none_iff]
 intro u hu
 obtain ⟨j,hj⟩:=List.mem_iff_getElem?.1 hu
 have:=h j (List.getElem?_eq_some_iff.1 hj).1 u hj
 simpa using this
theorem refFind (v:Value) (l:List Sp) (x:Nat) (w:World) (h:See KSp w v l) (hl:l.length<1000000) :
 Calls Tryz.prog 37 #[v,.int .u32 (x:Int)] w fun e w'=>e=.returned (.int .i64 (atV (findN l x)))∧Upd [] w w':=by
 obtain ⟨A,C,rfl⟩:=h.form
 obtain ⟨N,hN⟩:∃N,l.length=N:=⟨_,rfl⟩
 rw [hN] at h hl ⊢
 have n0:(0:Int)≤(N:Int):=Int.natCast_nonneg _
 have H:=Lib.hid h
 have HN:=Lib.hid hN
 clear h hN
 go_enter Tryz.func37,Tryz.ntmps37
 go_wp2_with fail
 go_loopg [5] N (fun m s5 wr=>∃i:Nat,m+i=N∧s5=.int .i64 (i:Int)∧(∀j,j<i→∀u,l[j]? = some u→u.id≠x)∧wr=w)
 case atStart=>exact ⟨0,rfl,rfl,fun j hj=>absurd hj (Nat.not_lt_zero j),rfl⟩
 case round=>
  obtain ⟨i,hi,rfl,hno,rfl⟩:=hrel
  have i0:(0:Int)≤(i:Int):=Int.natCast_nonneg _
  have hiN:i≤N:=by omega
  have HI:=Lib.hid (And.intro hi hno)
  clear hi hno
  by_cases hlt:i<N
  ·obtain ⟨s,hs⟩:∃s,l[i]? = some s:=⟨_,List.getElem?_eq_getElem (by rw [HN.out];exact hlt)⟩
   obtain ⟨g,o,hA,-,-,ey⟩:=H.out.at hs
   cases hA
   have y2:wr.cell? ⟨g,o+i*3+2,none⟩=some (.int .u32 (s.id:Int)):=ey 2 _ rfl
   have b1:(i:Int)<(N:Int):=by omega
   have HS:=Lib.hid hs
   clear hs ey
   by_cases c:s.id=x
   ·have e:findN l x=some i:=findN_some HI.out.2 HS.out c
    have E:=Lib.hid e
    have q:((s.id:Int)==(x:Int))=true:=by simp [c]
    clear e c
    go_wp2_with fail
    go_ret
    exact ⟨by rw [E.out];rfl,Upd.refl _ _⟩
   ·have q:((s.id:Int)==(x:Int))=false:=by simp;omega
    have CC:=Lib.hid c
    clear c
    go_wp2_with fail
    go_roundg (N - (i+1))
    case measure=>have:=HI.out.1;omega
    case rel=>
     refine ⟨i+1,by have:=HI.out.1;omega,by go_num,fun j hj u hu=>?_,rfl⟩
     by_cases e:j=i
     ·subst e
      rw [HS.out] at hu
      cases hu
      exact CC.out
     ·exact HI.out.2 j (by omega) u hu
  ·have e:findN l x=none:=findN_none fun j hj u hu=>HI.out.2 j (by rw [HN.out] at hj;omega) u hu
   have E:=Lib.hid e
   clear e
   go_wp2_with fail
   go_ret
   exact ⟨by rw [E.out];rfl,Upd.refl _ _⟩
def WoPost (w:World) (l:List Sp) (i:Nat) (e:Ending) (w':World):Prop:=
 ∃A C,e=.returned (.slice A (l.eraseIdx i).length C)∧KSp.row w' w.heap.size (.slice A (l.eraseIdx i).length C) (l.eraseIdx i)∧Upd [] w w'
theorem erase_step {l:List Sp} {i k:Nat} {s:Sp} (hs:l[k]? = some s):(l.take (k+1)).eraseIdx i=(l.take k).eraseIdx i++(if k=i then [] else [s]):=by
 obtain ⟨g1,g2⟩:=List.getElem?_eq_some_iff.1 hs
 rw [List.take_succ_eq_append_getElem g1,g2]
 by_cases e:k=i
 ·subst e
  rw [if_pos rfl,List.append_nil]
  have h1:(l.take k).length=k:=by rw [List.length_take];omega
  rw [List.eraseIdx_append_of_length_le (Nat.le_of_eq h1),h1,Nat.sub_self,List.eraseIdx_of_length_le (Nat.le_of_eq h1)]
  simp
 ·rw [if_neg e]
  rcases Nat.lt_or_ge i k with h | h
  ·rw [List.eraseIdx_append_of_lt_length (by rw [List.length_take];omega)]
  ·rw [List.eraseIdx_of_length_le (by rw [List.length_append,List.length_take];simp;omega),List.eraseIdx_of_length_le (by rw [List.length_take];omega)]
theorem refWithout (v:Value) (l:List Sp) (x:Nat) (w:World) (h:See KSp w v l) (hl:l.length<1000000) :
 Calls Tryz.prog 38 #[v,.int .i64 (x:Int)] w (WoPost w l x):=by
 obtain ⟨A,C,rfl⟩:=h.form
 obtain ⟨i1,hi1,hy0,hy1,hy2⟩:=info_parts infoSpanD
 obtain ⟨N,hN⟩:∃N,l.length=N:=⟨_,rfl⟩
 rw [hN] at h hl ⊢
 have n0:(0:Int)≤(N:Int):=Int.natCast_nonneg _
 have H:=Lib.hid h
 have HN:=Lib.hid hN
 clear h hN
 go_enter Tryz.func38,Tryz.ntmps38
 go_wp2_with fail
 go_loopg [5,6] N (fun m s5 s6 wr=>∃(i:Nat) (vo:Value),m+i=N∧s5=vo∧s6=.int .i64 (i:Int)∧KSp.row wr w.heap.size vo ((l.take i).eraseIdx x)∧Upd [] w wr)
 case atStart=>exact ⟨0,_,rfl,rfl,rfl,World.ownsRow_nil _ _ _ _,Upd.refl _ _⟩
 case round=>
  obtain ⟨i,vo,hi,rfl,rfl,hrow,hup⟩:=hrel
  have i0:(0:Int)≤(i:Int):=Int.natCast_nonneg _
  have hiN:i≤N:=by omega
  have hwz:w.heap.size≤wr.heap.size:=hup.size
  by_cases hlt:i<N
  ·obtain ⟨s,hs⟩:∃s,l[i]? = some s:=⟨_,List.getElem?_eq_getElem (by rw [HN.out];exact hlt)⟩
   obtain ⟨g,o,hA,-,-,ey⟩:=(H.out.upd0 hup).at hs
   cases hA
   have y0:wr.cell? ⟨g,o+i*3,none⟩=some (.int .i64 s.lo):=ey 0 _ rfl
   have y1:wr.cell? ⟨g,o+i*3+1,none⟩=some (.int .i64 s.hi):=ey 1 _ rfl
   have y2:wr.cell? ⟨g,o+i*3+2,none⟩=some (.int .u32 (s.id:Int)):=ey 2 _ rfl
   have b1:(i:Int)<(N:Int):=by omega
   have hnext:=erase_step (i:=x) hs
   have hlen:((l.take i).eraseIdx x).length≤i:=by
    refine Nat.le_trans (List.length_eraseIdx_le _ _) ?_
    rw [List.length_take];omega
   generalize (l.take i).eraseIdx x=L at hrow hnext hlen
   obtain ⟨r,hr⟩:∃r,L.length=r:=⟨_,rfl⟩
   rw [hr] at hlen
   have hrow2:=hrow
   unfold Kind.row at hrow2
   rw [hr] at hrow2
   have HI:=Lib.hid (And.intro hi (And.intro hrow (And.intro hup (And.intro hnext (And.intro hr hrow2)))))
   clear hi hrow hup hnext hr hrow2 hs ey
   by_cases c:i=x
   ·have q:((i:Int) != (x:Int))=false:=by simp [c]
    have HC:=Lib.hid c
    clear c
    go_wp2_with fail
    go_roundg (N - (i+1))
    case measure=>have:=HI.out.1;omega
    case rel=>exact ⟨i+1,_,by have:=HI.out.1;omega,rfl,by go_num,by rw [HI.out.2.2.2.1,if_pos HC.out,List.append_nil];exact HI.out.2.1,HI.out.2.2.1⟩
   ·have q:((i:Int) != (x:Int))=true:=by simp;omega
    have HC:=Lib.hid c
    clear c
    go_wp2_with (at_builtin;refine wpList_app _ rfl _ _ 56 rfl w.heap.size 62 i1 (.agg #[.int .i64 0,.int .i64 0,.int .u32 0]) 3 24 Tryz.underlying56 hi1 hy0 hy1 hy2 rfl (by decide) _ r (KSp.all L) rfl (own_upd HI.out.2.2.2.2.2 ((Upd.refl [] wr).alloc _) (by simp)) _ 1 (KSp.enc s) rfl (sees_lit wr #[.int .i64 s.lo,.int .i64 s.hi,.int .u32 (s.id:Int)] 62 3 1 rfl (by decide)) (KSp.one s) (by unfold maxLen;omega) (by omega) (by simp;omega) ?_)
    intro A3 C3 W3 HP3
    have HP4:=Lib.hid HP3
    clear HP3 y0 y1 y2
    go_wp2_with fail
    go_roundg (N - (i+1))
    case measure=>have:=HI.out.1;omega
    case rel=>
     refine ⟨i+1,.slice A3 (r+1) C3,by have:=HI.out.1;omega,rfl,by go_num,?_,(HI.out.2.2.1.alloc _).trans' HP4.out.upd (fun y hy=>.inr (own_ge HI.out.2.1 y hy))⟩
     rw [HI.out.2.2.2.1,if_neg HC.out]
     unfold Kind.row
     rw [List.length_append,HI.out.2.2.2.2.1,KSp.all_app]
     exact HP4.out.own
  ·have hfin:l.take i=l:=by rw [List.take_of_length_le];rw [HN.out];omega
   rw [hfin] at hrow
   obtain ⟨Ab,Cb,rfl⟩:=own_form hrow
   have HF:=Lib.hid (And.intro hrow hup)
   obtain ⟨n,hn⟩:∃n,(l.eraseIdx x).length=n:=⟨_,rfl⟩
   rw [hn]
   have HNN:=Lib.hid hn
   clear hrow hup hfin hi hn
   go_wp2_with fail
   go_ret
   exact ⟨Ab,Cb,by rw [HNN.out];rfl,HF.out.1,HF.out.2⟩
end Go.Proofs.YtkbaaonchdeneaaGreat
