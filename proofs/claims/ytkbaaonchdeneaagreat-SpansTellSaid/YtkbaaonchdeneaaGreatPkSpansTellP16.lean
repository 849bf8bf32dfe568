/- The document's answers of chapter 8: Stab. -/
import Derived.Test.YtkbaaonchdeneaaGreatPkSpansTellP15
import Derived.Test.YtkbaaonchdeneaaGreatPkSpansTellP5
set_option maxHeartbeats 8000000
set_option maxRecDepth 100000
namespace Go.Proofs.YtkbaaonchdeneaaGreat
open Go.RowKit
theorem refStab (v:Value) (l:List Sp) (x:Int) (w:World) (h:See KSp w v l) (hl:l.length<1000000) :
 Calls Tryz.prog 39 #[v,.int .i64 x] w (RowPostU w (stabL l x)):=by
 obtain ⟨A,C,rfl⟩:=h.form
 obtain ⟨i3,hi3,hv0,hv1,hv2⟩:=info_parts infoU32S
 obtain ⟨N,hN⟩:∃N,l.length=N:=⟨_,rfl⟩
 have h':See KSp w (.slice A N C) l:=by rw [←hN];exact h
 rw [hN] at hl ⊢
 have n0:(0:Int)≤(N:Int):=Int.natCast_nonneg _
 have H:=Lib.hid h'
 have HN:=Lib.hid hN
 clear h h' hN
 go_enter Tryz.func39,Tryz.ntmps39
 go_wp2_with fail
 go_loopg [5,6] N (fun m s5 s6 wr=>∃(i:Nat) (vo:Value),m+i=N∧s5=vo∧s6=.int .i64 (i:Int)∧KU.row wr w.heap.size vo (((l.take i).filter fun s=>stabBM s.lo s.hi x).map Sp.id)∧Upd [] w wr)
 case atStart=>exact ⟨0,_,rfl,rfl,rfl,World.ownsRow_nil _ _ _ _,Upd.refl _ _⟩
 case round=>
  obtain ⟨i,vo,hi,rfl,rfl,hrow,hup⟩:=hrel
  have i0:(0:Int)≤(i:Int):=Int.natCast_nonneg _
  have hiN:i≤N:=by omega
  have hwz:=hup.size
  by_cases hlt:i<N
  ·obtain ⟨s,hs⟩:∃s,l[i]? = some s:=⟨_,List.getElem?_eq_getElem (by rw [HN.out];exact hlt)⟩
   obtain ⟨g,o,rfl,-,-,ey⟩:=(H.out.upd0 hup).at hs
   have y0:wr.cell? ⟨g,o+i*3,none⟩=some (.int .i64 s.lo):=ey 0 _ rfl
   have y1:wr.cell? ⟨g,o+i*3+1,none⟩=some (.int .i64 s.hi):=ey 1 _ rfl
   have y2:wr.cell? ⟨g,o+i*3+2,none⟩=some (.int .u32 (s.id:Int)):=ey 2 _ rfl
   have b1:(i:Int)<(N:Int):=by omega
   have hnext:((l.take (i+1)).filter fun s=>stabBM s.lo s.hi x).map Sp.id=((l.take i).filter fun s=>stabBM s.lo s.hi x).map Sp.id++(if stabBM s.lo s.hi x=true then [s.id] else []):=by
    obtain ⟨g1,g2⟩:=List.getElem?_eq_some_iff.1 hs
    rw [List.take_succ_eq_append_getElem g1,g2,List.filter_append,List.map_append,List.filter_cons,List.filter_nil]
    split<;>rfl
   have hlen:(((l.take i).filter fun s=>stabBM s.lo s.hi x).map Sp.id).length≤i:=by
    rw [List.length_map]
    refine Nat.le_trans (List.length_filter_le _ _) ?_
    rw [List.length_take];omega
   generalize ((l.take i).filter fun s=>stabBM s.lo s.hi x).map Sp.id=L at hrow hnext hlen
   obtain ⟨r,hr⟩:∃r,L.length=r:=⟨_,rfl⟩
   rw [hr] at hlen
   have hrow2:=hrow
   unfold Kind.row at hrow2
   rw [hr] at hrow2
   have HI:=Lib.hid (And.intro hi (And.intro hrow (And.intro hup (And.intro hnext (And.intro hr hrow2)))))
   clear hi hrow hup hnext hr hrow2 hs ey
   by_cases c1:s.lo≤x
   ·have g1:decide (s.lo≤x)=true:=decide_eq_true c1
    by_cases c2:x≤s.hi
    ·have g2:decide (x≤s.hi)=true:=decide_eq_true c2
     have hst:stabBM s.lo s.hi x=true:=by unfold stabBM;rw [g1,g2];rfl
     have HST:=Lib.hid hst
     clear hst c1 c2
     go_wp2_with (at_builtin;refine wpList_app _ rfl _ _ 35 rfl w.heap.size 26 i3 (.int .u32 0) 1 4 Tryz.underlying35 hi3 hv0 hv1 hv2 rfl (by decide) _ r (KU.all L) rfl (own_upd HI.out.2.2.2.2.2 ((Upd.refl [] _).alloc _) (by simp)) _ 1 [.int .u32 (s.id:Int)] rfl (sees_lit wr #[.int .u32 (s.id:Int)] 26 1 1 rfl (by decide)) (by simp [Value.oneCell']) (by unfold maxLen;omega) (by omega) (by simp;omega) ?_)
     intro A3 C3 W3 HP3
     have HP4:=Lib.hid HP3
     clear HP3 y0 y1 y2
     go_wp2_with fail
     go_roundg (N - (i+1))
     case measure=>have:=HI.out.1;omega
     case rel=>
      refine ⟨i+1,.slice A3 (r+1) C3,by have:=HI.out.1;omega,rfl,by go_num,?_,(HI.out.2.2.1.alloc _).trans' HP4.out.upd (fun y hy=>.inr (own_ge HI.out.2.1 y hy))⟩
      rw [HI.out.2.2.2.1,if_pos HST.out]
      unfold Kind.row
      rw [List.length_append,HI.out.2.2.2.2.1,KU.all_app]
      exact HP4.out.own
    ·have g2:decide (x≤s.hi)=false:=decide_eq_false c2
     have hst:¬stabBM s.lo s.hi x=true:=by unfold stabBM;rw [g1,g2];decide
     have HST:=Lib.hid hst
     clear hst c1 c2
     go_wp2_with fail
     go_roundg (N - (i+1))
     case measure=>have:=HI.out.1;omega
     case rel=>exact ⟨i+1,_,by have:=HI.out.1;omega,rfl,by go_num,by rw [HI.out.2.2.2.1,if_neg HST.out,List.append_nil];exact HI.out.2.1,HI.out.2.2.1⟩
   ·have g1:decide (s.lo≤x)=false:=decide_eq_false c1
    have hst:¬stabBM s.lo s.hi x=true:=by unfold stabBM;rw [g1];simp
    have HST:=Lib.hid hst
    clear hst c1
    go_wp2_with fail
    go_roundg (N - (i+1))
    case measure=>have:=HI.out.1;omega
    case rel=>exact ⟨i+1,_,by have:=HI.out.1;omega,rfl,by go_num,by rw [HI.out.2.2.2.1,if_neg HST.out,List.append_nil];exact HI.out.2.1,HI.out.2.2.1⟩
  ·have hfin:l.take i=l:=by rw [List.take_of_length_le];rw [HN.out];omega
   rw [hfin] at hrow
   have hlen:((l.filter fun s=>stabBM s.lo s.hi x).map Sp.id).length<1000000:=by
    rw [List.length_map]
    refine Nat.lt_of_le_of_lt (List.length_filter_le _ _) ?_
    rw [HN.out];exact hl
   obtain ⟨Ab,Cb,rfl⟩:=own_form hrow
   have hso:=refSorted _ _ wr (See.of_row hrow) hlen
   have e:sortN ((l.filter fun s=>stabBM s.lo s.hi x).map Sp.id)=stabL l x:=rfl
   rw [e] at hso
   generalize (l.filter fun s=>stabBM s.lo s.hi x).map Sp.id=L at hrow hso
   have HSO:=Lib.hid hso
   have HUP:=Lib.hid hup
   clear hso hrow hup hfin hlen e hi
   go_wp2_with fail
   (with_reducible refine HSO.out.mono ?_)
   rintro e w3 ⟨A4,C4,rfl,t1,t2⟩
   have HT:=Lib.hid (And.intro t1 t2)
   clear t1 t2
   go_wp2_with fail
   go_ret
   exact ⟨A4,C4,rfl,own_base HT.out.1 HUP.out.size,HUP.out.trans HT.out.2⟩
end Go.Proofs.YtkbaaonchdeneaaGreat
