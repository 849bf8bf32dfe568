/- The document's answer of chapter 9: Meet. -/
import Derived.Test.YtkbaaonchdeneaaGreatPkSpansTellP16
import Derived.Test.YtkbaaonchdeneaaGreatPk27
set_option maxHeartbeats 8000000
set_option maxRecDepth 100000
namespace Go.Proofs.YtkbaaonchdeneaaGreat
open Go.RowKit
theorem meetL_in {m:List Sp} {s:Sp} {lo hi:Int} (h1:¬hi<lo) (h2:lo≤s.hi) (h3:s.lo≤hi):meetL (m++[s]) lo hi=sortN (meetL m lo hi++[s.id]):=by
 unfold meetL
 rw [if_neg h1,if_neg h1,List.filter_append,List.map_append,List.filter_cons,List.filter_nil,if_pos (by simp [h2,h3])]
 exact sortN_congr (List.Perm.append_right _ (sortN_perm _).symm)
theorem meetL_out {m:List Sp} {s:Sp} {lo hi:Int} (h:hi<lo∨s.hi<lo∨hi<s.lo):meetL (m++[s]) lo hi=meetL m lo hi:=by
 unfold meetL
 by_cases h1:hi<lo
 ·rw [if_pos h1,if_pos h1]
 ·rw [if_neg h1,if_neg h1,List.filter_append,List.filter_cons,List.filter_nil,if_neg (by simp;omega),List.append_nil]
theorem meetL_le (m:List Sp) (lo hi:Int):(meetL m lo hi).Pairwise (·≤·):=by
 unfold meetL
 split
 ·exact List.Pairwise.nil
 ·exact sortN_le _
theorem refMeet (v:Value) (l:List Sp) (lo hi:Int) (w:World) (h:See KSp w v l) (hl:l.length<1000000) :
 Calls Tryz.prog 40 #[v,.int .i64 lo,.int .i64 hi] w (RowPostU w (meetL l lo hi)):=by
 obtain ⟨A,C,rfl⟩:=h.form
 obtain ⟨i3,hi3,hv0,hv1,hv2⟩:=info_parts infoU32S
 obtain ⟨N,hN⟩:∃N,l.length=N:=⟨_,rfl⟩
 have h':See KSp w (.slice A N C) l:=by rw [←hN];exact h
 rw [hN] at hl ⊢
 have n0:(0:Int)≤(N:Int):=Int.natCast_nonneg _
 have H:=Lib.hid h'
 have HN:=Lib.hid hN
 clear h h' hN
 go_enter Tryz.func40,Tryz.ntmps40
 go_wp2_with fail
 go_loopg [7,8] N (fun m s7 s8 wr=>∃(i:Nat) (A2:Option Addr) (C2:Nat),m+i=N∧s7=.slice A2 (meetL (l.take i) lo hi).length C2∧s8=.int .i64 (i:Int)∧KU.row wr w.heap.size (.slice A2 (meetL (l.take i) lo hi).length C2) (meetL (l.take i) lo hi)∧Upd [] w wr)
 case atStart=>exact ⟨0,none,0,rfl,by rw [List.take_zero,meetL_nil];rfl,rfl,by rw [List.take_zero,meetL_nil];exact World.ownsRow_nil _ _ _ _,Upd.refl _ _⟩
 case round=>
  obtain ⟨i,A2,C2,hi',rfl,rfl,hrow,hup⟩:=hrel
  have i0:(0:Int)≤(i:Int):=Int.natCast_nonneg _
  have hiN:i≤N:=by omega
  have hwz:=hup.size
  have hMl:(meetL (l.take i) lo hi).length≤i:=by have:=meetL_len (l.take i) lo hi;rw [List.length_take] at this;omega
  have hMs:=meetL_le (l.take i) lo hi
  by_cases hlt:i<N
  ·obtain ⟨s,hs⟩:∃s,l[i]? = some s:=⟨_,List.getElem?_eq_getElem (by rw [HN.out];exact hlt)⟩
   obtain ⟨g,o,rfl,-,-,ey⟩:=(H.out.upd0 hup).at hs
   have y0:wr.cell? ⟨g,o+i*3,none⟩=some (.int .i64 s.lo):=ey 0 _ rfl
   have y1:wr.cell? ⟨g,o+i*3+1,none⟩=some (.int .i64 s.hi):=ey 1 _ rfl
   have y2:wr.cell? ⟨g,o+i*3+2,none⟩=some (.int .u32 (s.id:Int)):=ey 2 _ rfl
   have htk:l.take (i+1)=l.take i++[s]:=by
    obtain ⟨g1,g2⟩:=List.getElem?_eq_some_iff.1 hs
    rw [List.take_succ_eq_append_getElem g1,g2]
   have b1:(i:Int)<(N:Int):=by omega
   by_cases c1:hi<lo
   ·have e1:decide (hi<lo)=true:=decide_eq_true c1
    have hnext:meetL (l.take (i+1)) lo hi=meetL (l.take i) lo hi:=by rw [htk];exact meetL_out (.inl c1)
    obtain ⟨M,hM⟩:∃M,meetL (l.take i) lo hi=M:=⟨_,rfl⟩
    rw [hM] at hrow hMl hnext ⊢
    have HI:=Lib.hid (And.intro hi' (And.intro hup (And.intro hrow hnext)))
    clear hi' hup hrow hMl hMs hnext hs ey htk hM c1
    go_wp2_with fail
    go_roundg (N - (i+1))
    case measure=>have:=HI.out.1;omega
    case rel=>exact ⟨i+1,A2,C2,by have:=HI.out.1;omega,by rw [HI.out.2.2.2],by go_num,by rw [HI.out.2.2.2];exact HI.out.2.2.1,HI.out.2.1⟩
   have e1:decide (hi<lo)=false:=decide_eq_false c1
   by_cases c2:s.hi<lo
   ·have e2:decide (s.hi<lo)=true:=decide_eq_true c2
    have hnext:meetL (l.take (i+1)) lo hi=meetL (l.take i) lo hi:=by rw [htk];exact meetL_out (.inr (.inl c2))
    obtain ⟨M,hM⟩:∃M,meetL (l.take i) lo hi=M:=⟨_,rfl⟩
    rw [hM] at hrow hMl hnext ⊢
    have HI:=Lib.hid (And.intro hi' (And.intro hup (And.intro hrow hnext)))
    clear hi' hup hrow hMl hMs hnext hs ey htk hM c1 c2
    go_wp2_with fail
    go_roundg (N - (i+1))
    case measure=>have:=HI.out.1;omega
    case rel=>exact ⟨i+1,A2,C2,by have:=HI.out.1;omega,by rw [HI.out.2.2.2],by go_num,by rw [HI.out.2.2.2];exact HI.out.2.2.1,HI.out.2.1⟩
   have e2:decide (s.hi<lo)=false:=decide_eq_false c2
   by_cases c3:hi<s.lo
   ·have e3:decide (hi<s.lo)=true:=decide_eq_true c3
    have hnext:meetL (l.take (i+1)) lo hi=meetL (l.take i) lo hi:=by rw [htk];exact meetL_out (.inr (.inr c3))
    obtain ⟨M,hM⟩:∃M,meetL (l.take i) lo hi=M:=⟨_,rfl⟩
    rw [hM] at hrow hMl hnext ⊢
    have HI:=Lib.hid (And.intro hi' (And.intro hup (And.intro hrow hnext)))
    clear hi' hup hrow hMl hMs hnext hs ey htk hM c1 c2 c3
    go_wp2_with fail
    go_roundg (N - (i+1))
    case measure=>have:=HI.out.1;omega
    case rel=>exact ⟨i+1,A2,C2,by have:=HI.out.1;omega,by rw [HI.out.2.2.2],by go_num,by rw [HI.out.2.2.2];exact HI.out.2.2.1,HI.out.2.1⟩
   have e3:decide (hi<s.lo)=false:=decide_eq_false c3
   have hnext:meetL (l.take (i+1)) lo hi=sortN (meetL (l.take i) lo hi++[s.id]):=by rw [htk];exact meetL_in c1 (by omega) (by omega)
   obtain ⟨M,hM⟩:∃M,meetL (l.take i) lo hi=M:=⟨_,rfl⟩
   rw [hM] at hrow hMl hMs hnext ⊢
   obtain ⟨n,hn⟩:∃n,M.length=n:=⟨_,rfl⟩
   obtain ⟨x,hx⟩:∃x,s.id=x:=⟨_,rfl⟩
   rw [hx] at hnext y2
   have HX0:=Lib.hid (show l[i]? = some ⟨s.lo,s.hi,x⟩ by rw [hs,←hx])
   have hrow2:=hrow
   unfold Kind.row at hrow2
   rw [hn] at hrow2 hMl ⊢
   have nn0:(0:Int)≤(n:Int):=Int.natCast_nonneg _
   have nn1:(n:Int)<1000000:=by omega
   have HI:=Lib.hid (And.intro hi' (And.intro hup (And.intro hrow2 (And.intro hn (And.intro hMs hnext)))))
   clear hi' hup hrow hrow2 hMs hnext hs ey htk hM c1 c2 c3 hn hx
   go_wp2_with (at_builtin;refine wpList_app _ rfl _ _ 35 rfl w.heap.size 26 i3 (.int .u32 0) 1 4 Tryz.underlying35 hi3 hv0 hv1 hv2 rfl (by decide) _ n (KU.all M) rfl (own_upd HI.out.2.2.1 ((Upd.refl [] _).alloc _) (by simp)) _ 1 [.int .u32 (x:Int)] rfl (sees_lit wr #[.int .u32 (x:Int)] 26 1 1 rfl (by decide)) (by simp [Value.oneCell']) (by unfold maxLen;omega) (by omega) (by simp;omega) ?_)
   intro A3 C3 W3 HP3
   have hrow3:KU.row W3 w.heap.size (.slice A3 (n+1) C3) (M++[x]):=by
    unfold Kind.row
    rw [List.length_append,HI.out.2.2.2.1,KU.all_app]
    exact HP3.own
   have hu3:Upd [] w W3:=(HI.out.2.1.alloc _).trans' HP3.upd (fun y hy=>.inr (own_ge HI.out.2.2.1 y hy))
   obtain ⟨g3,rfl,-,-⟩:=rowU_atW hrow3 (k:=n) (x:=x) (by rw [List.getElem?_append_right (by rw [HI.out.2.2.2.1];exact Nat.le_refl _),HI.out.2.2.2.1,Nat.sub_self];rfl)
   have hg3:w.heap.size≤g3:=own_ge hrow3 g3 (by simp [blk])
   have H3:=Lib.hid (And.intro hrow3 (And.intro hu3 HX0.out))
   clear hrow3 hu3 HP3 y0 y1 y2
   go_wp2_with fail
   go_loopg [9] n (fun m s9 wr=>∃a y:Nat,m=a∧a≤n∧s9=.int .i64 (a:Int)∧KU.row wr w.heap.size (.slice (some ⟨g3,0,none⟩) (n+1) C3) (M.take a++y::M.drop a)∧(∀z∈M.drop a,x<z)∧Upd [] w wr)
   case atStart=>exact ⟨n,x,rfl,Nat.le_refl _,rfl,by rw [List.take_of_length_le (by rw [HI.out.2.2.2.1];exact Nat.le_refl _),List.drop_of_length_le (by rw [HI.out.2.2.2.1];exact Nat.le_refl _)];exact H3.out.1,by rw [List.drop_of_length_le (by rw [HI.out.2.2.2.1];exact Nat.le_refl _)];simp,H3.out.2.1⟩
   case round=>
    obtain ⟨a,y,hm,hai,rfl,hrw,hhi,hup⟩:=hrel
    have a0:(0:Int)≤(a:Int):=Int.natCast_nonneg _
    have a1:(a:Int)<(n:Int)+1:=by omega
    have hrl:(M.take a++y::M.drop a).length=n+1:=by
     rw [List.length_append,List.length_take,List.length_cons,List.length_drop,HI.out.2.2.2.1]
     omega
    obtain ⟨g',hg',ca,fa⟩:=rowU_atW hrw (k:=a) (x:=y) (by rw [List.getElem?_append_right (by rw [List.length_take];omega),List.length_take,HI.out.2.2.2.1,Nat.min_eq_left hai,Nat.sub_self];rfl)
    injection hg' with hg'
    injection hg' with hg' _ _
    subst hg'
    have fa1:=fa a
    obtain ⟨g'',o'',hg'',-,-,ey⟩:=(H.out.upd0 hup).at H3.out.2.2
    injection hg'' with hg''
    injection hg'' with hg'' ho'' _
    subst hg'' ho''
    have ex:wr.cell? ⟨g,o+i*3+2,none⟩=some (.int .u32 (x:Int)):=ey 2 _ rfl
    clear fa ey
    by_cases hap:0<a
    ·have hgt:decide (0<a)=true:=decide_eq_true hap
     obtain ⟨p,hp⟩:∃p,a=p+1:=⟨a - 1,by omega⟩
     have hpa:(a:Int) - 1=(p:Int):=by omega
     obtain ⟨z,hz⟩:∃z,M[p]? = some z:=⟨_,List.getElem?_eq_getElem (by rw [HI.out.2.2.2.1];omega)⟩
     obtain ⟨g4,hg4,cp,-⟩:=rowU_atW hrw (k:=p) (x:=z) (by rw [hp];exact ins_at hz)
     injection hg4 with hg4
     injection hg4 with hg4 _ _
     subst hg4
     have p0:(0:Int)≤(p:Int):=Int.natCast_nonneg _
     have p1:(p:Int)<(n:Int)+1:=by omega
     by_cases hxz:x<z
     ·have hg:decide (x<z)=true:=decide_eq_true hxz
      have HZ:=Lib.hid (And.intro hrw (And.intro hrl (And.intro hhi (And.intro hup (And.intro hp (And.intro hz (And.intro hxz hm)))))))
      clear hrw hrl hhi hup hp hz hxz hm hap
      go_wp2_with fail
      go_quiet (fail)
      go_wp2_with fail
      go_roundg p
      case measure=>have h1:=HZ.out.2.2.2.2.1;have h2:=HZ.out.2.2.2.2.2.2.2;omega
      case rel=>
       have hst:=KU_stored (own_upd HZ.out.1 ((Upd.refl [] wr).drewN nq) (by simp)) HZ.out.2.1 a z
       have e:=ins_step (y:=y) HZ.out.2.2.2.2.2.1
       rw [←HZ.out.2.2.2.2.1] at e
       rw [e] at hst
       refine ⟨p,z,rfl,by have:=HZ.out.2.2.2.2.1;omega,by go_num,hst,?_,(HZ.out.2.2.2.1.drewN nq).setCell (p:=⟨g3,a,none⟩) (.inr hg3) _⟩
       obtain ⟨h1,h2⟩:=List.getElem?_eq_some_iff.1 HZ.out.2.2.2.2.2.1
       rw [List.drop_eq_getElem_cons h1,h2,←HZ.out.2.2.2.2.1]
       intro u hu
       rcases List.mem_cons.1 hu with rfl | hu
       ·exact HZ.out.2.2.2.2.2.2.1
       ·exact HZ.out.2.2.1 u hu
     ·have hg:decide (x<z)=false:=decide_eq_false hxz
      have hlo:∀u,0<a→M[a - 1]? = some u→u≤x:=fun u _ hu=>by
       rw [hp,Nat.add_sub_cancel,hz] at hu
       injection hu with hu
       omega
      have HZ:=Lib.hid (And.intro hrw (And.intro hrl (And.intro hhi (And.intro hup hlo))))
      clear hrw hrl hhi hup hp hz hxz hm hap hlo
      go_wp2_with fail
      go_quiet (fail)
      go_wp2_with fail
      go_roundg (N - (i+1))
      case measure=>have:=HI.out.1;omega
      case rel=>
       have hst:=KU_stored (own_upd HZ.out.1 ((Upd.refl [] wr).drewN nq) (by simp)) HZ.out.2.1 a x
       rw [ins_done (y:=y) HI.out.2.2.2.2.1 (by rw [HI.out.2.2.2.1];exact hai) HZ.out.2.2.2.2 HZ.out.2.2.1] at hst
       have hle:(meetL (l.take (i+1)) lo hi).length=n+1:=by rw [HI.out.2.2.2.2.2,sortN_len,List.length_append,HI.out.2.2.2.1];rfl
       exact ⟨i+1,_,_,by have:=HI.out.1;omega,by rw [hle],by go_num,by rw [hle,HI.out.2.2.2.2.2];exact hst,(HZ.out.2.2.2.1.drewN nq).setCell (p:=⟨g3,a,none⟩) (.inr hg3) _⟩
    ·have ha0:a=0:=by omega
     have hgt:decide (0<a)=false:=decide_eq_false hap
     have hlo:∀z,0<a→M[a - 1]? = some z→z≤x:=fun z h0=>by omega
     have HZ:=Lib.hid (And.intro hrw (And.intro hrl (And.intro hhi (And.intro hup hlo))))
     clear hrw hrl hhi hup hm hap hlo ha0
     go_wp2_with fail
     go_quiet (fail)
     go_wp2_with fail
     go_roundg (N - (i+1))
     case measure=>have:=HI.out.1;omega
     case rel=>
      have hst:=KU_stored (own_upd HZ.out.1 ((Upd.refl [] wr).drewN nq) (by simp)) HZ.out.2.1 a x
      rw [ins_done (y:=y) HI.out.2.2.2.2.1 (by rw [HI.out.2.2.2.1];exact hai) HZ.out.2.2.2.2 HZ.out.2.2.1] at hst
      have hle:(meetL (l.take (i+1)) lo hi).length=n+1:=by rw [HI.out.2.2.2.2.2,sortN_len,List.length_append,HI.out.2.2.2.1];rfl
      exact ⟨i+1,_,_,by have:=HI.out.1;omega,by rw [hle],by go_num,by rw [hle,HI.out.2.2.2.2.2];exact hst,(HZ.out.2.2.2.1.drewN nq).setCell (p:=⟨g3,a,none⟩) (.inr hg3) _⟩
  ·have hfin:l.take i=l:=by rw [List.take_of_length_le];rw [HN.out];omega
   rw [hfin] at hrow ⊢
   have HF:=Lib.hid (And.intro hrow hup)
   obtain ⟨M,hM⟩:∃M,meetL l lo hi=M:=⟨_,rfl⟩
   rw [hM] at HF ⊢
   obtain ⟨n,hn⟩:∃n,M.length=n:=⟨_,rfl⟩
   have HNN:=Lib.hid (And.intro hn hM)
   rw [hn]
   clear hrow hup hMl hMs hfin hi' hM hn
   go_wp2_with fail
   go_ret
   exact ⟨A2,C2,by rw [HNN.out.2,HNN.out.1];rfl,by rw [HNN.out.2];exact HF.out.1,HF.out.2⟩
end Go.Proofs.YtkbaaonchdeneaaGreat
