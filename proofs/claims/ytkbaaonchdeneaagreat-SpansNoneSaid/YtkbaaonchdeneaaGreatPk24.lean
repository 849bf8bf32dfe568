/- Spans and numbers that came in. Chapter 24's law: sameIDs. A span that came in by value; a slice of chapter 24's operations that came in. -/
import Derived.BigQuiet
import Derived.Deep.QuietTactic
import Derived.ProofKit
import Derived.Deep.Slices
import Derived.Deep.Fields
import Derived.ChangeSame
import Derived.Test.YtkbaaonchdeneaaGreatPk15
import Derived.Test.YtkbaaonchdeneaaGreatPk1
import Derived.Test.YtkbaaonchdeneaaGreatPk6
import Derived.Test.YtkbaaonchdeneaaGreatPk14
set_option maxHeartbeats 4000000
set_option maxRecDepth 100000
namespace Go.Proofs.YtkbaaonchdeneaaGreat
open Go.RowKit
def Sp.in64 (s:Sp):Prop:=(-9223372036854775808≤s.lo∧s.lo≤9223372036854775807)∧(-9223372036854775808≤s.hi∧s.hi≤9223372036854775807)∧s.id<4294967296
theorem u32_natS {x:Int} (h:(Lit.int .u32 x).wf=true):∃n:Nat,x=(n:Int)∧n<4294967296:=by
 simp [Lit.wf,IntKind.min,IntKind.max,IntKind.signed,IntKind.bits] at h
 exact ⟨x.toNat,by omega,by omega⟩
theorem i64_inS {x:Int} (h:(Lit.int .i64 x).wf=true) : -9223372036854775808≤x∧x≤9223372036854775807:=by
 simp [Lit.wf,IntKind.min,IntKind.max,IntKind.signed,IntKind.bits] at h
 omega
end Go.Proofs.YtkbaaonchdeneaaGreat
namespace Go.Proofs.YtkbaaonchdeneaaGreat
open Go.ChangeShapes Go.WideShapes Go.Deep Go.RowKit
open Go.RowKit
theorem same24C (va vb:Value) (la lb:List Nat) (w:World) (ha:See KU w va la) (hb:See KU w vb lb) (hl:la.length<1000000000000) (hl2:lb.length<1000000000000) :
 Calls Tryz.prog 32 #[va,vb] w fun e w'=>e=.returned (.bool (decide (la=lb)))∧Upd [] w w':=by
 obtain ⟨A,C,rfl⟩:=ha.form
 obtain ⟨B,D,rfl⟩:=hb.form
 obtain ⟨r,hr⟩:∃r,decide (la=lb)=r:=⟨_,rfl⟩
 obtain ⟨n,hn⟩:∃n,la.length=n:=⟨_,rfl⟩
 obtain ⟨m,hm⟩:∃m,lb.length=m:=⟨_,rfl⟩
 rw [hn] at ha hl
 rw [hm] at hb hl2
 rw [hr,hn,hm]
 have HA:=Lib.hid (And.intro ha hb)
 have HN:=Lib.hid (And.intro hn (And.intro hm hr))
 have n0:(0:Int)≤(n:Int):=Int.natCast_nonneg _
 have m0:(0:Int)≤(m:Int):=Int.natCast_nonneg _
 have n1:(n:Int)<1000000000000:=by omega
 clear ha hb hr hn hm
 by_cases hnm:n=m
 ·subst hnm
  have hne:((n:Int) != (n:Int))=false:=by simp
  go_enter Tryz.func32,Tryz.ntmps32
  go_wp2_with fail
  go_loopg [13] n (fun m s13 wr=>∃k:Nat,m+k=n∧s13=.int .i64 (k:Int)∧la.take k=lb.take k∧Upd [] w wr)
  case atStart=>exact ⟨0,rfl,rfl,by simp,Upd.refl _ _⟩
  case round=>
   obtain ⟨k,hk,rfl,htk,hup⟩:=hrel
   have k0:(0:Int)≤(k:Int):=Int.natCast_nonneg _
   have hkn:k≤n:=by omega
   have HK:=Lib.hid (And.intro hk (And.intro htk hup))
   clear hk htk hup
   by_cases hlt:k<n
   ·obtain ⟨x,hx⟩:∃x,la[k]? = some x:=⟨_,List.getElem?_eq_getElem (by rw [HN.out.1];exact hlt)⟩
    obtain ⟨y,hy⟩:∃y,lb[k]? = some y:=⟨_,List.getElem?_eq_getElem (by rw [HN.out.2.1];exact hlt)⟩
    obtain ⟨g1,o1,hA,-,-,hc1⟩:=KU.atS (HA.out.1.upd0 HK.out.2.2) hx
    obtain ⟨g2,o2,hB,-,-,hc2⟩:=KU.atS (HA.out.2.upd0 HK.out.2.2) hy
    subst hA hB
    have HX:=Lib.hid (And.intro hx hy)
    have b1:(k:Int)<(n:Int):=by omega
    clear hx hy
    by_cases hxy:x=y
    ·have hq:((x:Int) != (y:Int))=false:=by simp [hxy]
     have HXY:=Lib.hid hxy
     clear hxy
     go_wp2_with fail
     go_quiet (fail)
     go_wp2_with fail
     go_roundg (n - (k+1))
     case measure=>have:=HK.out.1;omega
     case rel=>
      refine ⟨k+1,by have:=HK.out.1;omega,by go_num,?_,HK.out.2.2.drewN _⟩
      obtain ⟨h1,h2⟩:=List.getElem?_eq_some_iff.1 HX.out.1
      obtain ⟨h3,h4⟩:=List.getElem?_eq_some_iff.1 HX.out.2
      rw [List.take_succ_eq_append_getElem h1,List.take_succ_eq_append_getElem h3,HK.out.2.1,h2,h4,HXY.out]
    ·have hq:((x:Int) != (y:Int))=true:=by simp;omega
     have hd:r=false:=by
      rw [←HN.out.2.2,decide_eq_false_iff_not]
      intro e
      have h1:=HX.out.1
      rw [e,HX.out.2] at h1
      injection h1 with h1
      exact hxy h1.symm
     have HD:=Lib.hid hd
     clear hxy hd
     go_wp2_with fail
     go_quiet (fail)
     go_wp2_with fail
     go_ret
     exact ⟨by rw [HD.out];rfl,HK.out.2.2.drewN _⟩
   ·have hkn2:k=n:=by omega
    have hd:r=true:=by
     rw [←HN.out.2.2,decide_eq_true_iff]
     have h1:=HK.out.2.1
     rw [hkn2,List.take_of_length_le (by rw [HN.out.1];exact Nat.le_refl _),List.take_of_length_le (by rw [HN.out.2.1];exact Nat.le_refl _)] at h1
     exact h1
    have HD:=Lib.hid hd
    clear hd hkn2
    go_wp2_with fail
    go_ret
    exact ⟨by rw [HD.out];rfl,HK.out.2.2⟩
 ·have hne:((n:Int) != (m:Int))=true:=by simp;omega
  have hd:r=false:=by
   rw [←HN.out.2.2,decide_eq_false_iff_not]
   intro e
   exact hnm (by rw [←HN.out.1,←HN.out.2.1,e])
  have HD:=Lib.hid hd
  clear hnm hd
  go_enter Tryz.func32,Tryz.ntmps32
  go_wp2_with fail
  go_ret
  exact ⟨by rw [HD.out];rfl,Upd.refl _ _⟩
end Go.Proofs.YtkbaaonchdeneaaGreat
namespace Go.Proofs.YtkbaaonchdeneaaGreat
open Go.ChangeShapes Go.WideShapes Go.Deep Go.RowKit
theorem fields_openedS {H:Type} {enc:TypeId×Value→H} {P:Program} {w:World} {base:Nat} {spare:Nat→Bool} {held:Bool} {r:Reach} {b0:Nat} {t:TypeId} {fs:Array Field} {v:Value} {d:DataW H} {p:List MemPlace}
 (ht:P.underlying t=some (.struct fs)) (hone:oneCellFields P fs=true) (hC:P.cellsOf t=fs.size) (hv:Value.okWide P w r b0 t v) (h:DataW.Trod enc P w base spare held t v d p) :
 ∃cs:List Value,v=.agg cs.toArray∧cs.length=fs.size∧∀(j:Nat) (f:Field),fs[j]? = some f→∃(u:Value) (y:DataW H×List MemPlace) (n:Nat),cs[j]? = some u∧DataW.trod enc P w base spare held n f.type [u]=some y:=by
 obtain ⟨cs,rfl,hsz⟩:=okWide_struct ht hv
 obtain ⟨fuel,hf⟩:=h
 obtain ⟨xs,n,_,_,_,hlen,hg⟩:=DataW.trod_struct ht hf
 obtain ⟨l⟩:=cs
 have hl:l.length=fs.size:=hsz.trans hC
 refine ⟨l,rfl,hl,fun j f hj=>?_⟩
 have hjl:j<fs.size:=(Array.getElem?_eq_some_iff.1 hj).1
 obtain ⟨ho,hk⟩:=hone_of hone j f hj
 have h1:=hg j f hj
 rw [ho,hk] at h1
 have e:((Value.agg ⟨l⟩).cells.toList.drop j).take 1 = [l[j]'(by omega)]:=by
  show (l.drop j).take 1=_
  rw [List.drop_eq_getElem_cons (by omega)]
  rfl
 rw [e] at h1
 exact ⟨_,_,n,List.getElem?_eq_getElem (by omega),h1.trans (List.getElem?_eq_getElem (by omega))⟩
theorem sp_opened {H:Type} {enc:TypeId×Value→H} {w:World} {base:Nat} {spare:Nat→Bool} {held:Bool} {r:Reach} {b0:Nat} {v:Value} {d:DataW H} {p:List MemPlace}
 (hv:Value.okWide Tryz.prog w r b0 62 v) (h:DataW.Trod enc Tryz.prog w base spare held 62 v d p):∃b:Sp,v=spV b∧b.in64:=by
 obtain ⟨cs,rfl,hl,hf⟩:=fields_openedS Tryz.underlying62 (by kernel_rfl) (by kernel_rfl) hv h
 obtain ⟨u0,y0,n0,g0,t0⟩:=hf 0 _ rfl
 obtain ⟨u1,y1,n1,g1,t1⟩:=hf 1 _ rfl
 obtain ⟨u2,y2,n2,g2,t2⟩:=hf 2 _ rfl
 obtain ⟨a0,e0,_,w0⟩:=DataW.trod_int Tryz.underlying2 t0
 obtain ⟨a1,e1,_,w1⟩:=DataW.trod_int Tryz.underlying2 t1
 obtain ⟨a2,e2,_,w2⟩:=DataW.trod_int Tryz.underlying26 t2
 injection e0 with e0 _
 injection e1 with e1 _
 injection e2 with e2 _
 subst e0 e1 e2
 obtain ⟨n,rfl,hn⟩:=u32_natS w2
 refine ⟨⟨a0,a1,n⟩,?_,i64_inS w0,i64_inS w1,hn⟩
 have hl3:cs.length=3:=hl
 match cs,hl3 with
 | [c0,c1,c2],_=>
  simp at g0 g1 g2
  rw [g0,g1,g2]
  rfl
end Go.Proofs.YtkbaaonchdeneaaGreat
