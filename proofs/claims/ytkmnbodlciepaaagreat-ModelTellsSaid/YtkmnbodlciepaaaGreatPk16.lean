/- gridironlow.Names, Points, Spans, Boxes: are two lists the same? Printed by mklow.py. model.New, none, Points, Spans, Boxes. Printed by mknewm.py. -/
import Derived.ChangeKeysEq
import Derived.Deep.QuietTactic
import Derived.BigQuiet
import Derived.Test.YtkmnbodlciepaaaGreatPk15
set_option maxHeartbeats 4000000
set_option maxRecDepth 100000
namespace Go.Proofs.YtkmnbodlciepaaaGreat
open Go.RowKit
theorem KPt.at {w:World} {A:Option Addr} {n C:Nat} {l:List Pt} (h:See KPt w (.slice A n C) l) {k:Nat} {x:Pt} (hx:l[k]? = some x) :
 ∃b o,A=some ⟨b,o,none⟩∧n≤C∧C≤maxLen∧w.cell? ⟨b,o+k*3,none⟩=some (.int .i64 x.x)∧w.cell? ⟨b,o+k*3+1,none⟩=some (.int .i64 x.y)∧w.cell? ⟨b,o+k*3+2,none⟩=some (.int .u32 (x.id:Int)):=by
 obtain ⟨b,o,h1,h2,h3,h4⟩:=See.at h hx
 exact ⟨b,o,h1,h2,h3,h4 0 _ rfl,h4 1 _ rfl,h4 2 _ rfl⟩
theorem KSp.at {w:World} {A:Option Addr} {n C:Nat} {l:List Sp} (h:See KSp w (.slice A n C) l) {k:Nat} {x:Sp} (hx:l[k]? = some x) :
 ∃b o,A=some ⟨b,o,none⟩∧n≤C∧C≤maxLen∧w.cell? ⟨b,o+k*3,none⟩=some (.int .i64 x.lo)∧w.cell? ⟨b,o+k*3+1,none⟩=some (.int .i64 x.hi)∧w.cell? ⟨b,o+k*3+2,none⟩=some (.int .u32 (x.id:Int)):=by
 obtain ⟨b,o,h1,h2,h3,h4⟩:=See.at h hx
 exact ⟨b,o,h1,h2,h3,h4 0 _ rfl,h4 1 _ rfl,h4 2 _ rfl⟩
theorem pt_ne {a b a' b':Int} {c c':Nat} (h:(⟨a,b,c⟩:Pt)≠⟨a',b',c'⟩) (w:World):(binOp .neq 62 (.agg #[.int .i64 a,.int .i64 b,.int .u32 (c:Int)]) (.agg #[.int .i64 a',.int .i64 b',.int .u32 (c':Int)])).run Tryz.prog w=.ok (.bool true) w:=by
 have HH:=Lib.hid h
 clear h
 rw [run_neq_struct,run_equalIn_agg _ _ _ _ _ (by kernel_rfl) (by kernel_rfl)]
 go_simp
 rintro rfl rfl q
 have:c=c':=by omega
 subst this
 exact HH.out rfl
theorem pt_same (a b:Int) (c:Nat) (w:World):(binOp .neq 62 (.agg #[.int .i64 a,.int .i64 b,.int .u32 (c:Int)]) (.agg #[.int .i64 a,.int .i64 b,.int .u32 (c:Int)])).run Tryz.prog w=.ok (.bool false) w:=by
 rw [run_neq_struct,run_equalIn_agg _ _ _ _ _ (by kernel_rfl) (by kernel_rfl)]
 go_simp
theorem sp_ne {a b a' b':Int} {c c':Nat} (h:(⟨a,b,c⟩:Sp)≠⟨a',b',c'⟩) (w:World):(binOp .neq 54 (.agg #[.int .i64 a,.int .i64 b,.int .u32 (c:Int)]) (.agg #[.int .i64 a',.int .i64 b',.int .u32 (c':Int)])).run Tryz.prog w=.ok (.bool true) w:=by
 have HH:=Lib.hid h
 clear h
 rw [run_neq_struct,run_equalIn_agg _ _ _ _ _ (by kernel_rfl) (by kernel_rfl)]
 go_simp
 rintro rfl rfl q
 have:c=c':=by omega
 subst this
 exact HH.out rfl
theorem sp_same (a b:Int) (c:Nat) (w:World):(binOp .neq 54 (.agg #[.int .i64 a,.int .i64 b,.int .u32 (c:Int)]) (.agg #[.int .i64 a,.int .i64 b,.int .u32 (c:Int)])).run Tryz.prog w=.ok (.bool false) w:=by
 rw [run_neq_struct,run_equalIn_agg _ _ _ _ _ (by kernel_rfl) (by kernel_rfl)]
 go_simp
theorem bx_ne {a b c d a' b' c' d':Int} {e e':Nat} (h:(⟨a,b,c,d,e⟩:Bx)≠⟨a',b',c',d',e'⟩) (w:World):(binOp .neq 59 (.agg #[.int .i64 a,.int .i64 b,.int .i64 c,.int .i64 d,.int .u32 (e:Int)]) (.agg #[.int .i64 a',.int .i64 b',.int .i64 c',.int .i64 d',.int .u32 (e':Int)])).run Tryz.prog w=.ok (.bool true) w:=by
 have HH:=Lib.hid h
 clear h
 rw [run_neq_struct,run_equalIn_agg _ _ _ _ _ (by kernel_rfl) (by kernel_rfl)]
 go_simp
 rintro rfl rfl rfl rfl q
 have:e=e':=by omega
 subst this
 exact HH.out rfl
theorem bx_same (a b c d:Int) (e:Nat) (w:World):(binOp .neq 59 (.agg #[.int .i64 a,.int .i64 b,.int .i64 c,.int .i64 d,.int .u32 (e:Int)]) (.agg #[.int .i64 a,.int .i64 b,.int .i64 c,.int .i64 d,.int .u32 (e:Int)])).run Tryz.prog w=.ok (.bool false) w:=by
 rw [run_neq_struct,run_equalIn_agg _ _ _ _ _ (by kernel_rfl) (by kernel_rfl)]
 go_simp
def SameL {α:Type} (l l':List α) (b:Bool):Prop:=b=true↔l=l'
theorem same_end {α:Type} {l l':List α} {n n' i:Nat} (hn:l.length=n) (hn':l'.length=n') (hp:∀k,k<i→l[k]? = l'[k]?) (hi:i=n∨i=n') (hle:i≤n∧i≤n'):SameL l l' ((n:Int)==(n':Int)):=by
 unfold SameL
 constructor
 ·intro h
  have e1:(n:Int)=(n':Int):=by simpa using h
  have e:n=n':=by omega
  refine List.ext_getElem? fun k=>?_
  by_cases hk:k<i
  ·exact hp k hk
  ·rw [List.getElem?_eq_none (by omega),List.getElem?_eq_none (by omega)]
 ·rintro rfl
  rw [hn] at hn';subst hn';simp
theorem same_step {α:Type} {l l':List α} {i:Nat} {b:α} (hp:∀k,k<i→l[k]? = l'[k]?) (h:l[i]? = some b) (h':l'[i]? = some b):∀k,k<i+1→l[k]? = l'[k]?:=fun k hk=>by
 by_cases e:k=i
 ·subst e;rw [h,h']
 ·exact hp k (by omega)
theorem same_no {α:Type} {l l':List α} {i:Nat} {b b':α} (h:l[i]? = some b) (h':l'[i]? = some b') (hne:b≠b'):SameL l l' false:=by
 unfold SameL
 simp only [Bool.false_eq_true,false_iff]
 rintro rfl
 rw [h] at h';cases h';exact hne rfl
theorem lowNC (v u:Value) (l l':List Nat) (w:World) (hv:See KU w v l) (hu:See KU w u l') (hl:l.length<1000000) (_:l'.length<1000000) :
 Calls Tryz.prog 31 #[v,u] w fun e w'=>∃b,e=.returned (.bool b)∧SameL l l' b∧Upd [] w w':=by
 obtain ⟨A,C,rfl⟩:=hv.form
 obtain ⟨A',C',rfl⟩:=hu.form
 obtain ⟨n,hn⟩:∃n,l.length=n:=⟨_,rfl⟩
 obtain ⟨n',hn'⟩:∃n,l'.length=n:=⟨_,rfl⟩
 rw [hn] at hv hl ⊢
 rw [hn'] at hu ⊢
 have HV:=Lib.hid (And.intro hv hu)
 have HN:=Lib.hid (And.intro hn hn')
 have n1:(n:Int)<1000000:=by omega
 have n0:(0:Int)≤(n:Int):=Int.natCast_nonneg _
 clear hv hu hn hn' hl
 go_enter Tryz.func31,Tryz.ntmps31
 go_wp2_with fail
 go_loopg [5] n (fun m s5 wr=>∃i,m+i=n∧i≤n'∧s5=.int .i64 (i:Int)∧Upd [] w wr∧∀k,k<i→l[k]? = l'[k]?)
 case atStart=>exact ⟨0,rfl,Nat.zero_le _,rfl,Upd.refl _ _,by intro k hk;omega⟩
 case round=>
  obtain ⟨i,hi,hi',rfl,hu,hp⟩:=hrel
  have HI:=Lib.hid (And.intro hi hi')
  have HU:=Lib.hid hu
  have HP:=Lib.hid hp
  have i0:(0:Int)≤(i:Int):=Int.natCast_nonneg _
  have i3:(i:Int)<2000000:=by omega
  clear hp
  by_cases hlt:i<n
  ·have i1:(i:Int)<(n:Int):=by omega
   by_cases hlt':i<n'
   ·have i2:(i:Int)<(n':Int):=by omega
    obtain ⟨b,hb⟩:∃b,l[i]? = some b:=⟨_,List.getElem?_eq_getElem (by rw [HN.out.1];exact hlt)⟩
    obtain ⟨b',hb'⟩:∃b,l'[i]? = some b:=⟨_,List.getElem?_eq_getElem (by rw [HN.out.2];exact hlt')⟩
    obtain ⟨g,o,hA,-,-,c0⟩:=KU.at (HV.out.1.upd0 hu) hb
    obtain ⟨g',o',hA',-,-,d0⟩:=KU.at (HV.out.2.upd0 hu) hb'
    subst hA hA'
    have HLT:=Lib.hid (And.intro hlt (And.intro hlt' (And.intro hb hb')))
    clear hb hb' hlt hlt' hi hi' hu
    by_cases hne:b=b'
    ·subst hne
     have e1:((b:Int) != (b:Int))=false:=by simp
     clear HV
     go_upto_region 4 with fail
     go_quiet (fail)
     clear c0 d0
     go_wp2_with fail
     go_roundg (n - (i+1))
     case measure=>have:=HI.out;have:=HLT.out;omega
     case rel=>exact ⟨i+1,by have:=HI.out;have:=HLT.out;omega,by have:=HLT.out;omega,by go_num,HU.out.drewN _,same_step HP.out HLT.out.2.2.1 HLT.out.2.2.2⟩
    ·have HNE:=Lib.hid (same_no HLT.out.2.2.1 HLT.out.2.2.2 hne)
     have e1:((b:Int) != (b':Int))=true:=bne_iff_ne.2 (by omega)
     clear hne
     clear HV
     go_upto_region 4 with fail
     go_quiet (fail)
     clear c0 d0
     go_wp2_with fail
     go_ret
     exact ⟨_,rfl,HNE.out,HU.out.drewN _⟩
   ·have HS:=Lib.hid (same_end HN.out.1 HN.out.2 HP.out (.inr (by omega)) ⟨by omega,hi'⟩)
    obtain ⟨q,hq⟩:∃q,((n:Int)==(n':Int))=q:=⟨_,rfl⟩
    rw [hq] at HS
    clear hi hi' hu
    go_wp2_with fail
    go_ret
    exact ⟨_,rfl,HS.out,HU.out⟩
  ·have HS:=Lib.hid (same_end HN.out.1 HN.out.2 HP.out (.inl (by omega)) ⟨by omega,hi'⟩)
   obtain ⟨q,hq⟩:∃q,((n:Int)==(n':Int))=q:=⟨_,rfl⟩
   rw [hq] at HS
   clear hi hi' hu
   go_wp2_with fail
   go_ret
   exact ⟨_,rfl,HS.out,HU.out⟩
theorem lowPC (v u:Value) (l l':List Pt) (w:World) (hv:See KPt w v l) (hu:See KPt w u l') (hl:l.length<1000000) (_:l'.length<1000000) :
 Calls Tryz.prog 10 #[v,u] w fun e w'=>∃b,e=.returned (.bool b)∧SameL l l' b∧Upd [] w w':=by
 obtain ⟨A,C,rfl⟩:=hv.form
 obtain ⟨A',C',rfl⟩:=hu.form
 obtain ⟨n,hn⟩:∃n,l.length=n:=⟨_,rfl⟩
 obtain ⟨n',hn'⟩:∃n,l'.length=n:=⟨_,rfl⟩
 rw [hn] at hv hl ⊢
 rw [hn'] at hu ⊢
 have HV:=Lib.hid (And.intro hv hu)
 have HN:=Lib.hid (And.intro hn hn')
 have n1:(n:Int)<1000000:=by omega
 have n0:(0:Int)≤(n:Int):=Int.natCast_nonneg _
 clear hv hu hn hn' hl
 go_enter Tryz.func10,Tryz.ntmps10
 go_wp2_with fail
 go_loopg [5] n (fun m s5 wr=>∃i,m+i=n∧i≤n'∧s5=.int .i64 (i:Int)∧Upd [] w wr∧∀k,k<i→l[k]? = l'[k]?)
 case atStart=>exact ⟨0,rfl,Nat.zero_le _,rfl,Upd.refl _ _,by intro k hk;omega⟩
 case round=>
  obtain ⟨i,hi,hi',rfl,hu,hp⟩:=hrel
  have HI:=Lib.hid (And.intro hi hi')
  have HU:=Lib.hid hu
  have HP:=Lib.hid hp
  have i0:(0:Int)≤(i:Int):=Int.natCast_nonneg _
  have i3:(i:Int)<2000000:=by omega
  clear hp
  by_cases hlt:i<n
  ·have i1:(i:Int)<(n:Int):=by omega
   by_cases hlt':i<n'
   ·have i2:(i:Int)<(n':Int):=by omega
    obtain ⟨b,hb⟩:∃b,l[i]? = some b:=⟨_,List.getElem?_eq_getElem (by rw [HN.out.1];exact hlt)⟩
    obtain ⟨b',hb'⟩:∃b,l'[i]? = some b:=⟨_,List.getElem?_eq_getElem (by rw [HN.out.2];exact hlt')⟩
    obtain ⟨g,o,hA,-,-,c0,c1,c2⟩:=KPt.at (HV.out.1.upd0 hu) hb
    obtain ⟨g',o',hA',-,-,d0,d1,d2⟩:=KPt.at (HV.out.2.upd0 hu) hb'
    subst hA hA'
    have HLT:=Lib.hid (And.intro hlt (And.intro hlt' (And.intro hb hb')))
    clear hb hb' hlt hlt' hi hi' hu
    by_cases hne:b=b'
    ·subst hne
     have hsame:=fun w=>pt_same b.x b.y b.id w
     clear HV
     go_upto_region 4 with fail
     go_quiet (fail)
     clear c0 c1 c2 d0 d1 d2
     go_wp2_with fail
     go_roundg (n - (i+1))
     case measure=>have:=HI.out;have:=HLT.out;omega
     case rel=>exact ⟨i+1,by have:=HI.out;have:=HLT.out;omega,by have:=HLT.out;omega,by go_num,HU.out.drewN _,same_step HP.out HLT.out.2.2.1 HLT.out.2.2.2⟩
    ·have HNE:=Lib.hid (same_no HLT.out.2.2.1 HLT.out.2.2.2 hne)
     have hdiff:=fun w=>pt_ne (h:=show (⟨b.x,b.y,b.id⟩:Pt)≠⟨b'.x,b'.y,b'.id⟩ from hne) w
     clear hne
     clear HV
     go_upto_region 4 with fail
     go_quiet (fail)
     clear c0 c1 c2 d0 d1 d2
     go_wp2_with fail
     go_ret
     exact ⟨_,rfl,HNE.out,HU.out.drewN _⟩
   ·have HS:=Lib.hid (same_end HN.out.1 HN.out.2 HP.out (.inr (by omega)) ⟨by omega,hi'⟩)
    obtain ⟨q,hq⟩:∃q,((n:Int)==(n':Int))=q:=⟨_,rfl⟩
    rw [hq] at HS
    clear hi hi' hu
    go_wp2_with fail
    go_ret
    exact ⟨_,rfl,HS.out,HU.out⟩
  ·have HS:=Lib.hid (same_end HN.out.1 HN.out.2 HP.out (.inl (by omega)) ⟨by omega,hi'⟩)
   obtain ⟨q,hq⟩:∃q,((n:Int)==(n':Int))=q:=⟨_,rfl⟩
   rw [hq] at HS
   clear hi hi' hu
   go_wp2_with fail
   go_ret
   exact ⟨_,rfl,HS.out,HU.out⟩
theorem lowSC (v u:Value) (l l':List Sp) (w:World) (hv:See KSp w v l) (hu:See KSp w u l') (hl:l.length<1000000) (_:l'.length<1000000) :
 Calls Tryz.prog 12 #[v,u] w fun e w'=>∃b,e=.returned (.bool b)∧SameL l l' b∧Upd [] w w':=by
 obtain ⟨A,C,rfl⟩:=hv.form
 obtain ⟨A',C',rfl⟩:=hu.form
 obtain ⟨n,hn⟩:∃n,l.length=n:=⟨_,rfl⟩
 obtain ⟨n',hn'⟩:∃n,l'.length=n:=⟨_,rfl⟩
 rw [hn] at hv hl ⊢
 rw [hn'] at hu ⊢
 have HV:=Lib.hid (And.intro hv hu)
 have HN:=Lib.hid (And.intro hn hn')
 have n1:(n:Int)<1000000:=by omega
 have n0:(0:Int)≤(n:Int):=Int.natCast_nonneg _
 clear hv hu hn hn' hl
 go_enter Tryz.func12,Tryz.ntmps12
 go_wp2_with fail
 go_loopg [5] n (fun m s5 wr=>∃i,m+i=n∧i≤n'∧s5=.int .i64 (i:Int)∧Upd [] w wr∧∀k,k<i→l[k]? = l'[k]?)
 case atStart=>exact ⟨0,rfl,Nat.zero_le _,rfl,Upd.refl _ _,by intro k hk;omega⟩
 case round=>
  obtain ⟨i,hi,hi',rfl,hu,hp⟩:=hrel
  have HI:=Lib.hid (And.intro hi hi')
  have HU:=Lib.hid hu
  have HP:=Lib.hid hp
  have i0:(0:Int)≤(i:Int):=Int.natCast_nonneg _
  have i3:(i:Int)<2000000:=by omega
  clear hp
  by_cases hlt:i<n
  ·have i1:(i:Int)<(n:Int):=by omega
   by_cases hlt':i<n'
   ·have i2:(i:Int)<(n':Int):=by omega
    obtain ⟨b,hb⟩:∃b,l[i]? = some b:=⟨_,List.getElem?_eq_getElem (by rw [HN.out.1];exact hlt)⟩
    obtain ⟨b',hb'⟩:∃b,l'[i]? = some b:=⟨_,List.getElem?_eq_getElem (by rw [HN.out.2];exact hlt')⟩
    obtain ⟨g,o,hA,-,-,c0,c1,c2⟩:=KSp.at (HV.out.1.upd0 hu) hb
    obtain ⟨g',o',hA',-,-,d0,d1,d2⟩:=KSp.at (HV.out.2.upd0 hu) hb'
    subst hA hA'
    have HLT:=Lib.hid (And.intro hlt (And.intro hlt' (And.intro hb hb')))
    clear hb hb' hlt hlt' hi hi' hu
    by_cases hne:b=b'
    ·subst hne
     have hsame:=fun w=>sp_same b.lo b.hi b.id w
     clear HV
     go_upto_region 4 with fail
     go_quiet (fail)
     clear c0 c1 c2 d0 d1 d2
     go_wp2_with fail
     go_roundg (n - (i+1))
     case measure=>have:=HI.out;have:=HLT.out;omega
     case rel=>exact ⟨i+1,by have:=HI.out;have:=HLT.out;omega,by have:=HLT.out;omega,by go_num,HU.out.drewN _,same_step HP.out HLT.out.2.2.1 HLT.out.2.2.2⟩
    ·have HNE:=Lib.hid (same_no HLT.out.2.2.1 HLT.out.2.2.2 hne)
     have hdiff:=fun w=>sp_ne (h:=show (⟨b.lo,b.hi,b.id⟩:Sp)≠⟨b'.lo,b'.hi,b'.id⟩ from hne) w
     clear hne
     clear HV
     go_upto_region 4 with fail
     go_quiet (fail)
     clear c0 c1 c2 d0 d1 d2
     go_wp2_with fail
     go_ret
     exact ⟨_,rfl,HNE.out,HU.out.drewN _⟩
   ·have HS:=Lib.hid (same_end HN.out.1 HN.out.2 HP.out (.inr (by omega)) ⟨by omega,hi'⟩)
    obtain ⟨q,hq⟩:∃q,((n:Int)==(n':Int))=q:=⟨_,rfl⟩
    rw [hq] at HS
    clear hi hi' hu
    go_wp2_with fail
    go_ret
    exact ⟨_,rfl,HS.out,HU.out⟩
  ·have HS:=Lib.hid (same_end HN.out.1 HN.out.2 HP.out (.inl (by omega)) ⟨by omega,hi'⟩)
   obtain ⟨q,hq⟩:∃q,((n:Int)==(n':Int))=q:=⟨_,rfl⟩
   rw [hq] at HS
   clear hi hi' hu
   go_wp2_with fail
   go_ret
   exact ⟨_,rfl,HS.out,HU.out⟩
theorem lowBC (v u:Value) (l l':List Bx) (w:World) (hv:See KBx w v l) (hu:See KBx w u l') (hl:l.length<1000000) (_:l'.length<1000000) :
 Calls Tryz.prog 14 #[v,u] w fun e w'=>∃b,e=.returned (.bool b)∧SameL l l' b∧Upd [] w w':=by
 obtain ⟨A,C,rfl⟩:=hv.form
 obtain ⟨A',C',rfl⟩:=hu.form
 obtain ⟨n,hn⟩:∃n,l.length=n:=⟨_,rfl⟩
 obtain ⟨n',hn'⟩:∃n,l'.length=n:=⟨_,rfl⟩
 rw [hn] at hv hl ⊢
 rw [hn'] at hu ⊢
 have HV:=Lib.hid (And.intro hv hu)
 have HN:=Lib.hid (And.intro hn hn')
 have n1:(n:Int)<1000000:=by omega
 have n0:(0:Int)≤(n:Int):=Int.natCast_nonneg _
 clear hv hu hn hn' hl
 go_enter Tryz.func14,Tryz.ntmps14
 go_wp2_with fail
 go_loopg [5] n (fun m s5 wr=>∃i,m+i=n∧i≤n'∧s5=.int .i64 (i:Int)∧Upd [] w wr∧∀k,k<i→l[k]? = l'[k]?)
 case atStart=>exact ⟨0,rfl,Nat.zero_le _,rfl,Upd.refl _ _,by intro k hk;omega⟩
 case round=>
  obtain ⟨i,hi,hi',rfl,hu,hp⟩:=hrel
  have HI:=Lib.hid (And.intro hi hi')
  have HU:=Lib.hid hu
  have HP:=Lib.hid hp
  have i0:(0:Int)≤(i:Int):=Int.natCast_nonneg _
  have i3:(i:Int)<2000000:=by omega
  clear hp
  by_cases hlt:i<n
  ·have i1:(i:Int)<(n:Int):=by omega
   by_cases hlt':i<n'
   ·have i2:(i:Int)<(n':Int):=by omega
    obtain ⟨b,hb⟩:∃b,l[i]? = some b:=⟨_,List.getElem?_eq_getElem (by rw [HN.out.1];exact hlt)⟩
    obtain ⟨b',hb'⟩:∃b,l'[i]? = some b:=⟨_,List.getElem?_eq_getElem (by rw [HN.out.2];exact hlt')⟩
    obtain ⟨g,o,hA,-,-,c0,c1,c2,c3,c4⟩:=KBx.at (HV.out.1.upd0 hu) hb
    obtain ⟨g',o',hA',-,-,d0,d1,d2,d3,d4⟩:=KBx.at (HV.out.2.upd0 hu) hb'
    subst hA hA'
    have HLT:=Lib.hid (And.intro hlt (And.intro hlt' (And.intro hb hb')))
    clear hb hb' hlt hlt' hi hi' hu
    by_cases hne:b=b'
    ·subst hne
     have hsame:=fun w=>bx_same b.x1 b.x2 b.y1 b.y2 b.id w
     clear HV
     go_upto_region 4 with fail
     go_quiet (fail)
     clear c0 c1 c2 c3 c4 d0 d1 d2 d3 d4
     go_wp2_with fail
     go_roundg (n - (i+1))
     case measure=>have:=HI.out;have:=HLT.out;omega
     case rel=>exact ⟨i+1,by have:=HI.out;have:=HLT.out;omega,by have:=HLT.out;omega,by go_num,HU.out.drewN _,same_step HP.out HLT.out.2.2.1 HLT.out.2.2.2⟩
    ·have HNE:=Lib.hid (same_no HLT.out.2.2.1 HLT.out.2.2.2 hne)
     have hdiff:=fun w=>bx_ne (h:=show (⟨b.x1,b.x2,b.y1,b.y2,b.id⟩:Bx)≠⟨b'.x1,b'.x2,b'.y1,b'.y2,b'.id⟩ from hne) w
     clear hne
     clear HV
     go_upto_region 4 with fail
     go_quiet (fail)
     clear c0 c1 c2 c3 c4 d0 d1 d2 d3 d4
     go_wp2_with fail
     go_ret
     exact ⟨_,rfl,HNE.out,HU.out.drewN _⟩
   ·have HS:=Lib.hid (same_end HN.out.1 HN.out.2 HP.out (.inr (by omega)) ⟨by omega,hi'⟩)
    obtain ⟨q,hq⟩:∃q,((n:Int)==(n':Int))=q:=⟨_,rfl⟩
    rw [hq] at HS
    clear hi hi' hu
    go_wp2_with fail
    go_ret
    exact ⟨_,rfl,HS.out,HU.out⟩
  ·have HS:=Lib.hid (same_end HN.out.1 HN.out.2 HP.out (.inl (by omega)) ⟨by omega,hi'⟩)
   obtain ⟨q,hq⟩:∃q,((n:Int)==(n':Int))=q:=⟨_,rfl⟩
   rw [hq] at HS
   clear hi hi' hu
   go_wp2_with fail
   go_ret
   exact ⟨_,rfl,HS.out,HU.out⟩
def NewPost (room:Int) (w:World) (e:Ending) (w':World):Prop:=
 Upd [] w w'∧if 1≤room∧room≤2147483648 then ∃h p s x,e=.returned (.tuple #[.pointer (some ⟨h,0,none⟩),.int .i64 0])∧MdAt w' h p s x ⟨room.toNat,[],[],[]⟩∧w.heap.size≤h∧w.heap.size≤p∧w.heap.size≤s∧w.heap.size≤x else e=.returned (.tuple #[.pointer none,.int .i64 2])
theorem ok_nil (room:Nat):Md.ok ⟨room,[],[],[]⟩:=⟨Asc.nil,Asc.nil,Asc.nil,by simp,by simp,by simp⟩
theorem newMC (room:Int) (w:World):Calls Tryz.prog 5 #[.int .i64 room] w (NewPost room w):=by
 have hmm:=@run_makeMap Tryz.prog
 by_cases h1:room<1
 ·have d1:decide (room<1)=true:=decide_eq_true h1
  have HN:=Lib.hid (show ¬(1≤room∧room≤2147483648) by omega)
  clear h1
  go_enter Tryz.func5,Tryz.ntmps5
  go_wp2_with fail
  refine bodyPost_ret (v:=.tuple #[.pointer none,.int .i64 2]) (by simp [results,Tryz.results5,go_sem]) rfl ?_
  unfold NewPost
  rw [if_neg HN.out]
  exact ⟨Upd.refl _ _,rfl⟩
 ·have d1:decide (room<1)=false:=decide_eq_false h1
  by_cases h2:2147483648<room
  ·have d2:decide (2147483648<room)=true:=decide_eq_true h2
   have HN:=Lib.hid (show ¬(1≤room∧room≤2147483648) by omega)
   clear h1 h2
   go_enter Tryz.func5,Tryz.ntmps5
   go_wp2_with fail
   refine bodyPost_ret (v:=.tuple #[.pointer none,.int .i64 2]) (by simp [results,Tryz.results5,go_sem]) rfl ?_
   unfold NewPost
   rw [if_neg HN.out]
   exact ⟨Upd.refl _ _,rfl⟩
  ·have d2:decide (2147483648<room)=false:=decide_eq_false h2
   have HN:=Lib.hid (show 1≤room∧room≤2147483648 by omega)
   clear h1 h2
   go_enter Tryz.func5,Tryz.ntmps5
   go_wp2_with fail
   refine bodyPost_ret (v:=.tuple #[.pointer (some ⟨w.heap.size+1+1+1,0,none⟩),.int .i64 0]) (by simp [results,Tryz.results5,go_sem]) rfl ?_
   unfold NewPost
   rw [if_pos HN.out]
   refine ⟨((((Upd.refl [] w).alloc _).alloc _).alloc _).alloc _,w.heap.size+1+1+1,w.heap.size,w.heap.size+1,w.heap.size+1+1,rfl,⟨?_,?_,?_,?_,ok_nil _,by omega,by omega,by omega⟩,by omega,by omega,by omega,by omega⟩
   ·have h:=heap_alloc_new (((w.alloc (.map #[] 0)).alloc (.map #[] 0)).alloc (.map #[] 0)) (.cells #[.int .i64 room,.map (some w.heap.size),.map (some (w.heap.size+1)),.map (some (w.heap.size+1+1))] 71)
    have e:((room.toNat:Nat):Int)=room:=by have:=HN.out;omega
    dsimp only
    rw [e]
    simpa using h
   ·exact (MapU.made MKP w).upd ((((Upd.refl [] _).alloc _).alloc _).alloc _) (by simp)
   ·have h:=(MapU.made MKS (w.alloc (.map #[] 0))).upd (((Upd.refl [] _).alloc (.map #[] 0)).alloc (.cells #[.int .i64 room,.map (some w.heap.size),.map (some (w.heap.size+1)),.map (some (w.heap.size+1+1))] 71)) (by simp)
    rw [World.size_alloc] at h
    exact h
   ·have h:=(MapU.made MKB ((w.alloc (.map #[] 0)).alloc (.map #[] 0))).upd ((Upd.refl [] _).alloc (.cells #[.int .i64 room,.map (some w.heap.size),.map (some (w.heap.size+1)),.map (some (w.heap.size+1+1))] 71)) (by simp)
    rw [World.size_alloc,World.size_alloc] at h
    exact h
theorem MdAt.cells {w:World} {h p s x:Nat} {m:Md} (g:MdAt w h p s x m):w.cell? ⟨h,0,none⟩=some (.int .i64 (m.room:Int))∧w.cell? ⟨h,1,none⟩=some (.map (some p))∧w.cell? ⟨h,2,none⟩=some (.map (some s))∧w.cell? ⟨h,3,none⟩=some (.map (some x)):=by
 have:=g.head
 simp [World.cell?,this]
theorem noneMC {w:World} {h p s x:Nat} {m:Md} (g:MdAt w h p s x m):Calls Tryz.prog 32 #[.pointer (some ⟨h,0,none⟩)] w fun e w'=>e=.returned (.bool false)∧w=w':=by
 obtain ⟨c0,c1,c2,c3⟩:=g.cells
 have hq:=run_eql_map_nil (P:=Tryz.prog) w 67 41 62 (some p) Tryz.underlying67
 rw [show (some p).isNone=false from rfl] at hq
 clear g
 go_enter Tryz.func32,Tryz.ntmps32
 go_wp2_with fail
 go_ret
 exact ⟨rfl,rfl⟩
theorem thePoints {w:World} {h p s x:Nat} {m:Md} (g:MdAt w h p s x m) (hl:m.ps.length<1000000):Calls Tryz.prog 11 #[.pointer (some ⟨h,0,none⟩)] w fun e w'=>∃A C,e=.returned (.slice A m.ps.length C)∧KPt.row w' w.heap.size (.slice A m.ps.length C) m.ps∧Upd [] w w':=by
 obtain ⟨c0,c1,c2,c3⟩:=g.cells
 have HA:=Lib.hid (allPC p m.ps w g.ps g.ok.ps g.ok.pi hl)
 have HG:=Lib.hid g
 clear g hl
 go_enter Tryz.func11,Tryz.ntmps11
 go_wp2_with (first
  |(go_at_call 32;refine (noneMC HG.out).mono ?_;rintro e w' ⟨rfl,rfl⟩)
  |(go_at_call 36;refine HA.out.mono ?_;rintro e w' ⟨A,C,rfl,hrow,hu⟩;have HR:=Lib.hid (And.intro hrow hu);clear hrow hu))
 go_ret
 exact ⟨A,C,rfl,HR.out.1,HR.out.2⟩
theorem theSpans {w:World} {h p s x:Nat} {m:Md} (g:MdAt w h p s x m) (hl:m.ss.length<1000000):Calls Tryz.prog 13 #[.pointer (some ⟨h,0,none⟩)] w fun e w'=>∃A C,e=.returned (.slice A m.ss.length C)∧KSp.row w' w.heap.size (.slice A m.ss.length C) m.ss∧Upd [] w w':=by
 obtain ⟨c0,c1,c2,c3⟩:=g.cells
 have HA:=Lib.hid (allSC s m.ss w g.ss g.ok.ss g.ok.si hl)
 have HG:=Lib.hid g
 clear g hl
 go_enter Tryz.func13,Tryz.ntmps13
 go_wp2_with (first
  |(go_at_call 32;refine (noneMC HG.out).mono ?_;rintro e w' ⟨rfl,rfl⟩)
  |(go_at_call 37;refine HA.out.mono ?_;rintro e w' ⟨A,C,rfl,hrow,hu⟩;have HR:=Lib.hid (And.intro hrow hu);clear hrow hu))
 go_ret
 exact ⟨A,C,rfl,HR.out.1,HR.out.2⟩
theorem theBoxes {w:World} {h p s x:Nat} {m:Md} (g:MdAt w h p s x m) (hl:m.bs.length<1000000):Calls Tryz.prog 15 #[.pointer (some ⟨h,0,none⟩)] w fun e w'=>∃A C,e=.returned (.slice A m.bs.length C)∧KBx.row w' w.heap.size (.slice A m.bs.length C) m.bs∧Upd [] w w':=by
 obtain ⟨c0,c1,c2,c3⟩:=g.cells
 have HA:=Lib.hid (allBC x m.bs w g.bs g.ok.bs g.ok.bi hl)
 have HG:=Lib.hid g
 clear g hl
 go_enter Tryz.func15,Tryz.ntmps15
 go_wp2_with (first
  |(go_at_call 32;refine (noneMC HG.out).mono ?_;rintro e w' ⟨rfl,rfl⟩)
  |(go_at_call 38;refine HA.out.mono ?_;rintro e w' ⟨A,C,rfl,hrow,hu⟩;have HR:=Lib.hid (And.intro hrow hu);clear hrow hu))
 go_ret
 exact ⟨A,C,rfl,HR.out.1,HR.out.2⟩
end Go.Proofs.YtkmnbodlciepaaaGreat
