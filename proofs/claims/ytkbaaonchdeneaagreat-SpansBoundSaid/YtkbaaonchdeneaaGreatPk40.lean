/- spans.tree: a bucket's trees. Half in memory, over api.Span. Printed by mkhg.py. -/
import Derived.Test.YtkbaaonchdeneaaGreatPk27
import Derived.Test.YtkbaaonchdeneaaGreatPk37
import Derived.Test.YtkbaaonchdeneaaGreatPkSpansTellP2
import Derived.Test.YtkbaaonchdeneaaGreatPk6
import Derived.Test.YtkbaaonchdeneaaGreatPk38
import Derived.Test.YtkbaaonchdeneaaGreatPk39
set_option maxHeartbeats 4000000
set_option maxRecDepth 100000
namespace Go.Proofs.YtkbaaonchdeneaaGreat.HSp
open Go.RowKit
abbrev TV:=Option Nat×Option Nat
def tp (o:Option Nat):Value:=.pointer (o.map fun b=>⟨b,0,none⟩)
def tq (o:Option Nat):Value:=.pointer (o.map fun b=>⟨b,0,none⟩)
def KT:Kind TV:={ T:=0,sT:=129,eT:=125,sz:=2,enc:=fun p=>[tp p.1,tq p.2],len:=fun _=>rfl,one:=fun p u hu=>by simp [tp,tq] at hu;rcases hu with rfl | rfl<;>rfl }
theorem info_tree:(Tryz.prog.info? 125).map (fun i=>(i.zero,i.size,i.bytes))=some (some (.agg #[.pointer none,.pointer none]),2,16):=by kernel_rfl
theorem info_span:(Tryz.prog.info? 62).map (fun i=>(i.zero,i.size,i.bytes))=some (some (.agg #[.int .i64 0,.int .i64 0,.int .u32 0]),3,24):=by kernel_rfl
theorem KT_set (P:List TV) (v:TV):∀k,k<P.length→KT.all (P.set k v)=((KT.all P).set (k*2) (tp v.1)).set (k*2+1) (tq v.2):=by
 induction P with
 |nil=>intro k hk;simp at hk
 |cons a P ih=>
  intro k hk
  have e:∀(b:TV) (Q:List TV),KT.all (b::Q)=tp b.1::tq b.2::KT.all Q:=fun b Q=>rfl
  cases k with
  |zero=>rw [List.set_cons_zero,e,e];rfl
  |succ k=>
   rw [List.set_cons_succ,e,e,ih k (by simpa using hk),show (k+1)*2=k*2+1+1 by omega]
   rfl
def IsTr (w:World) (p:TV) (l:Nat×List Sp) (F:List Nat):Prop:=
 ∃b c E F1 F2,p=(some b,some c)∧IsIvl w b F1 l.2 l.1∧IsSeg w c F2 E l.2∧E.length≤2*l.1∧F=F1++F2∧(∀x∈F1,x∉F2)
theorem IsTr.upd {w w':World} {p:TV} {l:Nat×List Sp} {F G:List Nat} (h:IsTr w p l F) (hu:Upd G w w') (hd:∀k∈F,k∉G):IsTr w' p l F:=by
 obtain ⟨b,c,E,F1,F2,h1,h2,h3,h4,rfl,h5⟩:=h
 exact ⟨b,c,E,F1,F2,h1,h2.upd hu (fun k hk=>hd k (by simp [hk])),h3.upd hu (fun k hk=>hd k (by simp [hk])),h4,rfl,h5⟩
theorem IsTr.lt {w:World} {p:TV} {l:Nat×List Sp} {F:List Nat} (h:IsTr w p l F):∀k∈F,k<w.heap.size:=by
 obtain ⟨b,c,E,F1,F2,h1,h2,h3,h4,rfl,h5⟩:=h
 intro k hk
 rcases List.mem_append.1 hk with hk | hk
 ·exact h2.flt k hk
 ·exact h3.flt k hk
theorem IsTr.some {w:World} {p:TV} {l:Nat×List Sp} {F:List Nat} (h:IsTr w p l F):∃b c,p=(some b,some c):=by
 obtain ⟨b,c,E,F1,F2,h1,_⟩:=h
 exact ⟨b,c,h1⟩
structure Good (l:List Sp):Prop where
 right:rightS l=true
 in64:∀s∈l,s.in64
theorem Good.sub {l m:List Sp} (h:Good m) (hs:l.Sublist m):Good l:=by
 obtain ⟨h1,h2⟩:=rightS_iff.1 h.right
 exact ⟨rightS_iff.2 ⟨fun s hl=>h1 s (hs.subset hl),h2.sublist (hs.map _)⟩,fun s hl=>h.in64 s (hs.subset hl)⟩
theorem buildT (v:Value) (l:List Sp) (w:World) (h:See KSp w v l) (hg:Good l) (hl:l.length≤1000) :
 Calls Tryz.prog 79 #[v] w fun e w'=>∃b c F,e=.returned (.agg #[.pointer (some ⟨b,0,none⟩),.pointer (some ⟨c,0,none⟩)])∧IsTr w' (some b,some c) (l.length,l) F∧(∀k∈F,w.heap.size≤k)∧Upd [] w w':=by
 obtain ⟨A,C,rfl⟩:=h.form
 have hid:∀s∈l,s.id<4294967296:=fun s hs=>(hg.in64 s hs).2.2
 have hb1:=fun (w9:World) (hu:Upd [] w w9)=>ivlBuildOk _ l w9 (h.upd0 hu) hid hl hg.right
 have hb2:=fun (w9:World) (hu:Upd [] w w9)=>segBuildOk _ l w9 (h.upd0 hu) hid hl hg.right
 have hel:=endsS_len l
 have HB1:=Lib.hid hb1
 have HB2:=Lib.hid hb2
 have HEL:=Lib.hid hel
 obtain ⟨n,hn⟩:∃n,l.length=n:=⟨_,rfl⟩
 rw [hn] at HB1 HB2 HEL ⊢
 clear hb1 hb2 hel h hid hg hl hn
 obtain ⟨W,hW,hu,h0,h1⟩:=two_newC w #[.pointer none,.pointer none] #[.pointer none,.pointer none] 125 125
 have HW:=Lib.hid hW
 have HU:=Lib.hid hu
 have H0:=Lib.hid h0
 have H1:=Lib.hid h1
 clear hW hu h0 h1
 go_enter Tryz.func79,Tryz.ntmps79
 go_upto_region 2 with fail
 rw [←HW.out]
 clear HW
 obtain ⟨q1,hq1⟩:∃q,w.heap.size+1=q:=⟨_,rfl⟩
 obtain ⟨q0,hq0⟩:∃q,w.heap.size=q:=⟨_,rfl⟩
 rw [hq1] at H1
 rw [hq0] at H0
 rw [hq1,hq0]
 have HQ:=Lib.hid (And.intro hq0 hq1)
 clear hq0 hq1
 go_wp2_with fail
 (with_reducible refine (HB1.out _ HU.out).mono ?_)
 rintro e w1 ⟨hu1,b,F1,rfl,hi,hF1⟩
 have hf:=(H1.out.upd0 hu1).frozen 0
 obtain ⟨z0,z1⟩:=(H1.out.upd0 hu1).cells2
 have hs:=(H1.out.upd0 hu1).set 0 (.pointer (some ⟨b,0,none⟩))
 have hup:Upd [q1] w1 (w1.setCell ⟨q1,0,none⟩ (.pointer (some ⟨b,0,none⟩))):=(Upd.refl _ _).setCell (p:=⟨q1,0,none⟩) (.inl (by simp)) _
 have hi2:=hi.upd hup (fun k hk hc=>by have:=hF1 k hk;have:=H1.out.lt;have:=HU.out.size;simp at hc;omega)
 have HI:=Lib.hid (And.intro hi2 (And.intro hF1 hi))
 have HU2:=Lib.hid ((HU.out.trans hu1).trans' hup (fun k hk=>.inr (by have:=HQ.out;simp at hk;omega)))
 have H02:=Lib.hid ((H0.out.upd0 hu1).upd hup (by have:=HQ.out;simp;omega))
 have HS:=Lib.hid hs
 clear hu1 hi hF1 hs hup hi2
 go_upto_region 3 with fail
 generalize (w1.setCell ⟨q1,0,none⟩ (.pointer (some ⟨b,0,none⟩)))=w2 at HI HU2 H02 HS ⊢
 clear z0 z1 hf
 go_wp2_with fail
 (with_reducible refine (HB2.out _ HU2.out).mono ?_)
 rintro e w3 ⟨hu3,c,F2,rfl,hs3,hF2⟩
 have hs1:HcC w3 q1 #[.pointer (some ⟨b,0,none⟩),.pointer none] 125:=HS.out.upd0 hu3
 have hf:=hs1.frozen 1
 obtain ⟨z0,z1⟩:=hs1.cells2
 have hs2:HcC (w3.setCell ⟨q1,1,none⟩ (.pointer (some ⟨c,0,none⟩))) q1 #[.pointer (some ⟨b,0,none⟩),.pointer (some ⟨c,0,none⟩)] 125:=hs1.set 1 (.pointer (some ⟨c,0,none⟩))
 have hup:Upd [q1] w3 (w3.setCell ⟨q1,1,none⟩ (.pointer (some ⟨c,0,none⟩))):=(Upd.refl _ _).setCell (p:=⟨q1,1,none⟩) (.inl (by simp)) _
 have hsg:=hs3.upd hup (fun k hk hc=>by have:=hF2 k hk;have:=HS.out.lt;simp at hc;omega)
 have hiv:=(HI.out.1.upd0 hu3).upd hup (fun k hk hc=>by have:=HI.out.2.1 k hk;have:=H1.out.lt;simp at hc;omega)
 have hap:∀x∈F1,x∉F2:=fun x hx hc=>by have:=HI.out.1.flt x hx;have:=hF2 x hc;omega
 have hge:∀k∈F1++F2,w.heap.size≤k:=fun k hk=>by
  have h1:=HU.out.size
  have h2:=HU2.out.size
  rcases List.mem_append.1 hk with hk | hk
  ·have:=HI.out.2.1 k hk;omega
  ·have:=hF2 k hk;omega
 have HNQ:=Lib.hid (show q0∉F2 from fun hc=>by have:=hF2 _ hc;have:=H02.out.lt;omega)
 have HT:=Lib.hid (show IsTr (w3.setCell ⟨q1,1,none⟩ (.pointer (some ⟨c,0,none⟩))) (some b,some c) (n,l) (F1++F2) from ⟨b,c,endsS l,F1,F2,rfl,hiv,hsg,HEL.out,rfl,hap⟩)
 have HGE:=Lib.hid hge
 have HU4:=Lib.hid ((HU2.out.trans hu3).trans' hup (fun k hk=>.inr (by have:=HQ.out;simp at hk;omega)))
 have H04:=Lib.hid ((H02.out.upd0 hu3).upd hup (by have:=HQ.out;simp;omega))
 have HS4:=Lib.hid hs2
 clear hu3 hs3 hF2 hs1 hs2 hup hsg hiv hap hge
 go_upto_region 4 with fail
 generalize (w3.setCell ⟨q1,1,none⟩ (.pointer (some ⟨c,0,none⟩)))=w4 at HT HU4 H04 HS4 ⊢
 clear z0 z1 hf
 obtain ⟨z0,z1⟩:=HS4.out.cells2
 obtain ⟨y0,y1⟩:=H04.out.cells2
 have f0:=H04.out.frozen 0
 have f1:=H04.out.frozen 1
 have h5:HcC ((w4.setCell ⟨q0,0,none⟩ (.pointer (some ⟨b,0,none⟩))).setCell ⟨q0,1,none⟩ (.pointer (some ⟨c,0,none⟩))) q0 #[.pointer (some ⟨b,0,none⟩),.pointer (some ⟨c,0,none⟩)] 125:=(H04.out.set 0 (.pointer (some ⟨b,0,none⟩))).set 1 (.pointer (some ⟨c,0,none⟩))
 have hu5:Upd [q0] w4 ((w4.setCell ⟨q0,0,none⟩ (.pointer (some ⟨b,0,none⟩))).setCell ⟨q0,1,none⟩ (.pointer (some ⟨c,0,none⟩))):=((Upd.refl _ _).setCell (p:=⟨q0,0,none⟩) (.inl (by simp)) _).setCell (p:=⟨q0,1,none⟩) (.inl (by simp)) _
 have HF5:=Lib.hid (And.intro h5 hu5)
 clear h5 hu5
 go_wp2_with fail
 clear z0 z1 y0 y1
 obtain ⟨z0,z1⟩:=HF5.out.1.cells2
 have hq:q0∉F1++F2:=fun hc=>by
  rcases List.mem_append.1 hc with hc | hc
  ·have:=HI.out.2.1 _ hc;have:=H1.out.lt;have:=HQ.out;omega
  ·exact absurd hc HNQ.out
 exact bodyPost_ret (v:=.agg #[.pointer (some ⟨b,0,none⟩),.pointer (some ⟨c,0,none⟩)]) (by simp [results,Tryz.results79,go_sem,z0,z1]) rfl ⟨b,c,F1++F2,rfl,HT.out.upd HF5.out.2 (fun k hk hc=>by simp at hc;subst hc;exact hq hk),HGE.out,HU4.out.trans' HF5.out.2 (fun k hk=>.inr (by have:=HQ.out;simp at hk;omega))⟩
def DropT (w:World) (b c:Nat) (l:Nat×List Sp) (F:List Nat) (x:Sp) (e:Ending) (w':World):Prop:=∃r,e=.returned (.bool r)∧IsTr w' (some b,some c) (l.1,l.2.erase x) F∧Upd F w w'
theorem without_erase {S:List Sp} (h:S.Nodup) (x:Sp):without S x=S.erase x:=by
 rw [h.erase_eq_filter]
 unfold without
 refine List.filter_congr fun s _=>?_
 by_cases e:s=x<;>simp [e]
theorem dropT (w:World) (b c:Nat) (l:Nat×List Sp) (F:List Nat) (x:Sp) (h:IsTr w (some b,some c) l F) :
 Calls Tryz.prog 80 #[.agg #[.pointer (some ⟨b,0,none⟩),.pointer (some ⟨c,0,none⟩)],spV x] w (DropT w b c l F x):=by
 obtain ⟨b',c',E,F1,F2,e0,hi,hs,hE,rfl,hap⟩:=h
 cases e0
 have hw:=without_erase (nodup_of_names hi.names) x
 obtain ⟨W,hW,hu,h0,h1⟩:=two_newC w #[.pointer (some ⟨b,0,none⟩),.pointer (some ⟨c,0,none⟩)] #[.int .i64 x.lo,.int .i64 x.hi,.int .u32 (x.id:Int)] 125 62
 have hd1:=isDrop (hs.upd0 hu) x
 unfold IsDrop at hd1
 have HD1:=Lib.hid hd1
 have HD2:=Lib.hid (fun (w9:World) (g:IsIvl w9 b F1 l.2 l.1)=>vDrop g x)
 have HI:=Lib.hid (hi.upd0 hu)
 have HE:=Lib.hid (And.intro hE (And.intro hap hw))
 have HLT:=Lib.hid (And.intro hi.flt hs.flt)
 have HW:=Lib.hid hW
 have HU:=Lib.hid hu
 have H0:=Lib.hid h0
 have H1:=Lib.hid h1
 clear hW hu h0 h1 hd1 hi hs hE hap hw
 unfold spV
 unfold spV at HD1 HD2
 go_enter Tryz.func80,Tryz.ntmps80
 go_upto_region 1 with fail
 rw [←HW.out]
 clear HW
 obtain ⟨q1,hq1⟩:∃q,w.heap.size+1=q:=⟨_,rfl⟩
 obtain ⟨q0,hq0⟩:∃q,w.heap.size=q:=⟨_,rfl⟩
 rw [hq1] at H1
 rw [hq0] at H0
 rw [hq1,hq0]
 have HQ:=Lib.hid (And.intro hq0 hq1)
 clear hq0 hq1
 obtain ⟨z0,z1⟩:=H0.out.cells2
 obtain ⟨y0,y1,y2⟩:=H1.out.cells3
 go_wp2_with fail
 (with_reducible refine HD1.out.mono ?_)
 rintro e w1 ⟨rfl,hs1,hu1⟩
 have n0:q0∉F2:=fun hc=>by have:=HLT.out.2 _ hc;have:=HQ.out;omega
 have n1:q1∉F2:=fun hc=>by have:=HLT.out.2 _ hc;have:=HQ.out;omega
 have hi1:=HI.out.upd hu1 HE.out.2.1
 obtain ⟨z0,z1⟩:=(H0.out.upd hu1 n0).cells2
 obtain ⟨y0,y1,y2⟩:=(H1.out.upd hu1 n1).cells3
 have HS1:=Lib.hid (And.intro hs1 hu1)
 have HI1:=Lib.hid hi1
 clear hs1 hu1 hi1 n0 n1
 go_wp2_with fail
 (with_reducible refine (HD2.out _ HI1.out).mono ?_)
 rintro e w2 ⟨rfl,hi2,hu2⟩
 have HI2:=Lib.hid (And.intro hi2 hu2)
 clear hi2 hu2
 go_wp2_with fail
 go_ret
 refine ⟨_,rfl,⟨b,c,E,F1,F2,rfl,?_,?_,HE.out.1,rfl,HE.out.2.1⟩,?_⟩
 ·rw [←HE.out.2.2];exact HI2.out.1
 ·rw [←HE.out.2.2];exact HS1.out.1.upd HI2.out.2 (fun k hk hc=>HE.out.2.1 k hc hk)
 ·exact ((HU.out.mono (by simp)).trans (HS1.out.2.mono fun k hk=>.inl (by simp [hk]))).trans (HI2.out.2.mono fun k hk=>.inl (by simp [hk]))
end Go.Proofs.YtkbaaonchdeneaaGreat.HSp
namespace Go.Proofs.YtkbaaonchdeneaaGreat.HSp
open Go.RowKit
def Disj (A B:List Nat):Prop:=∀x∈A,x∉B
theorem Disj.symm {A B:List Nat} (h:Disj A B):Disj B A:=fun x hx hc=>h x hc hx
theorem pw_at {Ps:List (List Nat)} (h:Ps.Pairwise Disj) {i j:Nat} {G H:List Nat} (hi:Ps[i]? = some G) (hj:Ps[j]? = some H) (hne:i≠j):Disj G H:=by
 rw [List.pairwise_iff_getElem] at h
 obtain ⟨li,ei⟩:=List.getElem?_eq_some_iff.1 hi
 obtain ⟨lj,ej⟩:=List.getElem?_eq_some_iff.1 hj
 rcases Nat.lt_or_gt_of_ne hne with h3 | h3
 ·have:=h i j li lj h3
  rwa [ei,ej] at this
 ·have:=h j i lj li h3
  rw [ei,ej] at this
  exact this.symm
theorem pw_set {Ps:List (List Nat)} (h:Ps.Pairwise Disj) {N:Nat} (hlt:∀P∈Ps,∀x∈P,x<N) {i:Nat} {G G':List Nat} (hi:Ps[i]? = some G) (hG:∀x∈G',x∈G∨N≤x):(Ps.set i G').Pairwise Disj:=by
 have key:∀j,j<Ps.length→j≠i→∀(hj:j<Ps.length),Disj G' Ps[j]:=by
  intro j hj hne hj' x hx hc
  rcases hG x hx with h1 | h1
  ·exact pw_at h hi (List.getElem?_eq_getElem hj') (Ne.symm hne) x h1 hc
  ·have:=hlt _ (List.getElem_mem hj') x hc;omega
 rw [List.pairwise_iff_getElem] at h ⊢
 intro a b ha hb hab
 rw [List.length_set] at ha hb
 rw [List.getElem_set,List.getElem_set]
 split
 ·rename_i e1
  split
  ·omega
  ·exact key b hb (by omega) hb
 ·rename_i e1
  split
  ·exact (key a ha (by omega) ha).symm
  ·exact h a b ha hb hab
theorem pw_snoc {Ps:List (List Nat)} (h:Ps.Pairwise Disj):(Ps++[[]]).Pairwise Disj:=by
 rw [List.pairwise_append]
 refine ⟨h,by simp,fun a _ b hb=>?_⟩
 simp at hb
 subst hb
 intro x _
 simp
def fnBuild:Value:=.func (.func 79) #[] #[]
def fnDrop:Value:=.func (.func 80) #[] #[]
def boolRow (w:World) (v:Value) (l:List Bool):Prop:=w.ownsRow 0 4 1 v l.length (l.map .bool)
def natRow (w:World) (v:Value) (l:List Nat):Prop:=w.ownsRow 0 3 1 v l.length (l.map fun (n:Nat)=>.int .i64 (n:Int))
def ptrRow (w:World) (v:Value) (ps:List TV):Prop:=KT.row w 0 v ps
def parts (h:Nat) (Fc:List Nat) (tv av lvv:Value) (mb:Nat) (Fs:List (List Nat)):List (List Nat):=[h]::Fc::blk tv::blk av::blk lvv::[mb]::Fs
structure HalfAt (w:World) (h cb mb:Nat) (tv av lvv:Value) (ps:List TV) (Fc:List Nat) (Fs:List (List Nat)) (S:HS Sp):Prop where
 head:w.heap[h]? = some (.cells #[fnBuild,fnDrop,.pointer (some ⟨cb,0,none⟩),tv,av,lvv,.map (some mb)] 203 (0,0))
 car:IsCarry CSp.KI w cb Fc (setB S.cs) S.cs.length S.wk
 trow:ptrRow w tv ps
 arow:boolRow w av S.al
 lrow:natRow w lvv S.lv
 mapp:MSp.MapAt w mb S.mp
 plen:ps.length=S.tr.length
 flen:Fs.length=S.tr.length
 no:∀i:Nat,S.tr[i]? = some none→Fs[i]? = some []
 yes:∀(i:Nat) (l:Nat×List Sp),S.tr[i]? = some (some l)→∃p F,ps[i]? = some p∧Fs[i]? = some F∧IsTr w p l F
 apart:(parts h Fc tv av lvv mb Fs).Pairwise Disj
def IsHalf (w:World) (hv:Value) (F:List Nat) (S:HS Sp):Prop:=
 ∃h cb mb tv av lvv ps Fc Fs,hv=.pointer (some ⟨h,0,none⟩)∧HalfAt w h cb mb tv av lvv ps Fc Fs S∧F=(parts h Fc tv av lvv mb Fs).flatten
variable {w w':World} {h cb mb:Nat} {tv av lvv:Value} {ps:List TV} {Fc:List Nat} {Fs:List (List Nat)} {S:HS Sp}
theorem HalfAt.ltF (H:HalfAt w h cb mb tv av lvv ps Fc Fs S):∀F∈Fs,∀x∈F,x<w.heap.size:=by
 intro F hF x hx
 obtain ⟨i,hi⟩:=List.mem_iff_getElem?.1 hF
 have hl:i<S.tr.length:=by rw [←H.flen];exact (List.getElem?_eq_some_iff.1 hi).1
 cases ht:S.tr[i]? with
 |none=>rw [List.getElem?_eq_none_iff] at ht;omega
 |some o=>
  cases o with
  |none=>
   have:=H.no i ht
   rw [hi] at this
   cases this
   simp at hx
  |some l=>
   obtain ⟨p,F',_,hF',hb⟩:=H.yes i l ht
   rw [hi] at hF'
   cases hF'
   exact hb.lt x hx
theorem HalfAt.lt (H:HalfAt w h cb mb tv av lvv ps Fc Fs S):∀P∈parts h Fc tv av lvv mb Fs,∀x∈P,x<w.heap.size:=by
 intro P hP x hx
 simp only [parts,List.mem_cons] at hP
 rcases hP with rfl | rfl | rfl | rfl | rfl | rfl | hP
 ·simp at hx;subst hx;exact lt_of_block H.head
 ·exact H.car.lt x hx
 ·exact own_lt H.trow x hx
 ·exact own_lt H.arow x hx
 ·exact own_lt H.lrow x hx
 ·simp at hx;subst hx;exact H.mapp.lt
 ·exact H.ltF P hP x hx
theorem HalfAt.cell (H:HalfAt w h cb mb tv av lvv ps Fc Fs S):w.cell? ⟨h,0,none⟩=some fnBuild∧w.cell? ⟨h,1,none⟩=some fnDrop∧w.cell? ⟨h,2,none⟩=some (.pointer (some ⟨cb,0,none⟩))∧w.cell? ⟨h,3,none⟩=some tv∧w.cell? ⟨h,4,none⟩=some av∧
 w.cell? ⟨h,5,none⟩=some lvv∧w.cell? ⟨h,6,none⟩=some (.map (some mb))∧∀j,w.frozen? ⟨h,j,none⟩=false:=by
 refine ⟨?_,?_,?_,?_,?_,?_,?_,fun j=>frozen_of_row w h j _ _ H.head⟩<;>simp [World.cell?,H.head]
theorem HalfAt.bags (H:HalfAt w h cb mb tv av lvv ps Fc Fs S) {G:List Nat} (hu:Upd G w w') (hd:∀F∈Fs,Disj F G):∀(i:Nat) (l:Nat×List Sp),S.tr[i]? = some (some l)→∃p F,ps[i]? = some p∧Fs[i]? = some F∧IsTr w' p l F:=by
 intro i l ht
 obtain ⟨p,F,h1,h2,h3⟩:=H.yes i l ht
 exact ⟨p,F,h1,h2,h3.upd hu (hd F (List.mem_of_getElem? h2))⟩
theorem HalfAt.upd (H:HalfAt w h cb mb tv av lvv ps Fc Fs S) {G:List Nat} (hu:Upd G w w') (hd:∀P∈parts h Fc tv av lvv mb Fs,Disj P G):HalfAt w' h cb mb tv av lvv ps Fc Fs S:=by
 have hp:∀P,P∈parts h Fc tv av lvv mb Fs→Disj P G:=hd
 simp only [parts,List.mem_cons] at hp
 refine ⟨(hu.block h (lt_of_block H.head) (hp [h] (by simp) h (by simp))).trans H.head,H.car.upd hu (hp Fc (by simp)),own_upd H.trow hu (hp _ (by simp)),own_upd H.arow hu (hp _ (by simp)),own_upd H.lrow hu (hp _ (by simp)),
  H.mapp.upd hu (hp [mb] (by simp) mb (by simp)),H.plen,H.flen,H.no,H.bags hu fun F hF=>hp F (by simp [hF]),H.apart⟩
theorem HalfAt.dis (H:HalfAt w h cb mb tv av lvv ps Fc Fs S) {i j:Nat} {P Q:List Nat} (hi:(parts h Fc tv av lvv mb Fs)[i]? = some P) (hj:(parts h Fc tv av lvv mb Fs)[j]? = some Q) (hne:i≠j):Disj P Q:=pw_at H.apart hi hj hne
theorem HalfAt.disF (H:HalfAt w h cb mb tv av lvv ps Fc Fs S) {i:Nat} {P:List Nat} (hi:i<6) (hP:(parts h Fc tv av lvv mb Fs)[i]? = some P):∀F∈Fs,Disj F P:=by
 intro F hF
 obtain ⟨j,hj⟩:=List.mem_iff_getElem?.1 hF
 exact H.dis (i:=j+6) (j:=i) (by simpa [parts] using hj) hP (by omega)
theorem HalfAt.carry (H:HalfAt w h cb mb tv av lvv ps Fc Fs S) {Fc':List Nat} {cs:List (Sp×Nat)} {wk:Nat} (hc:IsCarry CSp.KI w' cb Fc' (setB cs) cs.length wk) (hu:Upd Fc w w') (hF:∀x∈Fc',x∈Fc∨w.heap.size≤x) :
 HalfAt w' h cb mb tv av lvv ps Fc' Fs { S with cs:=cs,wk:=wk }:=by
 have d:∀(j:Nat) (Q:List Nat),j≠1→(parts h Fc tv av lvv mb Fs)[j]? = some Q→Disj Q Fc:=fun j Q hne hj=>H.dis hj (j:=1) rfl hne
 refine ⟨(hu.block h (lt_of_block H.head) (d 0 [h] (by omega) rfl h (by simp))).trans H.head,hc,own_upd H.trow hu (d 2 _ (by omega) rfl),own_upd H.arow hu (d 3 _ (by omega) rfl),own_upd H.lrow hu (d 4 _ (by omega) rfl),
  H.mapp.upd hu (d 5 [mb] (by omega) rfl mb (by simp)),H.plen,H.flen,H.no,H.bags hu (H.disF (i:=1) (by omega) rfl),?_⟩
 exact pw_set (i:=1) H.apart H.lt rfl hF
theorem HalfAt.map (H:HalfAt w h cb mb tv av lvv ps Fc Fs S) {m:List (Sp×Int)} (hm:MSp.MapAt w' mb m) (hu:Upd [mb] w w'):HalfAt w' h cb mb tv av lvv ps Fc Fs { S with mp:=m }:=by
 have d:∀(j:Nat) (Q:List Nat),j≠5→(parts h Fc tv av lvv mb Fs)[j]? = some Q→Disj Q [mb]:=fun j Q hne hj=>H.dis hj (j:=5) rfl hne
 refine ⟨(hu.block h (lt_of_block H.head) (d 0 [h] (by omega) rfl h (by simp))).trans H.head,H.car.upd hu (d 1 _ (by omega) rfl),own_upd H.trow hu (d 2 _ (by omega) rfl),own_upd H.arow hu (d 3 _ (by omega) rfl),own_upd H.lrow hu (d 4 _ (by omega) rfl),
  hm,H.plen,H.flen,H.no,H.bags hu (H.disF (i:=5) (by omega) rfl),H.apart⟩
theorem HalfAt.dead (H:HalfAt w h cb mb tv av lvv ps Fc Fs S) {q n C:Nat} (ha:av=.slice (some ⟨q,0,none⟩) n C) (k:Nat) (b:Bool):HalfAt (w.setCell ⟨q,k,none⟩ (.bool b)) h cb mb tv av lvv ps Fc Fs { S with al:=S.al.set k b }:=by
 subst ha
 have hu:Upd [q] w (w.setCell ⟨q,k,none⟩ (.bool b)):=(Upd.refl _ _).setCell (p:=⟨q,k,none⟩) (.inl (by simp)) _
 have d:∀(j:Nat) (Q:List Nat),j≠3→(parts h Fc tv (.slice (some ⟨q,0,none⟩) n C) lvv mb Fs)[j]? = some Q→Disj Q [q]:=fun j Q hne hj=>H.dis hj (j:=3) rfl hne
 have hn:n=S.al.length:=by
  obtain ⟨A',C',he⟩:=own_form H.arow
  cases he;rfl
 subst hn
 refine ⟨(hu.block h (lt_of_block H.head) (d 0 [h] (by omega) rfl h (by simp))).trans H.head,H.car.upd hu (d 1 _ (by omega) rfl),own_upd H.trow hu (d 2 _ (by omega) rfl),?_,own_upd H.lrow hu (d 4 _ (by omega) rfl),
  H.mapp.upd hu (d 5 [mb] (by omega) rfl mb (by simp)),H.plen,H.flen,H.no,H.bags hu (H.disF (i:=3) (by omega) rfl),H.apart⟩
 have:=(World.ownsRow.stored H.arow k (.bool b)).1
 unfold boolRow
 rw [List.length_set,List.map_set]
 exact this
theorem HalfAt.lev (H:HalfAt w h cb mb tv av lvv ps Fc Fs S) {q n C:Nat} (ha:lvv=.slice (some ⟨q,0,none⟩) n C) (k t:Nat):HalfAt (w.setCell ⟨q,k,none⟩ (.int .i64 (t:Int))) h cb mb tv av lvv ps Fc Fs { S with lv:=S.lv.set k t }:=by
 subst ha
 have hu:Upd [q] w (w.setCell ⟨q,k,none⟩ (.int .i64 (t:Int))):=(Upd.refl _ _).setCell (p:=⟨q,k,none⟩) (.inl (by simp)) _
 have d:∀(j:Nat) (Q:List Nat),j≠4→(parts h Fc tv av (.slice (some ⟨q,0,none⟩) n C) mb Fs)[j]? = some Q→Disj Q [q]:=fun j Q hne hj=>H.dis hj (j:=4) rfl hne
 have hn:n=S.lv.length:=by
  obtain ⟨A',C',he⟩:=own_form H.lrow
  cases he;rfl
 subst hn
 refine ⟨(hu.block h (lt_of_block H.head) (d 0 [h] (by omega) rfl h (by simp))).trans H.head,H.car.upd hu (d 1 _ (by omega) rfl),own_upd H.trow hu (d 2 _ (by omega) rfl),own_upd H.arow hu (d 3 _ (by omega) rfl),?_,
  H.mapp.upd hu (d 5 [mb] (by omega) rfl mb (by simp)),H.plen,H.flen,H.no,H.bags hu (H.disF (i:=4) (by omega) rfl),H.apart⟩
 have:=(World.ownsRow.stored H.lrow k (.int .i64 (t:Int))).1
 unfold natRow
 rw [List.length_set,List.map_set]
 exact this
theorem HalfAt.bag (H:HalfAt w h cb mb tv av lvv ps Fc Fs S) {i:Nat} {p:TV} {l':Nat×List Sp} {F F':List Nat} (hp:ps[i]? = some p) (hF:Fs[i]? = some F) (hb:IsTr w' p l' F') (hu:Upd F w w') (hn:∀x∈F',x∈F∨w.heap.size≤x) :
 HalfAt w' h cb mb tv av lvv ps Fc (Fs.set i F') { S with tr:=S.tr.set i (some l') }:=by
 have hi:(parts h Fc tv av lvv mb Fs)[i+6]? = some F:=by simpa [parts] using hF
 have d:∀(j:Nat) (Q:List Nat),j<6→(parts h Fc tv av lvv mb Fs)[j]? = some Q→Disj Q F:=fun j Q hne hj=>H.dis hj hi (by omega)
 have hli:i<S.tr.length:=by rw [←H.flen];exact (List.getElem?_eq_some_iff.1 hF).1
 refine ⟨(hu.block h (lt_of_block H.head) (d 0 [h] (by omega) rfl h (by simp))).trans H.head,H.car.upd hu (d 1 _ (by omega) rfl),own_upd H.trow hu (d 2 _ (by omega) rfl),own_upd H.arow hu (d 3 _ (by omega) rfl),own_upd H.lrow hu (d 4 _ (by omega) rfl),
  H.mapp.upd hu (d 5 [mb] (by omega) rfl mb (by simp)),by rw [H.plen,List.length_set],by rw [List.length_set,H.flen,List.length_set],?_,?_,?_⟩
 ·intro j hj
  by_cases e:i=j
  ·subst e
   rw [List.getElem?_set_self hli] at hj
   cases hj
  ·rw [List.getElem?_set_ne e] at hj ⊢
   exact H.no j hj
 ·intro j l hj
  by_cases e:i=j
  ·subst e
   rw [List.getElem?_set_self hli] at hj
   cases hj
   exact ⟨p,F',hp,by rw [List.getElem?_set_self (by rw [H.flen];exact hli)],hb⟩
  ·rw [List.getElem?_set_ne e] at hj ⊢
   obtain ⟨p',F'',h1,h2,h3⟩:=H.yes j l hj
   exact ⟨p',F'',h1,h2,h3.upd hu (H.dis (i:=j+6) (by simpa [parts] using h2) hi (by omega))⟩
 ·have:=pw_set (i:=i+6) H.apart H.lt hi hn
  simpa [parts] using this
theorem HalfAt.tree (H:HalfAt w h cb mb tv av lvv ps Fc Fs S) {q n C:Nat} (ht:tv=.slice (some ⟨q,0,none⟩) n C) {i:Nat} (hi:i<S.tr.length) {p:TV} {F:List Nat} (ol:Option (Nat×List Sp))
 (hp:(ol=none∧F = [])∨∃l,ol=some l∧IsTr w p l F) (hF:∀P∈parts h Fc tv av lvv mb Fs,Disj F P) :
 HalfAt ((w.setCell ⟨q,i*2,none⟩ (tp p.1)).setCell ⟨q,i*2+1,none⟩ (tq p.2)) h cb mb tv av lvv (ps.set i p) Fc (Fs.set i F) { S with tr:=S.tr.set i ol }:=by
 subst ht
 have hu:Upd [q] w ((w.setCell ⟨q,i*2,none⟩ (tp p.1)).setCell ⟨q,i*2+1,none⟩ (tq p.2)):=((Upd.refl _ _).setCell (p:=⟨q,i*2,none⟩) (.inl (by simp)) _).setCell (p:=⟨q,i*2+1,none⟩) (.inl (by simp)) _
 have d:∀(j:Nat) (Q:List Nat),j≠2→(parts h Fc (.slice (some ⟨q,0,none⟩) n C) av lvv mb Fs)[j]? = some Q→Disj Q [q]:=fun j Q hne hj=>H.dis hj (j:=2) rfl hne
 have hn:n=ps.length:=by
  obtain ⟨A',C',he⟩:=own_form H.trow
  cases he;rfl
 subst hn
 have hF2:Disj F [q]:=by
  have:=hF (blk (.slice (some ⟨q,0,none⟩) ps.length C)) (by simp [parts])
  simpa [blk] using this
 refine ⟨(hu.block h (lt_of_block H.head) (d 0 [h] (by omega) rfl h (by simp))).trans H.head,H.car.upd hu (d 1 _ (by omega) rfl),?_,own_upd H.arow hu (d 3 _ (by omega) rfl),own_upd H.lrow hu (d 4 _ (by omega) rfl),
  H.mapp.upd hu (d 5 [mb] (by omega) rfl mb (by simp)),by rw [List.length_set,H.plen,List.length_set],by rw [List.length_set,H.flen,List.length_set],?_,?_,?_⟩
 ·have h1:=(World.ownsRow.stored H.trow (i*2) (tp p.1)).1
  have h2:=(World.ownsRow.stored h1 (i*2+1) (tq p.2)).1
  unfold ptrRow Kind.row
  rw [List.length_set,KT_set ps p i (by rw [H.plen];exact hi)]
  exact h2
 ·intro j hj
  by_cases e:i=j
  ·subst e
   rw [List.getElem?_set_self hi] at hj
   rw [List.getElem?_set_self (by rw [H.flen];exact hi)]
   rcases hp with ⟨_,h2⟩ | ⟨l,h2,_⟩
   ·rw [h2]
   ·rw [h2] at hj;cases hj
  ·rw [List.getElem?_set_ne e] at hj ⊢
   exact H.no j hj
 ·intro j l hj
  by_cases e:i=j
  ·subst e
   rw [List.getElem?_set_self hi] at hj
   rcases hp with ⟨h2,_⟩ | ⟨l',h2,h3⟩
   ·rw [h2] at hj;cases hj
   ·rw [h2] at hj
    cases hj
    exact ⟨p,F,by rw [List.getElem?_set_self (by rw [H.plen];exact hi)],by rw [List.getElem?_set_self (by rw [H.flen];exact hi)],h3.upd hu hF2⟩
  ·rw [List.getElem?_set_ne e] at hj ⊢
   rw [List.getElem?_set_ne e]
   obtain ⟨p',F'',h1,h2,h3⟩:=H.yes j l hj
   exact ⟨p',F'',h1,h2,h3.upd hu (d (j+6) _ (by omega) (by simpa [parts] using h2))⟩
 ·have h0:=H.apart
  have key:∀j (hj:j<(parts h Fc (.slice (some ⟨q,0,none⟩) ps.length C) av lvv mb Fs).length),Disj F (parts h Fc (.slice (some ⟨q,0,none⟩) ps.length C) av lvv mb Fs)[j]:=fun j hj=>hF _ (List.getElem_mem hj)
  have hset:parts h Fc (.slice (some ⟨q,0,none⟩) ps.length C) av lvv mb (Fs.set i F)=(parts h Fc (.slice (some ⟨q,0,none⟩) ps.length C) av lvv mb Fs).set (i+6) F:=by simp [parts]
  rw [hset]
  rw [List.pairwise_iff_getElem] at h0 ⊢
  intro a b ha hb hab
  rw [List.length_set] at ha hb
  rw [List.getElem_set,List.getElem_set]
  split
  ·split
   ·omega
   ·exact key b hb
  ·split
   ·exact (key a ha).symm
   ·exact h0 a b ha hb hab
theorem pw_put {Ps:List (List Nat)} (h:Ps.Pairwise Disj) {i:Nat} {G':List Nat} (hG:∀j (hj:j<Ps.length),j≠i→Disj G' Ps[j]):(Ps.set i G').Pairwise Disj:=by
 rw [List.pairwise_iff_getElem] at h ⊢
 intro a b ha hb hab
 rw [List.length_set] at ha hb
 rw [List.getElem_set,List.getElem_set]
 split
 ·split
  ·omega
  ·exact hG b hb (by omega)
 ·split
  ·exact (hG a ha (by omega)).symm
  ·exact h a b ha hb hab
theorem own_apart {w:World} {b1 b2:Nat} {e1 e2:TypeId} {s1 s2:Nat} {v1 v2:Value} {n1 n2:Nat} {x1 x2:List Value} (h1:w.ownsRow b1 e1 s1 v1 n1 x1) (h2:w.ownsRow b2 e2 s2 v2 n2 x2) (hne:e1≠e2):Disj (blk v1) (blk v2):=by
 intro x hx hc
 rcases h1.2 with ⟨rfl,_⟩ | ⟨g1,c1,k1,rfl,_,g,_⟩
 ·simp [blk] at hx
 ·rcases h2.2 with ⟨rfl,_⟩ | ⟨g2,c2,k2,rfl,_,g',_⟩
  ·simp [blk] at hc
  ·simp [blk] at hx hc
   subst hx
   rw [hc] at g
   rw [g] at g'
   injection g' with g'
   injection g' with g1 g2
   exact hne g2
variable {w w':World} {h cb mb:Nat} {tv av lvv:Value} {ps:List TV} {Fc:List Nat} {Fs:List (List Nat)} {S:HS Sp}
theorem own_at {w:World} {b:Nat} {e:TypeId} {A:Option Addr} {n m C:Nat} {xs:List Value} (h:w.ownsRow b e 1 (.slice A m C) n xs) {k:Nat} (hk:k<n) {u:Value} (hu:xs[k]? = some u) :
 ∃q,A=some ⟨q,0,none⟩∧w.cell? ⟨q,k,none⟩=some u∧w.frozen? ⟨q,k,none⟩=false∧n≤C∧q<w.heap.size:=by
 obtain ⟨q,cap,he,_,hlt⟩:=World.ownsRow.form h (by omega)
 cases he
 refine ⟨q,rfl,?_,World.ownsRow.frozenAt h k,?_,hlt⟩
 ·have:=World.ownsRow.cells h (g:=q) rfl k u hu
  rwa [addr_add,Nat.zero_add] at this
 ·rcases h.2 with ⟨h0,_⟩ | ⟨g',cap,cur,h0,_,_,h5,_⟩
  ·cases h0
  ·cases h0;exact h5
theorem HalfAt.trees (H:HalfAt w h cb mb tv av lvv ps Fc Fs S) {tv':Value} {ps':List TV} {Fs':List (List Nat)} {tr':List (Option (Nat×List Sp))} (hu:Upd (h::blk tv) w w')
 (hh:w'.heap[h]? = some (.cells #[fnBuild,fnDrop,.pointer (some ⟨cb,0,none⟩),tv',av,lvv,.map (some mb)] 203 (0,0)))
 (ht:ptrRow w' tv' ps') (hb:∀x∈blk tv',x∈blk tv∨w.heap.size≤x) (hp:ps'.length=tr'.length) (hf:Fs'.length=tr'.length) (h0:∀i:Nat,tr'[i]? = some none→Fs'[i]? = some [])
 (hy:∀(i:Nat) (l:Nat×List Sp),tr'[i]? = some (some l)→S.tr[i]? = some (some l)∧ps'[i]? = ps[i]?∧Fs'[i]? = Fs[i]?) (ha:(parts h Fc tv av lvv mb Fs').Pairwise Disj) (hs:∀F∈Fs',∀x∈F,x<w.heap.size) :
 HalfAt w' h cb mb tv' av lvv ps' Fc Fs' { S with tr:=tr' }:=by
 have d:∀(j:Nat) (Q:List Nat),j≠0→j≠2→(parts h Fc tv av lvv mb Fs)[j]? = some Q→Disj Q (h::blk tv):=by
  intro j Q h0 h2 hj x hx hc
  rcases List.mem_cons.1 hc with rfl | hc
  ·exact H.dis hj (j:=0) rfl h0 x hx (by simp)
  ·exact H.dis hj (j:=2) rfl h2 x hx hc
 have ltp:∀P∈parts h Fc tv av lvv mb Fs',∀x∈P,x<w.heap.size:=by
  intro P hP x hx
  simp only [parts,List.mem_cons] at hP
  rcases hP with e | e | e | e | e | e | hP
  ·exact H.lt P (by simp [parts,e]) x hx
  ·exact H.lt P (by simp [parts,e]) x hx
  ·exact H.lt P (by simp [parts,e]) x hx
  ·exact H.lt P (by simp [parts,e]) x hx
  ·exact H.lt P (by simp [parts,e]) x hx
  ·exact H.lt P (by simp [parts,e]) x hx
  ·exact hs P hP x hx
 refine ⟨hh,H.car.upd hu (d 1 _ (by omega) (by omega) rfl),ht,own_upd H.arow hu (d 3 _ (by omega) (by omega) rfl),own_upd H.lrow hu (d 4 _ (by omega) (by omega) rfl),
  H.mapp.upd hu (d 5 [mb] (by omega) (by omega) rfl mb (by simp)),hp,hf,h0,?_,pw_set (i:=2) ha ltp rfl hb⟩
 intro i l hi
 obtain ⟨e1,e2,e3⟩:=hy i l hi
 obtain ⟨p,F,f1,f2,f3⟩:=H.yes i l e1
 exact ⟨p,F,by rw [e2];exact f1,by rw [e3];exact f2,f3.upd hu (d (i+6) _ (by omega) (by omega) (by simpa [parts] using f2))⟩
theorem HalfAt.rows (H:HalfAt w h cb mb tv av lvv ps Fc Fs S) {av' lv':Value} {al:List Bool} {lv:List Nat} (hu:Upd (h::(blk av++blk lvv)) w w')
 (hh:w'.heap[h]? = some (.cells #[fnBuild,fnDrop,.pointer (some ⟨cb,0,none⟩),tv,av',lv',.map (some mb)] 203 (0,0)))
 (ha:boolRow w' av' al) (hl:natRow w' lv' lv) (hba:∀x∈blk av',x∈blk av∨w.heap.size≤x) (hbl:∀x∈blk lv',x∈blk lvv∨w.heap.size≤x) :
 HalfAt w' h cb mb tv av' lv' ps Fc Fs { S with al:=al,lv:=lv }:=by
 have d:∀(j:Nat) (Q:List Nat),j≠0→j≠3→j≠4→(parts h Fc tv av lvv mb Fs)[j]? = some Q→Disj Q (h::(blk av++blk lvv)):=by
  intro j Q h0 h3 h4 hj x hx hc
  rcases List.mem_cons.1 hc with rfl | hc
  ·exact H.dis hj (j:=0) rfl h0 x hx (by simp)
  ·rcases List.mem_append.1 hc with hc | hc
   ·exact H.dis hj (j:=3) rfl h3 x hx hc
   ·exact H.dis hj (j:=4) rfl h4 x hx hc
 refine ⟨hh,H.car.upd hu (d 1 _ (by omega) (by omega) (by omega) rfl),own_upd H.trow hu (d 2 _ (by omega) (by omega) (by omega) rfl),ha,hl,H.mapp.upd hu (d 5 [mb] (by omega) (by omega) (by omega) rfl mb (by simp)),H.plen,H.flen,H.no,?_,?_⟩
 ·intro i l hi
  obtain ⟨p,F,f1,f2,f3⟩:=H.yes i l hi
  exact ⟨p,F,f1,f2,f3.upd hu (d (i+6) _ (by omega) (by omega) (by omega) (by simpa [parts] using f2))⟩
 ·have h1:((parts h Fc tv av lvv mb Fs).set 3 (blk av')).Pairwise Disj:=pw_set H.apart H.lt rfl hba
  have h2:(((parts h Fc tv av lvv mb Fs).set 3 (blk av')).set 4 (blk lv')).Pairwise Disj:=by
   refine pw_put h1 fun j hj hne x hx hc=>?_
   rw [List.getElem_set] at hc
   split at hc
   ·exact own_apart hl ha (by decide) x hx hc
   ·rw [List.length_set] at hj
    rcases hbl x hx with g | g
    ·exact H.dis (i:=4) (j:=j) rfl (List.getElem?_eq_getElem hj) (Ne.symm hne) x g hc
    ·have:=H.lt _ (List.getElem_mem hj) x hc;omega
  simpa [parts] using h2
def HStep (w w':World) (hv:Value) (F:List Nat) (S:HS Sp):Prop:=∃F',IsHalf w' hv F' S∧Upd F w w'∧∀x∈F',x∈F∨w.heap.size≤x
theorem IsHalf.lt {hv:Value} {F:List Nat} (H:IsHalf w hv F S):∀x∈F,x<w.heap.size:=by
 obtain ⟨h,cb,mb,tv,av,lvv,ps,Fc,Fs,rfl,H,rfl⟩:=H
 intro x hx
 obtain ⟨P,hP,hx⟩:=List.mem_flatten.1 hx
 exact H.lt P hP x hx
theorem IsHalf.upd {hv:Value} {F G:List Nat} (H:IsHalf w hv F S) (hu:Upd G w w') (hd:∀x∈F,x∉G):IsHalf w' hv F S:=by
 obtain ⟨h,cb,mb,tv,av,lvv,ps,Fc,Fs,rfl,H,rfl⟩:=H
 exact ⟨h,cb,mb,tv,av,lvv,ps,Fc,Fs,rfl,H.upd hu fun P hP x hx=>hd x (List.mem_flatten.2 ⟨P,hP,hx⟩),rfl⟩
theorem HStep.refl {hv:Value} {F:List Nat} (H:IsHalf w hv F S):HStep w w hv F S:=⟨F,H,Upd.refl _ _,fun _ hx=>.inl hx⟩
theorem HStep.trans {w'':World} {hv:Value} {F:List Nat} {S':HS Sp} (H:HStep w w' hv F S) (K:∀F',IsHalf w' hv F' S→HStep w' w'' hv F' S'):HStep w w'' hv F S':=by
 obtain ⟨F',h1,h2,h3⟩:=H
 obtain ⟨F'',g1,g2,g3⟩:=K F' h1
 refine ⟨F'',g1,h2.trans' g2 h3,fun x hx=>?_⟩
 rcases g3 x hx with g | g
 ·exact h3 x g
 ·exact .inr (Nat.le_trans h2.size g)
theorem HStep.next {w'':World} {hv:Value} {F F1:List Nat} {S':HS Sp} (hu:Upd F w w') (hF:∀x∈F1,x∈F∨w.heap.size≤x) (K:HStep w' w'' hv F1 S'):HStep w w'' hv F S':=by
 obtain ⟨F'',g1,g2,g3⟩:=K
 refine ⟨F'',g1,hu.trans' g2 hF,fun x hx=>?_⟩
 rcases g3 x hx with g | g
 ·exact hF x g
 ·exact .inr (Nat.le_trans hu.size g)
theorem flat_set {Ps:List (List Nat)} {i:Nat} {G':List Nat} {x:Nat} (h:x∈(Ps.set i G').flatten):x∈Ps.flatten∨x∈G':=by
 obtain ⟨P,hP,hx⟩:=List.mem_flatten.1 h
 rcases List.mem_or_eq_of_mem_set hP with h1 | h1
 ·exact .inl (List.mem_flatten.2 ⟨P,h1,hx⟩)
 ·rw [h1] at hx;exact .inr hx
theorem mem_part {Ps:List (List Nat)} {i:Nat} {P:List Nat} {x:Nat} (hi:Ps[i]? = some P) (hx:x∈P):x∈Ps.flatten:=List.mem_flatten.2 ⟨P,List.mem_of_getElem? hi,hx⟩
theorem HStep.quiet {w'':World} {hv:Value} {F:List Nat} (H:HStep w w' hv F S) (hu:Upd [] w' w''):HStep w w'' hv F S:=
 H.trans fun F' h=>⟨F',h.upd hu (by simp),hu.mono (by simp),fun x hx=>.inl hx⟩
theorem tree_at {w:World} {A:Option Addr} {n C:Nat} {ps:List TV} (h:ptrRow w (.slice A n C) ps) {i:Nat} {p:TV} (hp:ps[i]? = some p) :
 ∃q,A=some ⟨q,0,none⟩∧w.cell? ⟨q,i*2,none⟩=some (tp p.1)∧w.cell? ⟨q,i*2+1,none⟩=some (tq p.2)∧(∀j,w.frozen? ⟨q,j,none⟩=false)∧q<w.heap.size:=by
 obtain ⟨hi,he⟩:=List.getElem?_eq_some_iff.1 hp
 obtain ⟨q,cap,hA,_,hlt⟩:=World.ownsRow.form h (by omega)
 cases hA
 have g:∀j u,(KT.enc p)[j]? = some u→w.cell? ⟨q,i*2+j,none⟩=some u:=fun j u hu=>by
  have h1:=KT.all_get ps i j hi u (by rw [he];exact hu)
  have h2:=World.ownsRow.cells h (g:=q) rfl _ _ h1
  rwa [addr_add,Nat.zero_add] at h2
 exact ⟨q,rfl,g 0 _ rfl,g 1 _ rfl,fun j=>World.ownsRow.frozenAt h j,hlt⟩
end Go.Proofs.YtkbaaonchdeneaaGreat.HSp
