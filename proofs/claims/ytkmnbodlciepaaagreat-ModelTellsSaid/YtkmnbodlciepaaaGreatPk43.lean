/- The document's numbers of two words, less 2^128 where they are too much: Sum, Less. The document's boxes: Counts, Both, one. The document's cells of some boxes: what each covers, less what is covered behind it, too. -/
import Derived.Lib.Zigzag
import Derived.Test.YtkmnbodlciepaaaGreatPk42
import Derived.Test.YtkmnbodlciepaaaGreatPk1
import Derived.Test.YtkmnbodlciepaaaGreatPk6
set_option maxHeartbeats 16000000
set_option maxRecDepth 100000
namespace Go.Proofs.YtkmnbodlciepaaaGreat
open Go.RowKit
def zh (z:Int):Int:=z / 18446744073709551616 % 18446744073709551616
def zl (z:Int):Int:=z % 18446744073709551616
def wideZ (z:Int):Value:=.agg #[.int .u64 (zh z),.int .u64 (zl z)]
theorem zh_bd (z:Int):0≤zh z∧zh z<18446744073709551616:=by unfold zh;omega
theorem zl_bd (z:Int):0≤zl z∧zl z<18446744073709551616:=by unfold zl;omega
theorem wideZ_nat {n:Nat} (h:W128 n):wideZ (n:Int)=wideV n:=by
 unfold W128 at h
 have e1:zh (n:Int)=((n / 18446744073709551616:Nat):Int):=by unfold zh;omega
 have e2:zl (n:Int)=((n % 18446744073709551616:Nat):Int):=by unfold zl;omega
 unfold wideZ wideV
 rw [e1,e2]
theorem z_sum (a b:Int):(zl a+zl b<18446744073709551616→zl (a+b)=zl a+zl b∧zh (a+b)=(zh a+zh b) % 18446744073709551616∧¬zl a+zl b<zl a)∧
 (¬zl a+zl b<18446744073709551616→zl (a+b)=zl a+zl b - 18446744073709551616∧zh (a+b)=((zh a+zh b) % 18446744073709551616+1) % 18446744073709551616):=by
 unfold zl zh
 constructor<;>intro h<;>refine ⟨?_,?_⟩<;>try omega
theorem z_not (b:Int):zl (-b - 1)=18446744073709551615 - zl b∧zh (-b - 1)=18446744073709551615 - zh b:=by
 unfold zl zh
 constructor<;>omega
theorem not_u64 (x:Int) (h0:0≤x) (h1:x<18446744073709551616):bits BinOp.xor IntKind.u64 IntKind.u64.max x=18446744073709551615 - x:=by
 obtain ⟨n,rfl⟩:∃n:Nat,x=(n:Int):=⟨x.toNat,by omega⟩
 have e2:IntKind.u64.max=((2 ^ 64 - 1:Nat):Int):=by decide
 rw [e2,bits_xor_u64_nat _ _ (by decide) (by omega),Lib.xor_ones64 _ (by omega)]
 omega
def ZAt (w:World) (p:Nat) (h l:Int):Prop:=w.heap[p]? = some (.cells #[.int .u64 h,.int .u64 l] 37 (0,0))
theorem ZAt.cells {w:World} {p:Nat} {h l:Int} (H:ZAt w p h l):w.cell? ⟨p,0,none⟩=some (.int .u64 h)∧w.cell? ⟨p,1,none⟩=some (.int .u64 l)∧∀j,w.frozen? ⟨p,j,none⟩=false:=by
 have h':w.heap[p]? = some (.cells #[.int .u64 h,.int .u64 l] 37 (0,0)):=H
 refine ⟨?_,?_,fun j=>?_⟩<;>simp [World.cell?,World.frozen?,h']
theorem ZAt.set0 {w:World} {p:Nat} {h l:Int} (H:ZAt w p h l) (x:Int):ZAt (w.setCell ⟨p,0,none⟩ (.int .u64 x)) p x l:=heap_set H 0 _
theorem ZAt.set1 {w:World} {p:Nat} {h l:Int} (H:ZAt w p h l) (x:Int):ZAt (w.setCell ⟨p,1,none⟩ (.int .u64 x)) p h x:=heap_set H 1 _
theorem ZAt.upd {F:List Nat} {w w':World} {p:Nat} {h l:Int} (H:ZAt w p h l) (hu:Upd F w w') (hp:p∉F):ZAt w' p h l:=by
 unfold ZAt at H ⊢
 rw [hu.block p (lt_of_block H) hp];exact H
theorem ZAt.new (w:World) (h l:Int):ZAt (w.alloc (.cells #[.int .u64 h,.int .u64 l] 37)) w.heap.size h l:=heap_alloc_new w _
theorem rsumZ (a b:Int) (w:World):Calls Tryz.prog 57 #[wideZ a,wideZ b] w fun e w'=>e=.returned (wideZ (a+b))∧Upd [] w w':=by
 have hz:=z_sum a b
 have b1:=zh_bd a
 have b2:=zl_bd a
 have b3:=zh_bd b
 have b4:=zl_bd b
 unfold wideZ
 obtain ⟨ah,hah⟩:∃x,zh a=x:=⟨_,rfl⟩
 obtain ⟨al,hal⟩:∃x,zl a=x:=⟨_,rfl⟩
 obtain ⟨bh,hbh⟩:∃x,zh b=x:=⟨_,rfl⟩
 obtain ⟨bl,hbl⟩:∃x,zl b=x:=⟨_,rfl⟩
 obtain ⟨ch,hch⟩:∃x,zh (a+b)=x:=⟨_,rfl⟩
 obtain ⟨cl,hcl⟩:∃x,zl (a+b)=x:=⟨_,rfl⟩
 rw [hah,hal,hbh,hbl,hch,hcl] at hz
 rw [hah] at b1
 rw [hal] at b2
 rw [hbh] at b3
 rw [hbl] at b4
 rw [hah,hal,hbh,hbl,hch,hcl]
 obtain ⟨h1,hh1⟩:∃x,(ah+bh) % 18446744073709551616=x:=⟨_,rfl⟩
 rw [hh1] at hz
 have y1:Value.int .u64 (IntKind.u64.wrap (ah+bh))=Value.int .u64 h1:=by rw [IntKind.wrap_u64,hh1]
 have y2:Value.int .u64 (IntKind.u64.wrap (al+bl))=Value.int .u64 cl:=by
  congr 1;rw [IntKind.wrap_u64]
  by_cases h:al+bl<18446744073709551616
  ·have:=(hz.1 h).1;omega
  ·have:=(hz.2 h).1;omega
 have y3:IntKind.u64.wrap (h1+1)=(h1+1) % 18446744073709551616:=IntKind.wrap_u64 _
 have HY:=Lib.hid (And.intro y1 y2)
 obtain ⟨p,hp⟩:∃p,w.heap.size=p:=⟨_,rfl⟩
 obtain ⟨W1,hW1⟩:∃W,w.alloc (.cells #[.int .u64 ah,.int .u64 al] 37)=W:=⟨_,rfl⟩
 obtain ⟨W2,hW2⟩:∃W,W1.alloc (.cells #[.int .u64 bh,.int .u64 bl] 37)=W:=⟨_,rfl⟩
 obtain ⟨W3,hW3⟩:∃W,W2.alloc (.cells #[.int .u64 0,.int .u64 0] 37)=W:=⟨_,rfl⟩
 obtain ⟨W4,hW4⟩:∃W,W3.alloc (.cells #[.int .u64 h1,.int .u64 cl] 37)=W:=⟨_,rfl⟩
 have s1:W1.heap.size=p+1:=by rw [←hW1,←hp];simp
 have s2:W2.heap.size=p+2:=by rw [←hW2];simp;omega
 have s3:W3.heap.size=p+3:=by rw [←hW3];simp;omega
 have u1:Upd [] w W1:=by rw [←hW1];exact (Upd.refl _ _).alloc _
 have u2:Upd [] W1 W2:=by rw [←hW2];exact (Upd.refl _ _).alloc _
 have u3:Upd [] W2 W3:=by rw [←hW3];exact (Upd.refl _ _).alloc _
 have u4:Upd [] W3 W4:=by rw [←hW4];exact (Upd.refl _ _).alloc _
 have n1:=ZAt.new w ah al
 have n2:=ZAt.new W1 bh bl
 have n3:=ZAt.new W2 0 0
 have n4:=ZAt.new W3 h1 cl
 rw [hW1,hp] at n1
 rw [hW2,s1] at n2
 rw [hW3,s2] at n3
 rw [hW4,s3] at n4
 replace n1:=n1.upd (u2.trans u3) (by simp)
 replace n2:=n2.upd u3 (by simp)
 have m1:=n1.upd u4 (by simp)
 have m3:=n3.upd u4 (by simp)
 obtain ⟨a0,a1,-⟩:=n1.cells
 obtain ⟨b0,b1',-⟩:=n2.cells
 have HM:=Lib.hid (And.intro m1 (And.intro m3 (And.intro n4 (((u1.trans u2).trans u3).trans u4))))
 have HP:=Lib.hid hp
 have HS3:=Lib.hid s3
 have HW:=Lib.hid (And.intro hW1 (And.intro hW2 (And.intro hW3 hW4)))
 clear hah hal hbh hbl hch hcl hW1 hW2 hW3 hW4 hp y1 y2 u1 u2 u3 u4 n1 n2 n3 n4 m1 m3 s1 s2 s3
 have HZ:=Lib.hid (And.intro hz (And.intro hh1 (And.intro b2 (And.intro b4 y3))))
 clear hz hh1 b1 b2 b3 b4 y3
 go_enter Tryz.func57,Tryz.ntmps57
 go_upto_region 1 with fail
 rw [HW.out.1,HW.out.2.1,HW.out.2.2.1,HP.out]
 have ep:p+1+1=p+2:=rfl
 rw [ep]
 go_upto_region 2 with fail
 rw [HY.out.1,HY.out.2,HW.out.2.2.2,HS3.out]
 obtain ⟨c0,c1,cf⟩:=HM.out.2.2.1.cells
 obtain ⟨a0',a1',-⟩:=HM.out.1.cells
 obtain ⟨r0,r1,rf⟩:=HM.out.2.1.cells
 have rf0:=rf 0
 have rf1:=rf 1
 have cf0:=cf 0
 clear a0 a1 b0 b1' cf rf
 by_cases hc:al+bl<18446744073709551616
 ·have h:=HZ.out.1.1 hc
  have d:decide (cl<al)=false:=decide_eq_false (by rw [h.1];exact h.2.2)
  have HCH:=Lib.hid (show h1=ch from h.2.1.symm)
  clear h hc
  go_wp2_with fail
  have HE:=Lib.hid (And.intro HM.out.2.1 HM.out.2.2.2)
  obtain ⟨e0,e1,-⟩:=((HE.out.1.set0 h1).set1 cl).cells
  have HUE:=Lib.hid ((HE.out.2.setCell (p:=⟨p+2,0,none⟩) (.inr (by have:=HP.out;simp;omega)) (.int .u64 (h1))).setCell (p:=⟨p+2,1,none⟩) (.inr (by have:=HP.out;simp;omega)) (.int .u64 (cl)))
  generalize (W4.setCell ⟨p+2,0,none⟩ (.int .u64 (h1))).setCell ⟨p+2,1,none⟩ (.int .u64 (cl))=Wf at e0 e1 HUE ⊢
  exact bodyPost_ret (v:=.agg #[.int .u64 (h1),.int .u64 (cl)]) (by simp [results,Tryz.results57,go_sem,e0,e1]) rfl ⟨by rw [HCH.out],HUE.out⟩
 ·have h:=HZ.out.1.2 hc
  have d:decide (cl<al)=true:=decide_eq_true (by have h1:=HZ.out.2.2.1;have h2:=HZ.out.2.2.2.1;rw [h.1];omega)
  have y4:Value.int .u64 (IntKind.u64.wrap (h1+1))=Value.int .u64 ch:=by rw [HZ.out.2.2.2.2,h.2]
  have HY4:=Lib.hid y4
  clear h hc y4
  go_upto_region 4 with fail
  rw [HY4.out]
  have m4:=HM.out.2.2.1.set0 ch
  have u4:Upd [p+3] W4 (W4.setCell ⟨p+3,0,none⟩ (.int .u64 ch)):=(Upd.refl _ _).setCell (.inl (by simp)) _
  have m3:=HM.out.2.1.upd u4 (by simp)
  have u5:Upd [] w (W4.setCell ⟨p+3,0,none⟩ (.int .u64 ch)):=HM.out.2.2.2.setCell (.inr (by have:=HP.out;simp;omega)) _
  generalize W4.setCell ⟨p+3,0,none⟩ (.int .u64 ch)=W5 at m4 u4 m3 u5 ⊢
  have HE:=Lib.hid (And.intro m3 u5)
  obtain ⟨g0,g1,-⟩:=m4.cells
  obtain ⟨r0',r1',rf'⟩:=m3.cells
  have rf0':=rf' 0
  have rf1':=rf' 1
  clear m4 u4 m3 u5 rf' c0 c1 cf0 r0 r1 rf0 rf1 a0' a1'
  go_wp2_with fail
  obtain ⟨e0,e1,-⟩:=((HE.out.1.set0 ch).set1 cl).cells
  have HUE:=Lib.hid ((HE.out.2.setCell (p:=⟨p+2,0,none⟩) (.inr (by have:=HP.out;simp;omega)) (.int .u64 (ch))).setCell (p:=⟨p+2,1,none⟩) (.inr (by have:=HP.out;simp;omega)) (.int .u64 (cl)))
  generalize (W5.setCell ⟨p+2,0,none⟩ (.int .u64 (ch))).setCell ⟨p+2,1,none⟩ (.int .u64 (cl))=Wf at e0 e1 HUE ⊢
  exact bodyPost_ret (v:=.agg #[.int .u64 (ch),.int .u64 (cl)]) (by simp [results,Tryz.results57,go_sem,e0,e1]) rfl ⟨rfl,HUE.out⟩
theorem rlessZ (a b:Int) (w:World):Calls Tryz.prog 56 #[wideZ a,wideZ b] w fun e w'=>e=.returned (wideZ (a - b))∧Upd [] w w':=by
 have hs1:=fun w=>rsumZ a (-b - 1) w
 have hs2:=fun w=>rsumZ (a+(-b - 1)) 1 w
 rw [show a+(-b - 1)+1=a - b by omega] at hs2
 have e1:zh 1=0:=rfl
 have e2:zl 1=1:=rfl
 unfold wideZ at hs1 hs2 ⊢
 rw [(z_not b).1,(z_not b).2] at hs1
 rw [e1,e2] at hs2
 have bb1:=zh_bd b
 have bb2:=zl_bd b
 obtain ⟨ah,hah⟩:∃x,zh a=x:=⟨_,rfl⟩
 obtain ⟨al,hal⟩:∃x,zl a=x:=⟨_,rfl⟩
 obtain ⟨bh,hbh⟩:∃x,zh b=x:=⟨_,rfl⟩
 obtain ⟨bl,hbl⟩:∃x,zl b=x:=⟨_,rfl⟩
 obtain ⟨mh,hmh⟩:∃x,zh (a+(-b - 1))=x:=⟨_,rfl⟩
 obtain ⟨ml,hml⟩:∃x,zl (a+(-b - 1))=x:=⟨_,rfl⟩
 obtain ⟨ch,hch⟩:∃x,zh (a - b)=x:=⟨_,rfl⟩
 obtain ⟨cl,hcl⟩:∃x,zl (a - b)=x:=⟨_,rfl⟩
 rw [hah,hal,hbh,hbl,hmh,hml] at hs1
 rw [hmh,hml,hch,hcl] at hs2
 rw [hah,hal,hbh,hbl,hch,hcl]
 rw [hbh] at bb1
 rw [hbl] at bb2
 obtain ⟨p,hp⟩:∃p,w.heap.size=p:=⟨_,rfl⟩
 obtain ⟨W1,hW1⟩:∃W,w.alloc (.cells #[.int .u64 ah,.int .u64 al] 37)=W:=⟨_,rfl⟩
 obtain ⟨W2,hW2⟩:∃W,W1.alloc (.cells #[.int .u64 bh,.int .u64 bl] 37)=W:=⟨_,rfl⟩
 obtain ⟨W3,hW3⟩:∃W,W2.alloc (.cells #[.int .u64 0,.int .u64 0] 37)=W:=⟨_,rfl⟩
 have s1:W1.heap.size=p+1:=by rw [←hW1,←hp];simp
 have s2:W2.heap.size=p+2:=by rw [←hW2];simp;omega
 have u1:Upd [] w W1:=by rw [←hW1];exact (Upd.refl _ _).alloc _
 have u2:Upd [] W1 W2:=by rw [←hW2];exact (Upd.refl _ _).alloc _
 have u3:Upd [] W2 W3:=by rw [←hW3];exact (Upd.refl _ _).alloc _
 have n1:=ZAt.new w ah al
 have n2:=ZAt.new W1 bh bl
 have n3:=ZAt.new W2 0 0
 rw [hW1,hp] at n1
 rw [hW2,s1] at n2
 rw [hW3,s2] at n3
 replace n1:=n1.upd (u2.trans u3) (by simp)
 replace n2:=n2.upd u3 (by simp)
 obtain ⟨a0,a1,-⟩:=n1.cells
 obtain ⟨b0,b1,-⟩:=n2.cells
 have HM:=Lib.hid (And.intro n3 ((u1.trans u2).trans u3))
 have HP:=Lib.hid hp
 have HW:=Lib.hid (And.intro hW1 (And.intro hW2 hW3))
 have H1:=Lib.hid hs1
 have H2:=Lib.hid hs2
 have HBB:=Lib.hid (And.intro bb1 bb2)
 clear hah hal hbh hbl hch hcl hmh hml hW1 hW2 hW3 hp u1 u2 u3 n1 n2 n3 s1 s2 hs1 hs2 e1 e2 bb1 bb2
 go_enter Tryz.func56,Tryz.ntmps56
 go_upto_region 1 with fail
 rw [HW.out.1,HW.out.2.1,HW.out.2.2,HP.out]
 have ep:p+1+1=p+2:=rfl
 rw [ep]
 have x1:=not_u64 bh HBB.out.1.1 HBB.out.1.2
 have x2:=not_u64 bl HBB.out.2.1 HBB.out.2.2
 go_wp2_with fail
 clear x1 x2
 (with_reducible refine (H1.out _).mono ?_)
 rintro e w1 ⟨rfl,hu1⟩
 have HU1:=Lib.hid hu1
 clear hu1 a0 a1 b0 b1
 go_wp2_with fail
 (with_reducible refine (H2.out _).mono ?_)
 rintro e w2 ⟨rfl,hu2⟩
 have HE:=Lib.hid (And.intro (HM.out.1.upd (HU1.out.trans hu2) (by simp)) (HM.out.2.trans (HU1.out.trans hu2)))
 obtain ⟨r0,r1,rf⟩:=HE.out.1.cells
 have rf0:=rf 0
 have rf1:=rf 1
 clear hu2 rf
 go_wp2_with fail
 obtain ⟨e0,e1,-⟩:=((HE.out.1.set0 ch).set1 cl).cells
 have HUE:=Lib.hid ((HE.out.2.setCell (p:=⟨p+2,0,none⟩) (.inr (by have:=HP.out;simp;omega)) (.int .u64 ch)).setCell (p:=⟨p+2,1,none⟩) (.inr (by have:=HP.out;simp;omega)) (.int .u64 cl))
 generalize (w2.setCell ⟨p+2,0,none⟩ (.int .u64 ch)).setCell ⟨p+2,1,none⟩ (.int .u64 cl)=Wf at e0 e1 HUE ⊢
 exact bodyPost_ret (v:=.agg #[.int .u64 ch,.int .u64 cl]) (by simp [results,Tryz.results56,go_sem,e0,e1]) rfl ⟨rfl,HUE.out⟩
theorem rcountsC (b:Bx) (w:World):Calls Tryz.prog 109 #[bxV b] w fun e w'=>e=.returned (.bool b.counts)∧Upd [] w w':=by
 have hv:b.counts=(decide (b.x1<b.x2)&&decide (b.y1<b.y2)):=by
  unfold Bx.counts
  rw [Bool.eq_iff_iff]
  simp only [Bool.and_eq_true,decide_eq_true_eq]
 rw [hv]
 obtain ⟨x1,x2,y1,y2,id⟩:=b
 unfold bxV
 dsimp only
 clear hv
 by_cases h1:x1<x2
 ·have d1:decide (x1<x2)=true:=decide_eq_true h1
  rw [d1,Bool.true_and]
  clear h1
  go_enter Tryz.func109,Tryz.ntmps109
  go_wp2_with fail
  go_ret
  exact ⟨rfl,(Upd.refl _ _).alloc _⟩
 ·have d1:decide (x1<x2)=false:=decide_eq_false h1
  rw [d1,Bool.false_and]
  clear h1
  go_enter Tryz.func109,Tryz.ntmps109
  go_wp2_with fail
  go_ret
  exact ⟨rfl,(Upd.refl _ _).alloc _⟩
def BxAt (w:World) (p:Nat) (b:Bx):Prop:=w.heap[p]? = some (.cells #[.int .i64 b.x1,.int .i64 b.x2,.int .i64 b.y1,.int .i64 b.y2,.int .u32 (b.id:Int)] 59 (0,0))
theorem BxAt.cells {w:World} {p:Nat} {b:Bx} (H:BxAt w p b):w.cell? ⟨p,0,none⟩=some (.int .i64 b.x1)∧w.cell? ⟨p,1,none⟩=some (.int .i64 b.x2)∧w.cell? ⟨p,2,none⟩=some (.int .i64 b.y1)∧w.cell? ⟨p,3,none⟩=some (.int .i64 b.y2)∧w.cell? ⟨p,4,none⟩=some (.int .u32 (b.id:Int))∧∀j,w.frozen? ⟨p,j,none⟩=false:=by
 have h':w.heap[p]? = some (.cells #[.int .i64 b.x1,.int .i64 b.x2,.int .i64 b.y1,.int .i64 b.y2,.int .u32 (b.id:Int)] 59 (0,0)):=H
 refine ⟨?_,?_,?_,?_,?_,fun j=>?_⟩<;>simp [World.cell?,World.frozen?,h']
theorem BxAt.upd {F:List Nat} {w w':World} {p:Nat} {b:Bx} (H:BxAt w p b) (hu:Upd F w w') (hp:p∉F):BxAt w' p b:=by
 unfold BxAt at H ⊢
 rw [hu.block p (lt_of_block H) hp];exact H
theorem rbothC (b i:Bx) (w:World):Calls Tryz.prog 108 #[bxV b,bxV i] w fun e w'=>e=.returned (bxV (bothB b i))∧Upd [] w w':=by
 unfold bxV bothB
 dsimp only
 obtain ⟨x1,x2,y1,y2,id⟩:=b
 obtain ⟨u1,u2,v1,v2,jd⟩:=i
 dsimp only
 obtain ⟨m1,h1⟩:∃m,max x1 u1=m:=⟨_,rfl⟩
 obtain ⟨m2,h2⟩:∃m,min x2 u2=m:=⟨_,rfl⟩
 obtain ⟨m3,h3⟩:∃m,max y1 v1=m:=⟨_,rfl⟩
 obtain ⟨m4,h4⟩:∃m,min y2 v2=m:=⟨_,rfl⟩
 rw [h1,h2,h3,h4]
 have q1:(if x1<u1 then u1 else x1)=m1:=by rw [←h1];split<;>omega
 have q2:(if u2<x2 then u2 else x2)=m2:=by rw [←h2];split<;>omega
 have q3:(if y1<v1 then v1 else y1)=m3:=by rw [←h3];split<;>omega
 have q4:(if v2<y2 then v2 else y2)=m4:=by rw [←h4];split<;>omega
 clear h1 h2 h3 h4
 go_enter Tryz.func108,Tryz.ntmps108
 go_wp2_with fail
 have hu:Upd [] w (((w.alloc (.cells #[.int .i64 x1,.int .i64 x2,.int .i64 y1,.int .i64 y2,.int .u32 (id:Int)] 59)).alloc (.cells #[.int .i64 u1,.int .i64 u2,.int .i64 v1,.int .i64 v2,.int .u32 (jd:Int)] 59)).alloc (.cells #[.int .i64 m1,.int .i64 m2,.int .i64 m3,.int .i64 m4,.int .u32 0] 59)):=(((Upd.refl _ _).alloc _).alloc _).alloc _
 have hs:((w.alloc (.cells #[.int .i64 x1,.int .i64 x2,.int .i64 y1,.int .i64 y2,.int .u32 (id:Int)] 59)).alloc (.cells #[.int .i64 u1,.int .i64 u2,.int .i64 v1,.int .i64 v2,.int .u32 (jd:Int)] 59)).heap.size=w.heap.size+1+1:=by simp
 have hn:=heap_alloc_new ((w.alloc (.cells #[.int .i64 x1,.int .i64 x2,.int .i64 y1,.int .i64 y2,.int .u32 (id:Int)] 59)).alloc (.cells #[.int .i64 u1,.int .i64 u2,.int .i64 v1,.int .i64 v2,.int .u32 (jd:Int)] 59)) (.cells #[.int .i64 m1,.int .i64 m2,.int .i64 m3,.int .i64 m4,.int .u32 0] 59)
 rw [hs] at hn
 have hb:BxAt _ _ ⟨m1,m2,m3,m4,0⟩:=hn
 obtain ⟨e0,e1,e2,e3,e4,-⟩:=hb.cells
 dsimp only at e0 e1 e2 e3 e4
 clear hs hn hb
 generalize ((w.alloc (.cells #[.int .i64 x1,.int .i64 x2,.int .i64 y1,.int .i64 y2,.int .u32 (id:Int)] 59)).alloc (.cells #[.int .i64 u1,.int .i64 u2,.int .i64 v1,.int .i64 v2,.int .u32 (jd:Int)] 59)).alloc (.cells #[.int .i64 m1,.int .i64 m2,.int .i64 m3,.int .i64 m4,.int .u32 0] 59)=W at hu e0 e1 e2 e3 e4 ⊢
 exact bodyPost_ret (v:=.agg #[.int .i64 m1,.int .i64 m2,.int .i64 m3,.int .i64 m4,.int .u32 0]) (by simp [results,Tryz.results108,go_sem,e0,e1,e2,e3,e4]) rfl ⟨rfl,hu⟩
theorem wideZ_small {n:Nat} (h:n<18446744073709551616):wideZ (n:Int)=.agg #[.int .u64 0,.int .u64 (n:Int)]:=by
 have e1:zh (n:Int)=0:=by unfold zh;omega
 have e2:zl (n:Int)=(n:Int):=by unfold zl;omega
 unfold wideZ
 rw [e1,e2]
theorem mul_W {X Y:Nat} (hx:X<18446744073709551616) (hy:Y<18446744073709551616):W128 (X*Y):=by
 unfold W128
 have h:X*Y≤18446744073709551615*18446744073709551615:=Nat.mul_le_mul (by omega) (by omega)
 omega
theorem roneZ (b:Bx) (mX mY:Nat) (hm:mX+mY≤1) (hx:b.x1≤b.x2) (hy:b.y1≤b.y2) (hin:b.in64) (w:World) :
 Calls Tryz.prog 110 #[bxV b,.int .i64 (mX:Int),.int .i64 (mY:Int)] w fun e w'=>e=.returned (wideZ (oneI mX mY b))∧Upd [] w w':=by
 unfold Bx.in64 at hin
 obtain ⟨X,hX⟩:∃X:Nat,(X:Int)=b.x2 - b.x1:=⟨(b.x2 - b.x1).toNat,by omega⟩
 obtain ⟨Y,hY⟩:∃X:Nat,(X:Int)=b.y2 - b.y1:=⟨(b.y2 - b.y1).toNat,by omega⟩
 have hXs:X<18446744073709551616:=by omega
 have hYs:Y<18446744073709551616:=by omega
 have hdx:=fun w=>rdiffC b.x1 b.x2 hin.1.1 hx hin.2.1.2 w
 have hdy:=fun w=>rdiffC b.y1 b.y2 hin.2.2.1.1 hy hin.2.2.2.2 w
 have hmu:=fun w=>rmulC X Y hXs hYs w
 rw [←wideZ_nat (mul_W hXs hYs)] at hmu
 rw [←hX] at hdx
 rw [←hY] at hdy
 have hone:oneI mX mY b=((X*Y:Nat):Int)+(if mX=1 then (Y:Int) else if mY=1 then (X:Int) else 0):=by
  unfold oneI
  rw [←hX,←hY]
  rcases (by omega:(mX=0∧mY=0)∨(mX=1∧mY=0)∨(mX=0∧mY=1)) with ⟨rfl,rfl⟩ | ⟨rfl,rfl⟩ | ⟨rfl,rfl⟩
  ·simp
  ·simp [Int.add_mul]
  ·simp [Int.mul_add]
 obtain ⟨P,hP⟩:∃P:Int,((X*Y:Nat):Int)=P:=⟨_,rfl⟩
 rw [hP] at hmu hone
 have hsy:=fun w=>rsumZ P (Y:Int) w
 have hsx:=fun w=>rsumZ P (X:Int) w
 rw [wideZ_small hYs] at hsy
 rw [wideZ_small hXs] at hsx
 obtain ⟨x1,x2,y1,y2,id⟩:=b
 unfold bxV
 dsimp only at hdx hdy ⊢
 obtain ⟨p,hp⟩:∃p,w.heap.size=p:=⟨_,rfl⟩
 obtain ⟨W1,hW1⟩:∃W,w.alloc (.cells #[.int .i64 x1,.int .i64 x2,.int .i64 y1,.int .i64 y2,.int .u32 (id:Int)] 59)=W:=⟨_,rfl⟩
 obtain ⟨W2,hW2⟩:∃W,W1.alloc (.cells #[.int .u64 0,.int .u64 0] 37)=W:=⟨_,rfl⟩
 have s1:W1.heap.size=p+1:=by rw [←hW1,←hp];simp
 have s2:W2.heap.size=p+2:=by rw [←hW2];simp;omega
 have u1:Upd [] w W1:=by rw [←hW1];exact (Upd.refl _ _).alloc _
 have u2:Upd [] W1 W2:=by rw [←hW2];exact (Upd.refl _ _).alloc _
 have n1:BxAt W1 p ⟨x1,x2,y1,y2,id⟩:=by rw [←hW1,←hp];exact heap_alloc_new w _
 have n2:=ZAt.new W1 0 0
 rw [hW2,s1] at n2
 replace n1:=n1.upd u2 (by simp)
 have z0:∀x:QW W2,x.w.cell? ⟨p,0,none⟩=some (.int .i64 x1):=fun x=>(n1.upd x.up (by simp)).cells.1
 have z1:∀x:QW W2,x.w.cell? ⟨p,1,none⟩=some (.int .i64 x2):=fun x=>(n1.upd x.up (by simp)).cells.2.1
 have z2:∀x:QW W2,x.w.cell? ⟨p,2,none⟩=some (.int .i64 y1):=fun x=>(n1.upd x.up (by simp)).cells.2.2.1
 have z3:∀x:QW W2,x.w.cell? ⟨p,3,none⟩=some (.int .i64 y2):=fun x=>(n1.upd x.up (by simp)).cells.2.2.2.1
 have HM:=Lib.hid (And.intro n2 (u1.trans u2))
 have HP:=Lib.hid hp
 have HW:=Lib.hid (And.intro hW1 hW2)
 have HDX:=Lib.hid hdx
 have HDY:=Lib.hid hdy
 have HMU:=Lib.hid hmu
 have HSX:=Lib.hid hsx
 have HSY:=Lib.hid hsy
 have HONE:=Lib.hid hone
 clear hX hY hXs hYs hdx hdy hmu hone hP hsx hsy hin hx hy hp hW1 hW2 s1 s2 u1 u2 n1 n2
 have hgo:∀Z,oneI mX mY ⟨x1,x2,y1,y2,id⟩=Z→Calls Tryz.prog 110 #[.agg #[.int .i64 x1,.int .i64 x2,.int .i64 y1,.int .i64 y2,.int .u32 (id:Int)],.int .i64 (mX:Int),.int .i64 (mY:Int)] w (fun e w'=>e=.returned (wideZ Z)∧Upd [] w w')→Calls Tryz.prog 110 #[.agg #[.int .i64 x1,.int .i64 x2,.int .i64 y1,.int .i64 y2,.int .u32 (id:Int)],.int .i64 (mX:Int),.int .i64 (mY:Int)] w fun e w'=>e=.returned (wideZ (oneI mX mY ⟨x1,x2,y1,y2,id⟩))∧Upd [] w w':=fun Z h hh=>by rw [h];exact hh
 refine hgo _ HONE.out ?_
 clear hgo HONE
 unfold wideZ at HMU HSX HSY ⊢
 obtain ⟨ph,hph⟩:∃x,zh P=x:=⟨_,rfl⟩
 obtain ⟨pl,hpl⟩:∃x,zl P=x:=⟨_,rfl⟩
 rw [hph,hpl] at HMU HSX HSY
 go_enter Tryz.func110,Tryz.ntmps110
 go_upto_region 1 with fail
 rw [HW.out.1,HW.out.2,HP.out]
 refine wp_region_quietU (by kernel_rfl) (by kernel_rfl) ?_
 repeat (go_big_quiet_step (first | (with_reducible exact Calls.quietU (HDX.out _)) | (with_reducible exact Calls.quietU (HDY.out _))))
 refine wpQuiet_nil ?_
 intro wq hw'
 obtain ⟨⟨wy,hwq⟩,hw''⟩:=hw'
 dsimp only at hw''
 subst hw''
 go_wp2_with fail
 (with_reducible refine (HMU.out _).mono ?_)
 rintro e w3 ⟨rfl,hu3⟩
 have huw:=HM.out.2.trans (hwq.trans hu3)
 have hrr:=HM.out.1.upd (hwq.trans hu3) (by simp)
 have HA:=Lib.hid (And.intro huw hrr)
 clear hu3 hwq z0 z1 z2 z3 huw hrr
 go_upto_region 3 with fail
 obtain ⟨q,hq⟩:∃q,w3.heap.size=q:=⟨_,rfl⟩
 obtain ⟨W4,hW4⟩:∃W,w3.alloc (.cells #[.int .u64 ph,.int .u64 pl] 37)=W:=⟨_,rfl⟩
 have n4:=ZAt.new w3 ph pl
 have u4:Upd [] w3 W4:=by rw [←hW4];exact (Upd.refl _ _).alloc _
 rw [hW4,hq] at n4
 rw [hW4,hq]
 have hqp:p+1<q:=by rw [←hq];exact lt_of_block HA.out.2
 have H4:=Lib.hid (And.intro n4 (And.intro (HA.out.2.upd u4 (by simp)) (And.intro (HA.out.1.trans u4) hqp)))
 obtain ⟨q0,q1,-⟩:=n4.cells
 clear n4 u4 hW4 hq hqp HA
 by_cases hx1:mX=1
 ·have hy0:mY=0:=by omega
  subst hx1 hy0
  clear hm
  obtain ⟨sh,hsh⟩:∃x,zh (P+(Y:Int))=x:=⟨_,rfl⟩
  obtain ⟨sl,hsl⟩:∃x,zl (P+(Y:Int))=x:=⟨_,rfl⟩
  have hsu:=HSY.out
  rw [hsh,hsl] at hsu
  have HSM:=Lib.hid hsu
  have HSE:=Lib.hid (And.intro hsh hsl)
  clear hsu hsh hsl
  go_wp2_with fail
  (with_reducible refine (HSM.out _).mono ?_)
  rintro e w5 ⟨rfl,hu5⟩
  have m5:=H4.out.1.upd hu5 (by simp)
  have r5:=H4.out.2.1.upd hu5 (by simp)
  have u5:=H4.out.2.2.1.trans hu5
  have hq5:=H4.out.2.2.2
  obtain ⟨g0,g1,gf⟩:=m5.cells
  have gf0:=gf 0
  have gf1:=gf 1
  clear gf q0 q1 hu5
  go_upto_region 5 with fail
  have m6:=(m5.set0 sh).set1 sl
  have u6:Upd [q] w5 ((w5.setCell ⟨q,0,none⟩ (.int .u64 sh)).setCell ⟨q,1,none⟩ (.int .u64 sl)):=((Upd.refl _ _).setCell (.inl (by simp)) _).setCell (.inl (by simp)) _
  have r6:=r5.upd u6 (by simp;omega)
  have v6:Upd [] w ((w5.setCell ⟨q,0,none⟩ (.int .u64 sh)).setCell ⟨q,1,none⟩ (.int .u64 sl)):=u5.trans' u6 (fun y hy=>.inr (by simp at hy;have:=HP.out;omega))
  generalize (w5.setCell ⟨q,0,none⟩ (.int .u64 sh)).setCell ⟨q,1,none⟩ (.int .u64 sl)=W6 at m6 u6 r6 v6 ⊢
  obtain ⟨k0,k1,-⟩:=m6.cells
  clear m5 r5 u5 g0 g1 gf0 gf1 u6 m6
  have HE:=Lib.hid (And.intro r6 v6)
  obtain ⟨r0,r1,rf⟩:=HE.out.1.cells
  have rf0:=rf 0
  have rf1:=rf 1
  clear rf
  go_wp2_with fail
  obtain ⟨e0,e1,-⟩:=((HE.out.1.set0 sh).set1 sl).cells
  have HUE:=Lib.hid ((HE.out.2.setCell (p:=⟨p+1,0,none⟩) (.inr (by have:=HP.out;simp;omega)) (.int .u64 sh)).setCell (p:=⟨p+1,1,none⟩) (.inr (by have:=HP.out;simp;omega)) (.int .u64 sl))
  generalize (W6.setCell ⟨p+1,0,none⟩ (.int .u64 sh)).setCell ⟨p+1,1,none⟩ (.int .u64 sl)=Wf at e0 e1 HUE ⊢
  exact bodyPost_ret (v:=.agg #[.int .u64 sh,.int .u64 sl]) (by simp [results,Tryz.results110,go_sem,e0,e1]) rfl ⟨by rw [HSE.out.1,HSE.out.2],HUE.out⟩
 ·have hx0:mX=0:=by omega
  by_cases hy1:mY=1
  ·subst hx0 hy1
   clear hm hx1
   obtain ⟨sh,hsh⟩:∃x,zh (P+(X:Int))=x:=⟨_,rfl⟩
   obtain ⟨sl,hsl⟩:∃x,zl (P+(X:Int))=x:=⟨_,rfl⟩
   have hsu:=HSX.out
   rw [hsh,hsl] at hsu
   have HSM:=Lib.hid hsu
   have HSE:=Lib.hid (And.intro hsh hsl)
   clear hsu hsh hsl
   go_wp2_with fail
   (with_reducible refine (HSM.out _).mono ?_)
   rintro e w5 ⟨rfl,hu5⟩
   have m5:=H4.out.1.upd hu5 (by simp)
   have r5:=H4.out.2.1.upd hu5 (by simp)
   have u5:=H4.out.2.2.1.trans hu5
   have hq5:=H4.out.2.2.2
   obtain ⟨g0,g1,gf⟩:=m5.cells
   have gf0:=gf 0
   have gf1:=gf 1
   clear gf q0 q1 hu5
   go_upto_region 7 with fail
   have m6:=(m5.set0 sh).set1 sl
   have u6:Upd [q] w5 ((w5.setCell ⟨q,0,none⟩ (.int .u64 sh)).setCell ⟨q,1,none⟩ (.int .u64 sl)):=((Upd.refl _ _).setCell (.inl (by simp)) _).setCell (.inl (by simp)) _
   have r6:=r5.upd u6 (by simp;omega)
   have v6:Upd [] w ((w5.setCell ⟨q,0,none⟩ (.int .u64 sh)).setCell ⟨q,1,none⟩ (.int .u64 sl)):=u5.trans' u6 (fun y hy=>.inr (by simp at hy;have:=HP.out;omega))
   generalize (w5.setCell ⟨q,0,none⟩ (.int .u64 sh)).setCell ⟨q,1,none⟩ (.int .u64 sl)=W6 at m6 u6 r6 v6 ⊢
   obtain ⟨k0,k1,-⟩:=m6.cells
   clear m5 r5 u5 g0 g1 gf0 gf1 u6 m6
   have HE:=Lib.hid (And.intro r6 v6)
   obtain ⟨r0,r1,rf⟩:=HE.out.1.cells
   have rf0:=rf 0
   have rf1:=rf 1
   clear rf
   go_wp2_with fail
   obtain ⟨e0,e1,-⟩:=((HE.out.1.set0 sh).set1 sl).cells
   have HUE:=Lib.hid ((HE.out.2.setCell (p:=⟨p+1,0,none⟩) (.inr (by have:=HP.out;simp;omega)) (.int .u64 sh)).setCell (p:=⟨p+1,1,none⟩) (.inr (by have:=HP.out;simp;omega)) (.int .u64 sl))
   generalize (W6.setCell ⟨p+1,0,none⟩ (.int .u64 sh)).setCell ⟨p+1,1,none⟩ (.int .u64 sl)=Wf at e0 e1 HUE ⊢
   exact bodyPost_ret (v:=.agg #[.int .u64 sh,.int .u64 sl]) (by simp [results,Tryz.results110,go_sem,e0,e1]) rfl ⟨by rw [HSE.out.1,HSE.out.2],HUE.out⟩
  ·have hy0:mY=0:=by omega
   subst hx0 hy0
   clear hm hx1 hy1
   have HE:=Lib.hid (And.intro H4.out.2.1 H4.out.2.2.1)
   obtain ⟨r0,r1,rf⟩:=HE.out.1.cells
   have rf0:=rf 0
   have rf1:=rf 1
   clear rf
   go_wp2_with fail
   obtain ⟨e0,e1,-⟩:=((HE.out.1.set0 ph).set1 pl).cells
   have HUE:=Lib.hid ((HE.out.2.setCell (p:=⟨p+1,0,none⟩) (.inr (by have:=HP.out;simp;omega)) (.int .u64 ph)).setCell (p:=⟨p+1,1,none⟩) (.inr (by have:=HP.out;simp;omega)) (.int .u64 pl))
   generalize (W4.setCell ⟨p+1,0,none⟩ (.int .u64 ph)).setCell ⟨p+1,1,none⟩ (.int .u64 pl)=Wf at e0 e1 HUE ⊢
   exact bodyPost_ret (v:=.agg #[.int .u64 ph,.int .u64 pl]) (by simp [results,Tryz.results110,go_sem,e0,e1]) rfl ⟨rfl,HUE.out⟩
def BxC (w:World) (g p:Nat) (b:Bx):Prop:=
 w.cell? ⟨g,p,none⟩=some (.int .i64 b.x1)∧w.cell? ⟨g,p+1,none⟩=some (.int .i64 b.x2)∧w.cell? ⟨g,p+2,none⟩=some (.int .i64 b.y1)∧w.cell? ⟨g,p+3,none⟩=some (.int .i64 b.y2)∧w.cell? ⟨g,p+4,none⟩=some (.int .u32 (b.id:Int))
theorem BxC.upd0 {w w':World} {g p:Nat} {b:Bx} (h:BxC w g p b) (hu:Upd [] w w'):BxC w' g p b:=by
 have e:∀{a:Addr} {v:Value},w.cell? a=some v→w'.cell? a=some v:=fun {a v} ha=>(hu.cell (World.block_lt_of_cell? w _ ha) (by simp)).trans ha
 exact ⟨e h.1,e h.2.1,e h.2.2.1,e h.2.2.2.1,e h.2.2.2.2⟩
theorem BxAt.new (w:World) (b:Bx):BxAt (w.alloc (.cells #[.int .i64 b.x1,.int .i64 b.x2,.int .i64 b.y1,.int .i64 b.y2,.int .u32 (b.id:Int)] 59)) w.heap.size b:=heap_alloc_new w _
theorem BxAt.put {w:World} {q:Nat} {b0:Bx} (H:BxAt w q b0) (x1 x2 y1 y2:Int) (id:Nat) :
 BxAt (((((w.setCell ⟨q,0,none⟩ (.int .i64 x1)).setCell ⟨q,1,none⟩ (.int .i64 x2)).setCell ⟨q,2,none⟩ (.int .i64 y1)).setCell ⟨q,3,none⟩ (.int .i64 y2)).setCell ⟨q,4,none⟩ (.int .u32 (id:Int))) q ⟨x1,x2,y1,y2,id⟩:=by
 have H':w.heap[q]? = some (.cells #[.int .i64 b0.x1,.int .i64 b0.x2,.int .i64 b0.y1,.int .i64 b0.y2,.int .u32 (b0.id:Int)] 59 (0,0)):=H
 exact heap_set (heap_set (heap_set (heap_set (heap_set H' 0 _) 1 _) 2 _) 3 _) 4 _
theorem upd_putB (w:World) (q:Nat) (x1 x2 y1 y2 id:Int):Upd [q] w (((((w.setCell ⟨q,0,none⟩ (.int .i64 x1)).setCell ⟨q,1,none⟩ (.int .i64 x2)).setCell ⟨q,2,none⟩ (.int .i64 y1)).setCell ⟨q,3,none⟩ (.int .i64 y2)).setCell ⟨q,4,none⟩ (.int .u32 id)):=
 (((((Upd.refl [q] w).setCell (.inl (by simp)) _).setCell (.inl (by simp)) _).setCell (.inl (by simp)) _).setCell (.inl (by simp)) _).setCell (.inl (by simp)) _
theorem both_in64 {b i:Bx} (hb:b.in64) (hi:i.in64):(bothB b i).in64:=by
 unfold Bx.in64 bothB at *
 dsimp only
 omega
theorem cellsI_cons (mX mY:Int) {l:List Bx} {i:Nat} {b:Bx} (h:l[i]? = some b) (I:Bx) :
 cellsI mX mY (l.drop i) I=(if okI b I=true then oneI mX mY (bothB b I) - cellsI mX mY (l.drop (i+1)) (bothB b I) else 0)+cellsI mX mY (l.drop (i+1)) I:=by
 obtain ⟨hk,he⟩:=List.getElem?_eq_some_iff.1 h
 rw [List.drop_eq_getElem_cons hk,he,cellsI]
theorem rcells_step (v:Value) (l:List Bx) (mX mY fr:Nat) (I:Bx) (w:World) (hm:mX+mY≤1) (hl:l.length<100000) (hin:∀b∈l,b.in64) (hfl:fr≤l.length) (hI:I.in64) (hs:See KBx w v l)
 (ih:∀(from_:Nat) (J:Bx) (w':World),fr<from_→from_≤l.length→J.in64→J.x1≤J.x2→J.y1≤J.y2→See KBx w' v l→
  Calls Tryz.prog 53 #[v,.int .i64 (from_:Int),bxV J,.int .i64 (mX:Int),.int .i64 (mY:Int)] w' fun e w''=>e=.returned (wideZ (cellsI mX mY (l.drop from_) J))∧Upd [] w' w'') :
 Calls Tryz.prog 53 #[v,.int .i64 (fr:Int),bxV I,.int .i64 (mX:Int),.int .i64 (mY:Int)] w fun e w'=>e=.returned (wideZ (cellsI mX mY (l.drop fr) I))∧Upd [] w w':=by
 obtain ⟨A,C,rfl⟩:=hs.form
 obtain ⟨n,hn⟩:∃n,l.length=n:=⟨_,rfl⟩
 obtain ⟨Z,hZ⟩:∃Z,cellsI mX mY (l.drop fr) I=Z:=⟨_,rfl⟩
 rw [hn] at hs hl hfl ih
 rw [hZ,hn]
 obtain ⟨p,hp⟩:∃p,w.heap.size=p:=⟨_,rfl⟩
 obtain ⟨W1,hW1⟩:∃W,w.alloc (.cells #[.int .i64 I.x1,.int .i64 I.x2,.int .i64 I.y1,.int .i64 I.y2,.int .u32 (I.id:Int)] 59)=W:=⟨_,rfl⟩
 obtain ⟨W2,hW2⟩:∃W,W1.alloc (.cells #[.int .u64 0,.int .u64 0] 37)=W:=⟨_,rfl⟩
 obtain ⟨W3,hW3⟩:∃W,W2.alloc (.cells #[.int .u64 0,.int .u64 0] 37)=W:=⟨_,rfl⟩
 have s1:W1.heap.size=p+1:=by rw [←hW1,←hp];simp
 have s2:W2.heap.size=p+2:=by rw [←hW2];simp;omega
 have u1:Upd [] w W1:=by rw [←hW1];exact (Upd.refl _ _).alloc _
 have u2:Upd [] W1 W2:=by rw [←hW2];exact (Upd.refl _ _).alloc _
 have u3:Upd [] W2 W3:=by rw [←hW3];exact (Upd.refl _ _).alloc _
 have n1:=BxAt.new w I
 have n2:=ZAt.new W1 0 0
 have n3:=ZAt.new W2 0 0
 rw [hW1,hp] at n1
 rw [hW2,s1] at n2
 rw [hW3,s2] at n3
 replace n1:=n1.upd (u2.trans u3) (by simp)
 replace n2:=n2.upd u3 (by simp)
 have H3:=Lib.hid (And.intro n1 (And.intro n2 (And.intro n3 ((u1.trans u2).trans u3))))
 have HP:=Lib.hid hp
 have HW:=Lib.hid (And.intro hW1 (And.intro hW2 hW3))
 have HN:=Lib.hid (And.intro hn (And.intro hl (And.intro hin (And.intro hI hm))))
 have HSE:=Lib.hid hs
 have HIH:=Lib.hid ih
 have HZZ:=Lib.hid hZ
 have nb:(n:Int)<100000:=by omega
 have f0:(0:Int)≤(fr:Int):=Int.natCast_nonneg _
 unfold bxV
 clear s1 s2 u1 u2 u3 n1 n2 n3 hW1 hW2 hW3 hp hn hl hin hI hm hs ih hZ
 go_enter Tryz.func53,Tryz.ntmps53
 go_upto_region 2 with fail
 rw [HW.out.1,HW.out.2.1,HW.out.2.2,HP.out]
 have ep:p+1+1=p+2:=rfl
 rw [ep]
 go_wp2_with fail
 go_loopg [12,13] (n - fr) (fun m s12 _ wr=>∃(i:Nat) (S:Int),m+i=n∧fr≤i∧s12=.int .i64 (i:Int)∧cellsI mX mY (l.drop fr) I=S+cellsI mX mY (l.drop i) I∧ZAt wr (p+2) (zh S) (zl S)∧Upd [p+2] W3 wr)
 case atStart=>exact ⟨fr,0,by omega,Nat.le_refl _,rfl,by omega,H3.out.2.2.1,Upd.refl _ _⟩
 case round=>
  obtain ⟨i,S,hi,hfi,rfl,hcs,hz,hu⟩:=hrel
  obtain ⟨wl,rfl⟩:∃wl:World,wl=wr:=⟨_,rfl⟩
  have hbI:=H3.out.1.upd hu (by simp)
  have hrs:=H3.out.2.1.upd hu (by simp)
  have huw:Upd [] w wl:=H3.out.2.2.2.trans' hu (fun y hy=>.inr (by have:=HP.out;simp at hy;omega))
  have HS:=Lib.hid (And.intro hbI (And.intro hz (And.intro hrs (And.intro huw hu))))
  have HI:=Lib.hid (And.intro hi (And.intro hfi hcs))
  have i0:(0:Int)≤(i:Int):=Int.natCast_nonneg _
  have hp2:p+2<wl.heap.size:=lt_of_block hz
  clear hi hfi hcs hz hu hbI hrs huw
  by_cases hlt:i<n
  ·have i1:(i:Int)<(n:Int):=by omega
   obtain ⟨b,hb⟩:∃b,l[i]? = some b:=⟨_,List.getElem?_eq_getElem (by rw [HN.out.1];exact hlt)⟩
   have hbi:=HN.out.2.2.1 b (List.mem_of_getElem? hb)
   obtain ⟨g,o,hA,-,-,c0,c1,c2,c3,c4⟩:=KBx.at (HSE.out.upd0 HS.out.2.2.2.1) hb
   subst hA
   have HBC:=Lib.hid (show BxC wl g (o+i*5) b from ⟨c0,c1,c2,c3,c4⟩)
   have hcons:=cellsI_cons (mX:=mX) (mY:=mY) hb I
   have hbo:=fun w=>rbothC b I w
   have hco:=fun w=>rcountsC b w
   have hok:okI b I=(b.counts&&(decide ((bothB b I).x1≤(bothB b I).x2)&&decide ((bothB b I).y1≤(bothB b I).y2))):=rfl
   have hin6:=both_in64 hbi HN.out.2.2.2.1
   obtain ⟨B,hB⟩:∃B,bothB b I=B:=⟨_,rfl⟩
   have hid0:B.id=0:=by rw [←hB];rfl
   rw [hB] at hcons hbo hok hin6
   obtain ⟨m1,m2,m3,m4,mi⟩:=B
   dsimp only at hid0 hok
   subst hid0
   unfold bxV at hbo hco
   dsimp only at hbo
   have HBO:=Lib.hid hbo
   have HCO:=Lib.hid hco
   have HCN:=Lib.hid (And.intro hcons (And.intro hok (And.intro hin6 hlt)))
   clear hb hbi c0 c1 c2 c3 c4 hcons hbo hco hok hin6 hB
   go_upto_region 5 with fail
   go_cut [13] (fun s13 wc=>∃q,s13=.pointer (some ⟨q,0,none⟩)∧BxAt wc q ⟨m1,m2,m3,m4,0⟩∧Upd [] wl wc∧wl.heap.size≤q)
   case first=>
    refine GoT.start [5,7] (fun w'=>BxAt w' p I∧BxC w' g (o+i*5) b) (by kernel_rfl) ?_ fun hS=>?_
    ·exact ⟨HS.out.1.upd (Upd.refl [] _).drew (by simp),HBC.out.upd0 (Upd.refl [] _).drew⟩
    refine' GoT.mv (i:=0) (oi:=⟨some 22,_,_,_,_,_⟩) rfl (by rfl) ?y5_0 ?_
    case y5_0=>intro w;go_simp<;>with_reducible rfl
    simp only [Act.put,sA,sZ,sS]
    refine' GoT.mv (i:=1) (oi:=⟨some 23,_,_,_,_,_⟩) rfl (by rfl) ?y5_1 ?_
    case y5_1=>intro w;go_simp<;>with_reducible rfl
    simp only [Act.put,sA,sZ,sS]
    refine' GoT.mv (i:=2) (oi:=⟨some 24,_,_,_,_,_⟩) rfl (by rfl) ?y5_2 ?_
    case y5_2=>intro w;go_simp<;>with_reducible rfl
    simp only [Act.put,sA,sZ,sS]
    refine' GoT.tk 1 (i:=3) (oi:=⟨some 25,_,_,_,_,_⟩) rfl (by rfl) ?y5_3 ?_
    case y5_3=>intro w hSw;obtain ⟨c0,c1,c2,c3,c4⟩:=hSw.2;go_simp<;>with_reducible rfl
    simp only [Act.put,sA,sZ,sS]
    refine' GoT.tk 1 (i:=4) (oi:=⟨some 26,_,_,_,_,_⟩) rfl (by rfl) ?y5_4 ?_
    case y5_4=>intro w hSw;obtain ⟨c0,c1,c2,c3,c4,-⟩:=hSw.1.cells;go_simp<;>with_reducible rfl
    simp only [Act.put,sA,sZ,sS]
    refine GoT.pair (i:=5) (o:=⟨some 27,_,_,_,_,_⟩) (k:=6) (o':=⟨some 13,_,_,_,_,_⟩) rfl rfl (by kernel_rfl) (fun K hK=>?_) (fun K hK=>?_)
    ·skip
     go_simp
     go_at_call 108
     (with_reducible refine (HBO.out _).mono ?_)
     rintro e w1 ⟨rfl,hu1⟩
     have HU1:=Lib.hid hu1
     clear hu1
     refine hK.out _ _ (fun h=>(by cases h)) ?_
     clear hK K
     try simp only [Act.put,sA,sZ,sS]
     refine GoT.one (i:=6) (o:=⟨some 13,_,_,_,_,_⟩) rfl (by kernel_rfl) fun K hK=>?_
     go_simp
     refine hK.out _ _ (fun _ h=>?_) ?_
     ·exact ⟨h.1.upd ((Upd.refl [] _).alloc _) (by simp),h.2.upd0 ((Upd.refl [] _).alloc _)⟩
     clear hK K
     try simp only [Act.put,sA,sZ,sS]
     have hb0:BxAt (w1.alloc (.cells #[.int .i64 0,.int .i64 0,.int .i64 0,.int .i64 0,.int .u32 0] 59)) w1.heap.size ⟨0,0,0,0,0⟩:=heap_alloc_new w1 _
     have hua:Upd [] w1 (w1.alloc (.cells #[.int .i64 0,.int .i64 0,.int .i64 0,.int .i64 0,.int .u32 0] 59)):=(Upd.refl _ _).alloc _
     have HUA:=Lib.hid hua
     clear hua
     generalize w1.alloc (.cells #[.int .i64 0,.int .i64 0,.int .i64 0,.int .i64 0,.int .u32 0] 59)=wa at hb0 HUA ⊢
     obtain ⟨qa,hqa⟩:∃q,w1.heap.size=q:=⟨_,rfl⟩
     rw [hqa] at hb0 ⊢
     have HQA:=Lib.hid hqa
     clear hqa
     obtain ⟨z0,z1,z2,z3,z4,zf⟩:=hb0.cells
     dsimp only at z0 z1 z2 z3 z4
     have zf0:=zf 0
     have zf1:=zf 1
     have zf2:=zf 2
     have zf3:=zf 3
     have zf4:=zf 4
     have HB0:=Lib.hid hb0
     clear zf hb0
     refine GoT.one (i:=7) (o:=⟨none,_,_,_,_,_⟩) rfl (by kernel_rfl) fun K hK=>?_
     go_simp
     refine hK.out _ _ (fun h=>(by cases h)) ?_
     clear hK K
     try simp only [Act.put,sA,sZ,sS]
     refine GoT.done (by kernel_rfl) ?_
     go_wp2_with fail
     go_meet
     case rel=>exact ⟨qa,rfl,HB0.out.put m1 m2 m3 m4 0,(((Upd.refl [] _).drew.trans HU1.out).trans HUA.out).trans' (upd_putB _ _ m1 m2 m3 m4 0) (fun y hy=>.inr (by simp at hy;have h1:wl.heap.size≤w1.heap.size:=HU1.out.size;have h2:=HQA.out;omega)),by have h1:wl.heap.size≤w1.heap.size:=HU1.out.size;have h2:=HQA.out;omega⟩
    ·skip
     go_simp
     refine hK.out _ _ (fun _ h=>?_) ?_
     ·exact ⟨h.1.upd ((Upd.refl [] _).alloc _) (by simp),h.2.upd0 ((Upd.refl [] _).alloc _)⟩
     clear hK K
     try simp only [Act.put,sA,sZ,sS]
     refine GoT.one (i:=5) (o:=⟨some 27,_,_,_,_,_⟩) rfl (by kernel_rfl) fun K hK=>?_
     go_simp
     go_at_call 108
     (with_reducible refine (HBO.out _).mono ?_)
     rintro e w1 ⟨rfl,hu1⟩
     have HU1:=Lib.hid hu1
     clear hu1
     refine hK.out _ _ (fun h=>(by cases h)) ?_
     clear hK K
     try simp only [Act.put,sA,sZ,sS]
     have hb0:=BxAt.new wl ⟨0,0,0,0,0⟩
     replace hb0:=(hb0.upd (Upd.refl [] _).drew (by simp)).upd HU1.out (by simp)
     obtain ⟨z0,z1,z2,z3,z4,zf⟩:=hb0.cells
     dsimp only at z0 z1 z2 z3 z4
     have zf0:=zf 0
     have zf1:=zf 1
     have zf2:=zf 2
     have zf3:=zf 3
     have zf4:=zf 4
     have HB0:=Lib.hid hb0
     clear zf hb0
     refine GoT.one (i:=7) (o:=⟨none,_,_,_,_,_⟩) rfl (by kernel_rfl) fun K hK=>?_
     go_simp
     refine hK.out _ _ (fun h=>(by cases h)) ?_
     clear hK K
     try simp only [Act.put,sA,sZ,sS]
     refine GoT.done (by kernel_rfl) ?_
     go_wp2_with fail
     go_meet
     case rel=>exact ⟨wl.heap.size,rfl,HB0.out.put m1 m2 m3 m4 0,((((Upd.refl [] _).alloc _).drew).trans HU1.out).trans' (upd_putB _ _ m1 m2 m3 m4 0) (fun y hy=>.inr (by simp at hy;omega)),Nat.le_refl _⟩
   obtain ⟨q,rfl,hq,hu5,hql⟩:=hcut
   have HC:=Lib.hid (And.intro hq hu5)
   have HQL:=Lib.hid hql
   obtain ⟨c0,c1,c2,c3,c4⟩:=HBC.out.upd0 hu5
   obtain ⟨bx1,bx2,by1,by2,bid⟩:=b
   dsimp only at c0 c1 c2 c3 c4
   clear hq hu5 hql
   cases hbc:(⟨bx1,bx2,by1,by2,bid⟩:Bx).counts with
   |false=>
    rw [hbc] at HCO
    have HNO:=Lib.hid (show ¬okI ⟨bx1,bx2,by1,by2,bid⟩ I=true by rw [HCN.out.2.1,hbc];simp)
    clear hbc
    go_wp2_with fail
    (with_reducible refine (HCO.out _).mono ?_)
    rintro e w6 ⟨rfl,huw6⟩
    have hq6:=HC.out.1.upd huw6 (by simp)
    obtain ⟨k0,k1,k2,k3,k4,-⟩:=hq6.cells
    dsimp only at k0 k1 k2 k3 k4
    have HU6:=Lib.hid (HC.out.2.trans huw6)
    clear huw6 hq6 c0 c1 c2 c3 c4
    go_wp2_with fail
    go_roundg (n - (i+1))
    case measure=>have:=HI.out.1;have:=HCN.out.2.2.2;omega
    case rel=>exact ⟨i+1,S,by have:=HI.out.1;have:=HCN.out.2.2.2;omega,by have:=HI.out.2.1;omega,by go_num,by rw [HI.out.2.2,HCN.out.1,if_neg HNO.out,Int.zero_add],HS.out.2.1.upd HU6.out (by simp),HS.out.2.2.2.2.trans (HU6.out.mono (by simp))⟩
   |true=>
    rw [hbc] at HCO
    by_cases h12:m2<m1
    ·have d12:decide (m2<m1)=true:=decide_eq_true h12
     have HNO:=Lib.hid (show ¬okI ⟨bx1,bx2,by1,by2,bid⟩ I=true by rw [HCN.out.2.1,decide_eq_false (show ¬m1≤m2 by omega)];simp)
     clear hbc h12
     go_wp2_with fail
     (with_reducible refine (HCO.out _).mono ?_)
     rintro e w6 ⟨rfl,huw6⟩
     have hq6:=HC.out.1.upd huw6 (by simp)
     obtain ⟨k0,k1,k2,k3,k4,-⟩:=hq6.cells
     dsimp only at k0 k1 k2 k3 k4
     have HU6:=Lib.hid (HC.out.2.trans huw6)
     clear huw6 hq6 c0 c1 c2 c3 c4
     go_wp2_with fail
     go_roundg (n - (i+1))
     case measure=>have:=HI.out.1;have:=HCN.out.2.2.2;omega
     case rel=>exact ⟨i+1,S,by have:=HI.out.1;have:=HCN.out.2.2.2;omega,by have:=HI.out.2.1;omega,by go_num,by rw [HI.out.2.2,HCN.out.1,if_neg HNO.out,Int.zero_add],HS.out.2.1.upd HU6.out (by simp),HS.out.2.2.2.2.trans (HU6.out.mono (by simp))⟩
    ·have d12:decide (m2<m1)=false:=decide_eq_false h12
     by_cases h34:m4<m3
     ·have d34:decide (m4<m3)=true:=decide_eq_true h34
      have HNO:=Lib.hid (show ¬okI ⟨bx1,bx2,by1,by2,bid⟩ I=true by rw [HCN.out.2.1,decide_eq_false (show ¬m3≤m4 by omega)];simp)
      clear hbc h12 h34
      go_wp2_with fail
      (with_reducible refine (HCO.out _).mono ?_)
      rintro e w6 ⟨rfl,huw6⟩
      have hq6:=HC.out.1.upd huw6 (by simp)
      obtain ⟨k0,k1,k2,k3,k4,-⟩:=hq6.cells
      dsimp only at k0 k1 k2 k3 k4
      have HU6:=Lib.hid (HC.out.2.trans huw6)
      clear huw6 hq6 c0 c1 c2 c3 c4
      go_wp2_with fail
      go_roundg (n - (i+1))
      case measure=>have:=HI.out.1;have:=HCN.out.2.2.2;omega
      case rel=>exact ⟨i+1,S,by have:=HI.out.1;have:=HCN.out.2.2.2;omega,by have:=HI.out.2.1;omega,by go_num,by rw [HI.out.2.2,HCN.out.1,if_neg HNO.out,Int.zero_add],HS.out.2.1.upd HU6.out (by simp),HS.out.2.2.2.2.trans (HU6.out.mono (by simp))⟩
     ·have d34:decide (m4<m3)=false:=decide_eq_false h34
      have hyes:okI ⟨bx1,bx2,by1,by2,bid⟩ I=true:=by rw [HCN.out.2.1,hbc,decide_eq_true (show m1≤m2 by omega),decide_eq_true (show m3≤m4 by omega)];rfl
      have hc:=HCN.out.1
      rw [if_pos hyes] at hc
      have hon:=fun w=>roneZ ⟨m1,m2,m3,m4,0⟩ mX mY HN.out.2.2.2.2 (show m1≤m2 by omega) (show m3≤m4 by omega) HCN.out.2.2.1 w
      have hre:=fun w' hu=>HIH.out (i+1) ⟨m1,m2,m3,m4,0⟩ w' (by have:=HI.out.2.1;omega) (by have:=HCN.out.2.2.2;omega) HCN.out.2.2.1 (show m1≤m2 by omega) (show m3≤m4 by omega) (HSE.out.upd0 hu)
      obtain ⟨O,hO⟩:∃O,oneI mX mY ⟨m1,m2,m3,m4,0⟩=O:=⟨_,rfl⟩
      obtain ⟨R,hR⟩:∃O,cellsI mX mY (l.drop (i+1)) ⟨m1,m2,m3,m4,0⟩=O:=⟨_,rfl⟩
      rw [hO] at hon
      rw [hR] at hre
      rw [hO,hR] at hc
      have hsu:=fun w=>rsumZ S O w
      have hle:=fun w=>rlessZ (S+O) R w
      unfold wideZ at hon hre hsu hle
      unfold bxV at hon hre
      dsimp only at hon hre
      obtain ⟨ah,hah⟩:∃x,zh S=x:=⟨_,rfl⟩
      obtain ⟨al,hal⟩:∃x,zl S=x:=⟨_,rfl⟩
      obtain ⟨oh,hoh⟩:∃x,zh O=x:=⟨_,rfl⟩
      obtain ⟨ol,hol⟩:∃x,zl O=x:=⟨_,rfl⟩
      obtain ⟨sh,hsh⟩:∃x,zh (S+O)=x:=⟨_,rfl⟩
      obtain ⟨sl,hsl⟩:∃x,zl (S+O)=x:=⟨_,rfl⟩
      obtain ⟨rh,hrh⟩:∃x,zh R=x:=⟨_,rfl⟩
      obtain ⟨rl,hrl⟩:∃x,zl R=x:=⟨_,rfl⟩
      obtain ⟨dh,hdh⟩:∃x,zh (S+O - R)=x:=⟨_,rfl⟩
      obtain ⟨dl,hdl⟩:∃x,zl (S+O - R)=x:=⟨_,rfl⟩
      rw [hoh,hol] at hon
      rw [hrh,hrl] at hre
      rw [hah,hal,hoh,hol,hsh,hsl] at hsu
      rw [hsh,hsl,hrh,hrl,hdh,hdl] at hle
      have hz:=HS.out.2.1
      rw [hah,hal] at hz
      have hre':∀w',Upd [] w w'→Calls Tryz.prog 53 #[.slice (some ⟨g,o,none⟩) n C,.int .i64 ((i:Int)+1),.agg #[.int .i64 m1,.int .i64 m2,.int .i64 m3,.int .i64 m4,.int .u32 0],.int .i64 (mX:Int),.int .i64 (mY:Int)] w' fun e w''=>e=.returned (.agg #[.int .u64 rh,.int .u64 rl])∧Upd [] w' w'':=hre
      have hon':∀w,Calls Tryz.prog 110 #[.agg #[.int .i64 m1,.int .i64 m2,.int .i64 m3,.int .i64 m4,.int .u32 0],.int .i64 (mX:Int),.int .i64 (mY:Int)] w fun e w''=>e=.returned (.agg #[.int .u64 oh,.int .u64 ol])∧Upd [] w w'':=hon
      have HON:=Lib.hid hon'
      have HRE:=Lib.hid hre'
      have HSU:=Lib.hid hsu
      have HLE:=Lib.hid hle
      have HHC:=Lib.hid (And.intro hc (And.intro hdh hdl))
      have HZA:=Lib.hid hz
      have yi:IntKind.i64.wrap ((i:Int)+1)=(i:Int)+1:=IntWalk.i64_in _ (by omega)
      clear hyes hc hon hon' hre hre' hO hR hsu hle hah hal hoh hol hsh hsl hrh hrl hdh hdl hz h12 h34
      go_wp2_with fail
      (with_reducible refine (HCO.out _).mono ?_)
      rintro e w6 ⟨rfl,huw6⟩
      have hq6:=HC.out.1.upd huw6 (by simp)
      obtain ⟨k0,k1,k2,k3,k4,-⟩:=hq6.cells
      dsimp only at k0 k1 k2 k3 k4
      have H7:=Lib.hid (And.intro hq6 (And.intro (HZA.out.upd (HC.out.2.trans huw6) (by simp)) (HS.out.2.2.2.1.trans (HC.out.2.trans huw6))))
      have HU6:=Lib.hid (HC.out.2.trans huw6)
      clear huw6 hq6 c0 c1 c2 c3 c4
      go_upto_region 7 with fail
      clear k0 k1 k2 k3 k4
      refine GoT.start [12,13,14] (fun w'=>BxAt w' q ⟨m1,m2,m3,m4,0⟩∧ZAt w' (p+2) ah al) (by kernel_rfl) ?_ fun hS=>?_
      ·exact ⟨H7.out.1.upd (Upd.refl [] _).drew (by simp),H7.out.2.1.upd (Upd.refl [] _).drew (by simp)⟩
      refine' GoT.tk 3 (i:=0) (oi:=⟨some 48,_,_,_,_,_⟩) rfl (by rfl) ?y7_0 ?_
      case y7_0=>intro w hSw;obtain ⟨c0,c1,-⟩:=hSw.2.cells;go_simp<;>with_reducible rfl
      simp only [Act.put,sA,sZ,sS]
      refine' GoT.tk 3 (i:=1) (oi:=⟨some 49,_,_,_,_,_⟩) rfl (by rfl) ?y7_1 ?_
      case y7_1=>intro w hSw;obtain ⟨c0,c1,c2,c3,c4,-⟩:=hSw.1.cells;go_simp<;>with_reducible rfl
      simp only [Act.put,sA,sZ,sS]
      refine' GoT.mv (i:=2) (oi:=⟨some 50,_,_,_,_,_⟩) rfl (by rfl) ?y7_2 ?_
      case y7_2=>intro w;go_simp<;>with_reducible rfl
      simp only [Act.put,sA,sZ,sS]
      refine' GoT.mv (i:=3) (oi:=⟨some 51,_,_,_,_,_⟩) rfl (by rfl) ?y7_3 ?_
      case y7_3=>intro w;go_simp<;>with_reducible rfl
      simp only [Act.put,sA,sZ,sS]
      refine' GoT.mv (i:=6) (oi:=⟨some 54,_,_,_,_,_⟩) rfl (by rfl) ?y7_6 ?_
      case y7_6=>intro w;go_simp<;>with_reducible rfl
      simp only [Act.put,sA,sZ,sS]
      refine' GoT.mv (i:=7) (oi:=⟨some 55,_,_,_,_,_⟩) rfl (by rfl) ?y7_7 ?_
      case y7_7=>intro w;go_simp<;>with_reducible rfl
      simp only [Act.put,sA,sZ,sS]
      refine' GoT.mv (i:=8) (oi:=⟨some 56,_,_,_,_,_⟩) rfl (by rfl) ?y7_8 ?_
      case y7_8=>intro w;go_simp<;>with_reducible rfl
      simp only [Act.put,sA,sZ,sS]
      refine' GoT.tk 3 (i:=9) (oi:=⟨some 57,_,_,_,_,_⟩) rfl (by rfl) ?y7_9 ?_
      case y7_9=>intro w hSw;obtain ⟨c0,c1,c2,c3,c4,-⟩:=hSw.1.cells;go_simp<;>with_reducible rfl
      simp only [Act.put,sA,sZ,sS]
      refine' GoT.mv (i:=10) (oi:=⟨some 58,_,_,_,_,_⟩) rfl (by rfl) ?y7_10 ?_
      case y7_10=>intro w;go_simp<;>with_reducible rfl
      simp only [Act.put,sA,sZ,sS]
      refine' GoT.mv (i:=11) (oi:=⟨some 59,_,_,_,_,_⟩) rfl (by rfl) ?y7_11 ?_
      case y7_11=>intro w;go_simp<;>with_reducible rfl
      simp only [Act.put,sA,sZ,sS]
      refine GoT.one (i:=4) (o:=⟨some 52,_,_,_,_,_⟩) rfl (by kernel_rfl) fun K hK=>?_
      go_simp
      go_at_call 110
      (with_reducible refine (HON.out _).mono ?_)
      rintro e w2 ⟨rfl,huw2⟩
      have HK2:=Lib.hid huw2
      have HU2:=Lib.hid ((Upd.refl [] w6).drew.trans huw2)
      clear huw2
      refine hK.out _ _ (fun _ h=>?_) ?_
      ·exact ⟨h.1.upd HK2.out (by simp),h.2.upd HK2.out (by simp)⟩
      clear hK K
      try simp only [Act.put,sA,sZ,sS]
      refine GoT.one (i:=5) (o:=⟨some 53,_,_,_,_,_⟩) rfl (by kernel_rfl) fun K hK=>?_
      go_simp
      go_at_call 57
      (with_reducible refine (HSU.out _).mono ?_)
      rintro e w3 ⟨rfl,huw3⟩
      have HK3:=Lib.hid huw3
      have HU3:=Lib.hid (HU2.out.trans huw3)
      clear huw3
      refine hK.out _ _ (fun _ h=>?_) ?_
      ·exact ⟨h.1.upd HK3.out (by simp),h.2.upd HK3.out (by simp)⟩
      clear hK K
      try simp only [Act.put,sA,sZ,sS]
      refine GoT.one (i:=12) (o:=⟨some 60,_,_,_,_,_⟩) rfl (by kernel_rfl) fun K hK=>?_
      go_simp
      go_at_call 53
      (with_reducible refine (HRE.out _ (H7.out.2.2.trans HU3.out)).mono ?_)
      rintro e w4 ⟨rfl,huw4⟩
      have HU4:=Lib.hid (HU3.out.trans huw4)
      clear huw4
      refine hK.out _ _ (fun h=>(by cases h)) ?_
      clear hK K
      try simp only [Act.put,sA,sZ,sS]
      refine GoT.one (i:=13) (o:=⟨some 61,_,_,_,_,_⟩) rfl (by kernel_rfl) fun K hK=>?_
      go_simp
      go_at_call 56
      (with_reducible refine (HLE.out _).mono ?_)
      rintro e w5 ⟨rfl,huw5⟩
      have HU5:=Lib.hid (HU4.out.trans huw5)
      have hz5:=H7.out.2.1.upd HU5.out (by simp)
      obtain ⟨t0,t1,tf⟩:=hz5.cells
      have tf0:=tf 0
      have tf1:=tf 1
      have HZ5:=Lib.hid hz5
      clear huw5 hz5 tf
      refine hK.out _ _ (fun h=>(by cases h)) ?_
      clear hK K
      try simp only [Act.put,sA,sZ,sS]
      refine GoT.one (i:=14) (o:=⟨none,_,_,_,_,_⟩) rfl (by kernel_rfl) fun K hK=>?_
      go_simp
      refine hK.out _ _ (fun h=>(by cases h)) ?_
      clear hK K
      try simp only [Act.put,sA,sZ,sS]
      refine GoT.done (by kernel_rfl) ?_
      go_wp2_with fail
      go_roundg (n - (i+1))
      case measure=>have:=HI.out.1;have:=HCN.out.2.2.2;omega
      case rel=>
       refine ⟨i+1,S+O - R,by have:=HI.out.1;have:=HCN.out.2.2.2;omega,by have:=HI.out.2.1;omega,by go_num,by rw [HI.out.2.2,HHC.out.1];omega,?_,?_⟩
       ·rw [HHC.out.2.1,HHC.out.2.2]
        exact (HZ5.out.set0 dh).set1 dl
       ·exact ((HS.out.2.2.2.2.trans ((HU6.out.trans HU5.out).mono (by simp))).setCell (.inl (by simp)) _).setCell (.inl (by simp)) _
  ·have hin:i=n:=by have:=HI.out.1;omega
   have hd:cellsI mX mY (l.drop i) I=0:=by rw [hin,←HN.out.1,List.drop_length];rfl
   have hZS:Z=S:=by rw [←HZZ.out,HI.out.2.2,hd];omega
   obtain ⟨sh,hsh⟩:∃x,zh S=x:=⟨_,rfl⟩
   obtain ⟨sl,hsl⟩:∃x,zl S=x:=⟨_,rfl⟩
   have hz:=HS.out.2.1
   rw [hsh,hsl] at hz
   obtain ⟨c0,c1,-⟩:=hz.cells
   obtain ⟨r0,r1,rf⟩:=HS.out.2.2.1.cells
   have rf0:=rf 0
   have rf1:=rf 1
   have HWV:=Lib.hid (show wideZ Z=.agg #[.int .u64 sh,.int .u64 sl] by unfold wideZ;rw [hZS,hsh,hsl])
   clear hin hd hZS hsh hsl hz rf
   go_wp2_with fail
   obtain ⟨e0,e1,-⟩:=((HS.out.2.2.1.set0 sh).set1 sl).cells
   have HUE:=Lib.hid ((HS.out.2.2.2.1.setCell (p:=⟨p+1,0,none⟩) (.inr (by have:=HP.out;simp;omega)) (.int .u64 sh)).setCell (p:=⟨p+1,1,none⟩) (.inr (by have:=HP.out;simp;omega)) (.int .u64 sl))
   generalize (wl.setCell ⟨p+1,0,none⟩ (.int .u64 sh)).setCell ⟨p+1,1,none⟩ (.int .u64 sl)=Wf at e0 e1 HUE ⊢
   exact bodyPost_ret (v:=.agg #[.int .u64 sh,.int .u64 sl]) (by simp [results,Tryz.results53,go_sem,e0,e1]) rfl ⟨by rw [HWV.out],HUE.out⟩
theorem rcellsZ (v:Value) (l:List Bx) (mX mY:Nat) (hm:mX+mY≤1) (hl:l.length<100000) (hin:∀b∈l,b.in64):∀(d from_:Nat) (I:Bx) (w:World),l.length - from_≤d→from_≤l.length→I.in64→I.x1≤I.x2→I.y1≤I.y2→See KBx w v l→
 Calls Tryz.prog 53 #[v,.int .i64 (from_:Int),bxV I,.int .i64 (mX:Int),.int .i64 (mY:Int)] w fun e w'=>e=.returned (wideZ (cellsI mX mY (l.drop from_) I))∧Upd [] w w':=by
 intro d
 induction d with
 |zero=>intro fr I w hd hfl hI _ _ hs;exact rcells_step v l mX mY fr I w hm hl hin hfl hI hs fun f' J w' h1 h2=>by omega
 |succ d ih=>intro fr I w hd hfl hI _ _ hs;exact rcells_step v l mX mY fr I w hm hl hin hfl hI hs fun f' J w' h1 h2 h3 h4 h5 h6=>ih f' J w' (by omega) h2 h3 h4 h5 h6
end Go.Proofs.YtkmnbodlciepaaaGreat
