/- cells.Rim: its two function values. What cells.Rim reckons, plainly. cells.Rim: the walk. -/
import Derived.Test.YtkmnbodlciepaaaGreatPk38
set_option maxHeartbeats 16000000
set_option maxRecDepth 100000
namespace Go.Proofs.YtkmnbodlciepaaaGreat
open Go.RowKit
def isR (ll:List (List Bool)) (i k:Int):Bool:=if 0≤i then (if 0≤k then ((ll[i.toNat]?.getD [])[k.toNat]?).getD false else false) else false
theorem isFn (vc:Value) (ll:List (List Bool)) (pc:Nat) (i k:Int) (w:World) (cc:w.cell? ⟨pc,0,none⟩=some vc) (hr:SeeRows w vc ll) :
 Calls Tryz.prog 122 #[.int .i64 i,.int .i64 k,.pointer (some ⟨pc,0,none⟩)] w fun e w'=>e=.returned (.bool (isR ll i k))∧Upd [] w w':=by
 obtain ⟨A,C,rfl⟩:=hr.form
 by_cases hi:0≤i
 ·have d1:decide (0≤i)=true:=decide_eq_true hi
  by_cases hk:0≤k
  ·have d2:decide (0≤k)=true:=decide_eq_true hk
   obtain ⟨a,rfl⟩:=Int.eq_ofNat_of_zero_le hi
   obtain ⟨b,rfl⟩:=Int.eq_ofNat_of_zero_le hk
   by_cases ha:a<ll.length
   ·have d3:decide (a<ll.length)=true:=decide_eq_true ha
    have d3':(a:Int)<(ll.length:Int):=by omega
    obtain ⟨r,hr'⟩:∃r,ll[a]? = some r:=⟨_,List.getElem?_eq_getElem ha⟩
    obtain ⟨gb,go,Ak,Ck,hA,crow,hrow⟩:=hr.at hr'
    subst hA
    by_cases hb:b<r.length
    ·have d4:decide (b<r.length)=true:=decide_eq_true hb
     have d4':(b:Int)<(r.length:Int):=by omega
     obtain ⟨c,hc⟩:∃c,r[b]? = some c:=⟨_,List.getElem?_eq_getElem hb⟩
     obtain ⟨gk,gko,hAk,cb⟩:=KBat hrow hc
     subst hAk
     have e:isR ll (a:Int) (b:Int)=c:=by
      unfold isR
      rw [if_pos hi,if_pos hk]
      simp [hr',hc]
     rw [e]
     clear e hr' hr hrow hc ha hb
     go_enter Tryz.func122,Tryz.ntmps122
     go_wp2_with fail
     go_ret
     exact ⟨rfl,Upd.refl _ _⟩
    ·have d4:decide (b<r.length)=false:=decide_eq_false hb
     have e:isR ll (a:Int) (b:Int)=false:=by
      unfold isR
      rw [if_pos hi,if_pos hk]
      simp [hr',List.getElem?_eq_none (Nat.le_of_not_lt hb)]
     rw [e]
     clear e hr' hr hrow ha hb
     go_enter Tryz.func122,Tryz.ntmps122
     go_wp2_with fail
     go_ret
     exact ⟨rfl,Upd.refl _ _⟩
   ·have d3:decide (a<ll.length)=false:=decide_eq_false ha
    have e:isR ll (a:Int) (b:Int)=false:=by
     unfold isR
     rw [if_pos hi,if_pos hk]
     simp [List.getElem?_eq_none (Nat.le_of_not_lt ha)]
    rw [e]
    clear e hr ha
    go_enter Tryz.func122,Tryz.ntmps122
    go_wp2_with fail
    go_ret
    exact ⟨rfl,Upd.refl _ _⟩
  ·have d2:decide (0≤k)=false:=decide_eq_false hk
   have e:isR ll i k=false:=by unfold isR;rw [if_pos hi,if_neg hk]
   rw [e]
   clear e hr hk
   go_enter Tryz.func122,Tryz.ntmps122
   go_wp2_with fail
   go_ret
   exact ⟨rfl,Upd.refl _ _⟩
 ·have d1:decide (0≤i)=false:=decide_eq_false hi
  have e:isR ll i k=false:=by unfold isR;rw [if_neg hi]
  rw [e]
  clear e hr hi
  go_enter Tryz.func122,Tryz.ntmps122
  go_wp2_with fail
  go_ret
  exact ⟨rfl,Upd.refl _ _⟩
theorem keep2 {w w':World} {a1 a2:Addr} {v1 v2:Value} (h:w.cell? a1=some v1∧w.cell? a2=some v2) (hu:Upd [] w w'):w'.cell? a1=some v1∧w'.cell? a2=some v2:=by
 have e:∀{a:Addr} {v:Value},w.cell? a=some v→w'.cell? a=some v:=fun {a v} ha=>(hu.cell (World.block_lt_of_cell? w _ ha) (by simp)).trans ha
 exact ⟨e h.1,e h.2⟩
def MorePost (w:World) (p n:Nat) (e:Ending) (w':World):Prop:=e=.returned (.tuple #[])∧SumAt w' p n∧Upd [p] w w'
theorem moreFn (p N M:Nat) (w:World) (hM:M<18446744073709551616) (hs:SumAt w p N) (hW:W128 (N+M)) :
 Calls Tryz.prog 123 #[.int .u64 (M:Int),.pointer (some ⟨p,0,none⟩)] w (MorePost w p (N+M)):=by
 unfold MorePost
 have hof:=fun w=>wOfC M hM w
 have had:=fun w=>wAddC N M hW w
 obtain ⟨h,hh⟩:∃h,N / 18446744073709551616=h:=⟨_,rfl⟩
 obtain ⟨lo,hlo⟩:∃lo,N % 18446744073709551616=lo:=⟨_,rfl⟩
 obtain ⟨h2,hh2⟩:∃h,(N+M) / 18446744073709551616=h:=⟨_,rfl⟩
 obtain ⟨lo2,hlo2⟩:∃lo,(N+M) % 18446744073709551616=lo:=⟨_,rfl⟩
 obtain ⟨mh,hmh⟩:∃h,M / 18446744073709551616=h:=⟨_,rfl⟩
 obtain ⟨ml,hml2⟩:∃lo,M % 18446744073709551616=lo:=⟨_,rfl⟩
 unfold wideV at had hof
 simp only [hh,hlo,hh2,hlo2,hmh,hml2] at had hof
 obtain ⟨s0,s1,-⟩:=hs.cells
 rw [hh] at s0
 rw [hlo] at s1
 have HNEW:=Lib.hid (And.intro hh2 hlo2)
 have HOF:=Lib.hid hof
 have HADD:=Lib.hid had
 have HSUM:=Lib.hid hs
 have HC2:=Lib.hid (show w.drew.cell? ⟨p,0,none⟩=some (.int .u64 (h:Int))∧w.drew.cell? ⟨p,1,none⟩=some (.int .u64 (lo:Int)) from ⟨s0,s1⟩)
 clear hof had hh hlo hh2 hlo2 hmh hml2 s0 s1 hs hM hW
 go_enter Tryz.func123,Tryz.ntmps123
 go_wp2_with fail
 refine GoT.start [3,4,5,6,7] (fun w'=>w'.cell? ⟨p,0,none⟩=some (.int .u64 h)∧w'.cell? ⟨p,1,none⟩=some (.int .u64 lo)) (by kernel_rfl) ?_ fun hS=>?_
 ·exact HC2.out
 refine' GoT.tk 3 (i:=0) (oi:=⟨some 4,_,_,_,_,_⟩) rfl (by rfl) ?y0_0 ?_
 case y0_0=>intro w hSw;go_simp<;>with_reducible rfl
 simp only [Act.put,sA,sZ,sS]
 refine' GoT.mv (i:=1) (oi:=⟨some 5,_,_,_,_,_⟩) rfl (by rfl) ?y0_1 ?_
 case y0_1=>intro w;go_simp<;>with_reducible rfl
 simp only [Act.put,sA,sZ,sS]
 refine GoT.one (i:=2) (o:=⟨some 6,_,_,_,_,_⟩) rfl (by kernel_rfl) fun K hK=>?_
 go_simp
 go_at_call 23
 (with_reducible refine (HOF.out _).mono ?_)
 rintro e w5 ⟨rfl,hu5⟩
 refine hK.out _ _ (fun _ h=>?_) ?_
 ·exact keep2 h hu5
 clear hK K
 try simp only [Act.put,sA,sZ,sS]
 have HU5:=Lib.hid hu5
 clear hu5
 refine GoT.one (i:=3) (o:=⟨some 7,_,_,_,_,_⟩) rfl (by kernel_rfl) fun K hK=>?_
 go_simp
 go_at_call 44
 (with_reducible refine (HADD.out _).mono ?_)
 rintro e w6 ⟨rfl,hu6⟩
 refine hK.out _ _ (fun h=>(by cases h)) ?_
 clear hK K
 try simp only [Act.put,sA,sZ,sS]
 have HU6:=Lib.hid (HU5.out.trans hu6)
 have hsm:=(HSUM.out.upd0 ((Upd.refl [] w).drew)).upd0 HU6.out
 obtain ⟨z0,z1,zf⟩:=hsm.cells
 have zf0:=zf 0
 have zf1:=zf 1
 have HS6:=Lib.hid hsm
 clear hu6 zf hsm
 refine' GoT.mv (i:=4) (oi:=⟨some 3,_,_,_,_,_⟩) rfl (by rfl) ?y0_4 ?_
 case y0_4=>intro w;go_simp<;>with_reducible rfl
 simp only [Act.put,sA,sZ,sS]
 refine' GoT.mv (i:=5) (oi:=⟨some 8,_,_,_,_,_⟩) rfl (by rfl) ?y0_5 ?_
 case y0_5=>intro w;go_simp<;>with_reducible rfl
 simp only [Act.put,sA,sZ,sS]
 refine' GoT.mv (i:=6) (oi:=⟨some 9,_,_,_,_,_⟩) rfl (by rfl) ?y0_6 ?_
 case y0_6=>intro w;go_simp<;>with_reducible rfl
 simp only [Act.put,sA,sZ,sS]
 refine GoT.one (i:=7) (o:=⟨none,_,_,_,_,_⟩) rfl (by kernel_rfl) fun K hK=>?_
 go_simp
 refine hK.out _ _ (fun h=>(by cases h)) ?_
 clear hK K
 try simp only [Act.put,sA,sZ,sS]
 refine GoT.done (by kernel_rfl) ?_
 have HSN:=Lib.hid (HS6.out.set HNEW.out.1.symm HNEW.out.2.symm)
 clear z0 z1 zf0 zf1
 go_wp2_with fail
 go_end0
 exact ⟨rfl,HSN.out,(((((Upd.refl [p] w).drew).trans (HU6.out.mono (by simp))).setCell (p:=⟨p,0,none⟩) (.inl (by simp)) _).setCell (p:=⟨p,1,none⟩) (.inl (by simp)) _)⟩
end Go.Proofs.YtkmnbodlciepaaaGreat
namespace Go.Proofs.YtkmnbodlciepaaaGreat
def sideV (l:List Bx) (X Y:List Int) (i k:Nat):Nat:=if k+1<Y.length∧(isR (colsB l X Y) ((i:Int) - 1) k != isR (colsB l X Y) i k)=true then (nth Y (k+1) - nth Y k).toNat else 0
def sideH (l:List Bx) (X Y:List Int) (i k:Nat):Nat:=if i+1<X.length∧(isR (colsB l X Y) i ((k:Int) - 1) != isR (colsB l X Y) i k)=true then (nth X (i+1) - nth X i).toNat else 0
def rimC (l:List Bx) (X Y:List Int) (i t:Nat):Nat:=sumK (fun k=>sideV l X Y i k+sideH l X Y i k) t
def rimK (l:List Bx) (X Y:List Int) (n:Nat):Nat:=sumK (fun i=>rimC l X Y i Y.length) n
def rimN (l:List Bx):Nat:=rimK l (sqz (linX l)) (sqz (linY l)) (sqz (linX l)).length
theorem rimC_succ (l:List Bx) (X Y:List Int) (i t:Nat):rimC l X Y i (t+1)=rimC l X Y i t+(sideV l X Y i t+sideH l X Y i t):=rfl
theorem rimK_succ (l:List Bx) (X Y:List Int) (k:Nat):rimK l X Y (k+1)=rimK l X Y k+rimC l X Y k Y.length:=rfl
theorem sumK_le (f:Nat→Nat) (b:Nat):∀n,(∀i,i<n→f i≤b)→sumK f n≤n*b
 |0,_=>by simp [sumK]
 |n+1,h=>by
  have h1:=sumK_le f b n (fun i hi=>h i (by omega))
  have h2:=h n (by omega)
  rw [sumK,Nat.add_mul,Nat.one_mul];omega
section
variable {l:List Bx} {X Y:List Int}
theorem nth_in {l:List Int} (h:∀x∈l,-9223372036854775808≤x∧x≤9223372036854775807) (i:Nat) : -9223372036854775808≤nth l i∧nth l i≤9223372036854775807:=by
 by_cases hi:i<l.length
 ·exact h _ (List.mem_of_getElem? (nth_get hi))
 ·unfold nth
  rw [List.getElem?_eq_none (by omega)]
  exact ⟨by decide,by decide⟩
theorem sideV_lt (hY:∀x∈Y,-9223372036854775808≤x∧x≤9223372036854775807) (i k:Nat):sideV l X Y i k<18446744073709551616:=by
 have h1:=nth_in hY k
 have h2:=nth_in hY (k+1)
 unfold sideV
 split<;>omega
theorem sideH_lt (hX:∀x∈X,-9223372036854775808≤x∧x≤9223372036854775807) (i k:Nat):sideH l X Y i k<18446744073709551616:=by
 have h1:=nth_in hX i
 have h2:=nth_in hX (i+1)
 unfold sideH
 split<;>omega
theorem rim_W (hX:∀x∈X,-9223372036854775808≤x∧x≤9223372036854775807) (hY:∀x∈Y,-9223372036854775808≤x∧x≤9223372036854775807) (hx:X.length≤2000000) (hy:Y.length≤2000000) (i t:Nat) (hi:i≤X.length) (ht:t≤Y.length) :
 W128 (rimK l X Y i+rimC l X Y i t):=by
 have h1:∀i t,rimC l X Y i t≤t*36893488147419103232:=fun i t=>sumK_le _ _ _ fun k _=>by have:=sideV_lt (l:=l) (X:=X) hY i k;have:=sideH_lt (l:=l) (Y:=Y) hX i k;omega
 have h2:rimK l X Y i≤i*(2000000*36893488147419103232):=sumK_le _ _ _ fun k _=>Nat.le_trans (h1 k Y.length) (Nat.mul_le_mul_right _ hy)
 have h3:=h1 i t
 unfold W128
 omega
theorem isR_cols (i k:Int):isR (colsB l X Y) i k=if 0≤i∧0≤k∧i.toNat<X.length - 1∧k.toNat<Y.length - 1 then covB l (nth X i.toNat) (nth Y k.toNat) else false:=by
 unfold isR
 by_cases hi:0≤i
 ·by_cases hk:0≤k
  ·rw [if_pos hi,if_pos hk]
   by_cases h1:i.toNat<X.length - 1
   ·rw [colsB_get h1]
    by_cases h2:k.toNat<Y.length - 1
    ·rw [if_pos ⟨hi,hk,h1,h2⟩]
     unfold colB
     simp [rowL_get h2]
    ·rw [if_neg (by omega)]
     unfold colB
     have h3:(rowL (Y.length - 1) fun k=>covB l (nth X i.toNat) (nth Y k))[k.toNat]? = none:=List.getElem?_eq_none (by rw [rowL_len];omega)
     simp [h3]
   ·have h3:(colsB l X Y)[i.toNat]? = none:=List.getElem?_eq_none (by rw [colsB_len];omega)
    rw [if_neg (by omega),h3]
    simp
  ·rw [if_pos hi,if_neg hk,if_neg (by omega)]
 ·rw [if_neg hi,if_neg (by omega)]
end
theorem rimCC (v:Value) (l:List Bx) (w:World) (hs:See KBx w v l) (hl:l.length<1000000) (hb:∀b∈l,b.in64) :
 Calls Tryz.prog 87 #[v] w fun e w'=>e=.returned (wideV (rimN l))∧Upd [] w w':=by
 obtain ⟨A,C,rfl⟩:=hs.form
 have hu0:Upd [] w (w.alloc (.cells #[.int .u64 0,.int .u64 0] 37)):=(Upd.refl _ _).alloc _
 have hbk:=blocksC (.slice A l.length C) l _ (hs.upd0 hu0) hl
 have hxr:=sqz_rise (linX l)
 have hyr:=sqz_rise (linY l)
 have hx64:∀x∈sqz (linX l),-9223372036854775808≤x∧x≤9223372036854775807:=fun x hx=>linX_in hb x (sqz_mem hx)
 have hy64:∀x∈sqz (linY l),-9223372036854775808≤x∧x≤9223372036854775807:=fun x hx=>linY_in hb x (sqz_mem hx)
 have hlx:(sqz (linX l)).length≤2000000:=Nat.le_trans (sqz_len _) (by have:=linX_len l;omega)
 have hly:(sqz (linY l)).length≤2000000:=Nat.le_trans (sqz_len _) (by have:=linY_len l;omega)
 have hpart:=rim_W (l:=l) hx64 hy64 hlx hly
 have hae:rimN l=rimK l (sqz (linX l)) (sqz (linY l)) (sqz (linX l)).length:=rfl
 obtain ⟨X,hX⟩:∃X,sqz (linX l)=X:=⟨_,rfl⟩
 obtain ⟨Y,hY⟩:∃Y,sqz (linY l)=Y:=⟨_,rfl⟩
 rw [hX] at hbk hpart hxr hx64 hlx hae
 rw [hY] at hbk hpart hyr hy64 hly hae
 rw [hae]
 have h20:(w.alloc (.cells #[.int .u64 0,.int .u64 0] 37)).heap[w.heap.size]? = some (.cells #[.int .u64 0,.int .u64 0] 37 (0,0)):=heap_alloc_new _ _
 have HBK:=Lib.hid hbk
 have HPART:=Lib.hid hpart
 have HXR:=Lib.hid (And.intro hxr hx64)
 have HYR:=Lib.hid (And.intro hyr hy64)
 have HU0:=Lib.hid hu0
 have H20:=Lib.hid h20
 have HLX:=Lib.hid hlx
 have HLY:=Lib.hid hly
 clear hbk hpart hxr hyr hx64 hy64 hlx hly hae hX hY hs hl hb hu0 h20
 go_enter Tryz.func87,Tryz.ntmps87
 go_wp2_with fail
 (with_reducible refine HBK.out.mono ?_)
 rintro e W1 ⟨A1,C1,A2,C2,A3,C3,rfl,sx,sy,sr,hu1⟩
 have h2:=(hu1.block w.heap.size (lt_of_block H20.out) (by simp)).trans H20.out
 have hw1:=HU0.out.trans hu1
 have hs0:SumAt ((W1.alloc (.cells #[.slice A3 (X.length - 1) C3] 178)).alloc (.cells #[.int .u64 0,.int .u64 0] 37)) (W1.heap.size+1) 0:=by
  have:SumAt _ _ 0:=heap_alloc_new (W1.alloc (.cells #[.slice A3 (X.length - 1) C3] 178)) (.cells #[.int .u64 0,.int .u64 0] 37)
  simpa using this
 have hua:Upd [] W1 ((W1.alloc (.cells #[.slice A3 (X.length - 1) C3] 178)).alloc (.cells #[.int .u64 0,.int .u64 0] 37)):=((Upd.refl _ _).alloc _).alloc _
 have hcc:((W1.alloc (.cells #[.slice A3 (X.length - 1) C3] 178)).alloc (.cells #[.int .u64 0,.int .u64 0] 37)).cell? ⟨W1.heap.size,0,none⟩=some (.slice A3 (X.length - 1) C3):=by
  rw [World.cell?_alloc_past _ _ _ (by simp),World.cell?_alloc_at _ _ _ _ rfl];rfl
 have hcz:W1.heap.size<((W1.alloc (.cells #[.slice A3 (X.length - 1) C3] 178)).alloc (.cells #[.int .u64 0,.int .u64 0] 37)).heap.size:=by simp;omega
 obtain ⟨Wb,hWb⟩:∃Wb,((W1.alloc (.cells #[.slice A3 (X.length - 1) C3] 178)).alloc (.cells #[.int .u64 0,.int .u64 0] 37))=Wb:=⟨_,rfl⟩
 rw [hWb] at hs0 hua hcc hcz
 have HSX:=Lib.hid (And.intro sx (And.intro sy sr))
 have HS00:=Lib.hid hs0
 have HW1:=Lib.hid (And.intro hw1 h2)
 obtain ⟨n,hn⟩:∃n:Nat,X.length=n:=⟨_,rfl⟩
 obtain ⟨m,hm⟩:∃m:Nat,Y.length=m:=⟨_,rfl⟩
 obtain ⟨q,hq⟩:∃q,W1.heap.size=q:=⟨_,rfl⟩
 obtain ⟨p,hp⟩:∃p,q+1=p:=⟨_,rfl⟩
 have hqp:q∉[p]:=by simp;omega
 have HT1:=Lib.hid (show ∀w',Upd [p] Wb w'→Upd [] W1 w' from fun w' hu=>hua.trans' hu (fun x hx=>.inr (by simp at hx;omega)))
 have HIS:=Lib.hid (show ∀w',Upd [p] Wb w'→∀i k:Int,Calls Tryz.prog 122 #[.int .i64 i,.int .i64 k,.pointer (some ⟨q,0,none⟩)] w' fun e w''=>e=.returned (.bool (isR (colsB l X Y) i k))∧Upd [] w' w'' from fun w' hu i k=>
  isFn (.slice A3 (X.length - 1) C3) (colsB l X Y) q i k w' ((hu.cell (p:=⟨q,0,none⟩) (by rw [←hq];exact hcz) hqp).trans (by rw [←hq];exact hcc)) (sr.upd0 (HT1.out w' hu)))
 rw [hq,hp] at HS00
 have HN:=Lib.hid (And.intro hn hm)
 have hnb:(X.length:Int)≤2000000:=by have:=HLX.out;omega
 have hmb:(Y.length:Int)≤2000000:=by have:=HLY.out;omega
 clear sx sy sr hu1 h2 hw1 hs0 hua hcc hcz hqp hn hm
 go_upto_block 0 with fail
 clear hq hp hWb
 go_wp2_with fail
 go_loopg [21] n (fun j s21 wr=>∃k,j+k=n∧s21=.int .i64 (k:Int)∧SumAt wr p (rimK l X Y k)∧Upd [p] Wb wr)
 case atStart=>exact ⟨0,rfl,rfl,HS00.out,Upd.refl _ _⟩
 case round=>
  obtain ⟨k,hk,rfl,hsum,hu⟩:=hrel
  have b0:(0:Int)≤(k:Int):=Int.natCast_nonneg _
  by_cases hlt:k<n
  ·have b1:(k:Int)<(X.length:Int):=by have:=HN.out.1;omega
   have b2:(k:Int)<2000000:=by omega
   obtain ⟨wo,rfl⟩:∃wo:World,wo=wr:=⟨_,rfl⟩
   have HU0':=Lib.hid hu
   have HK:=Lib.hid hk
   have HLT:=Lib.hid hlt
   have HS1:=Lib.hid hsum
   clear hu hk hlt hsum
   go_wp2_with fail
   go_loopg [26] m (fun j s26 wr=>∃t,j+t=m∧s26=.int .i64 (t:Int)∧SumAt wr p (rimK l X Y k+rimC l X Y k t)∧Upd [p] Wb wr)
   case atStart=>exact ⟨0,by omega,rfl,HS1.out,HU0'.out⟩
   case round=>
    obtain ⟨t,ht,rfl,hsum,hu⟩:=hrel
    have t0:(0:Int)≤(t:Int):=Int.natCast_nonneg _
    by_cases hlt2:t<m
    ·have t1:(t:Int)<(Y.length:Int):=by have:=HN.out.2;omega
     have t2:(t:Int)<2000000:=by omega
     have HT:=Lib.hid ht
     have HLT2:=Lib.hid hlt2
     have hX1:=nth_get (l:=X) (i:=k) (by have:=HN.out.1;have:=HLT.out;omega)
     have hY1:=nth_get (l:=Y) (i:=t) (by have:=HN.out.2;omega)
     have x64:=nth_in HXR.out.2 k
     have x64':=nth_in HXR.out.2 (k+1)
     have y64:=nth_in HYR.out.2 t
     have y64':=nth_in HYR.out.2 (t+1)
     have hbd:=HPART.out k (t+1) (by have:=HN.out.1;have:=HLT.out;omega) (by have:=HN.out.2;omega)
     have hv1:=fun w' hu=>HIS.out w' hu ((k:Int) - 1) (t:Int)
     have hv2:=fun w' hu=>HIS.out w' hu (k:Int) (t:Int)
     have hh1:=fun w' hu=>HIS.out w' hu (k:Int) ((t:Int) - 1)
     obtain ⟨a1,ha1⟩:∃a,isR (colsB l X Y) ((k:Int) - 1) (t:Int)=a:=⟨_,rfl⟩
     obtain ⟨a2,ha2⟩:∃a,isR (colsB l X Y) (k:Int) ((t:Int) - 1)=a:=⟨_,rfl⟩
     obtain ⟨b,hb⟩:∃a,isR (colsB l X Y) (k:Int) (t:Int)=a:=⟨_,rfl⟩
     simp only [ha1] at hv1
     simp only [hb] at hv2
     simp only [ha2] at hh1
     have HV1:=Lib.hid hv1
     have HV2:=Lib.hid hv2
     have HH1:=Lib.hid hh1
     have HH2:=HV2
     obtain ⟨N,hNN⟩:∃N,rimK l X Y k+rimC l X Y k t=N:=⟨_,rfl⟩
     rw [hNN] at hsum
     obtain ⟨V,hVd⟩:∃V,(nth Y (t+1) - nth Y t).toNat=V:=⟨_,rfl⟩
     obtain ⟨M,hHd⟩:∃M,(nth X (k+1) - nth X k).toNat=M:=⟨_,rfl⟩
     obtain ⟨x0,hx0⟩:∃x,nth X k=x:=⟨_,rfl⟩
     obtain ⟨x1,hx1⟩:∃x,nth X (k+1)=x:=⟨_,rfl⟩
     obtain ⟨y0,hy0⟩:∃x,nth Y t=x:=⟨_,rfl⟩
     obtain ⟨y1,hy1⟩:∃x,nth Y (t+1)=x:=⟨_,rfl⟩
     rw [hx0] at x64
     rw [hx1] at x64'
     rw [hy0] at y64
     rw [hy1] at y64'
     have HSW:=Lib.hid hsum
     have HUW:=Lib.hid hu
     clear hv1 hv2 hh1 hsum hu ht hlt2
     by_cases hdV:t+1<Y.length
     ·obtain ⟨xV,hxV⟩:∃x,(a1==b)=x:=⟨_,rfl⟩
      cases xV
      ·have dV:(t:Int)+1<(Y.length:Int):=by omega
       have eV:sideV l X Y k t=V:=by unfold sideV;rw [if_pos ⟨hdV,by rw [ha1,hb,bne,hxV];rfl⟩,hVd]
       by_cases hdH:k+1<X.length
       ·obtain ⟨xH,hxH⟩:∃x,(a2==b)=x:=⟨_,rfl⟩
        cases xH
        ·have dH:(k:Int)+1<(X.length:Int):=by omega
         have eH:sideH l X Y k t=M:=by unfold sideH;rw [if_pos ⟨hdH,by rw [ha2,hb,bne,hxH];rfl⟩,hHd]
         have htot:rimK l X Y k+rimC l X Y k (t+1)=N+V+M:=by rw [rimC_succ,eV,eH];omega
         have HTOT:=Lib.hid htot
         have HMV:=Lib.hid (fun w hs=>moreFn p N V w (by rw [←hVd];omega) hs (hbd.mono (by rw [rimC_succ,eV,eH];omega)))
         have HMH:=Lib.hid (fun w hs=>moreFn p (N+V) M w (by rw [←hHd];omega) hs (hbd.mono (by rw [rimC_succ,eV,eH];omega)))
         have hY2:=nth_get (l:=Y) (i:=t+1) hdV
         obtain ⟨gy,oy,hAy,-,-,cy0⟩:=KL.at HSX.out.2.1 hY1
         obtain ⟨gy2,oy2,hAy2,-,-,cy1⟩:=KL.at HSX.out.2.1 hY2
         subst hAy
         cases hAy2
         rw [hy0] at cy0
         rw [hy1] at cy1
         have HCY:=Lib.hid (And.intro cy0 cy1)
         have hdfy:=fun w=>diffC y0 y1 w y64 y64'
         rw [show diffN y0 y1=(V:Int) by have:=rise_stepC HYR.out.1 hY1 hY2;rw [hy0,hy1] at this;unfold diffN;rw [if_neg (by omega)];omega] at hdfy
         have HDY:=Lib.hid hdfy
         clear cy0 cy1 hdfy hY2
         have hX2:=nth_get (l:=X) (i:=k+1) hdH
         obtain ⟨gx,ox,hAx,-,-,cx0⟩:=KL.at HSX.out.1 hX1
         obtain ⟨gx2,ox2,hAx2,-,-,cx1⟩:=KL.at HSX.out.1 hX2
         subst hAx
         cases hAx2
         rw [hx0] at cx0
         rw [hx1] at cx1
         have HCX:=Lib.hid (And.intro cx0 cx1)
         have hdfx:=fun w=>diffC x0 x1 w x64 x64'
         rw [show diffN x0 x1=(M:Int) by have:=rise_stepC HXR.out.1 hX1 hX2;rw [hx0,hx1] at this;unfold diffN;rw [if_neg (by omega)];omega] at hdfx
         have HDX:=Lib.hid hdfx
         clear cx0 cx1 hdfx hX2
         clear htot eV eH hbd ha1 hb ha2 hVd hHd hNN hX1 hY1 hx0 hx1 hy0 hy1 x64 x64' y64 y64' hdV hdH
         go_wp2_with fail
         (with_reducible refine (HV1.out _ HUW.out).mono ?_)
         rintro e w3a ⟨rfl,hu3a⟩
         have HSW:=Lib.hid (HSW.out.upd0 hu3a)
         have HUW:=Lib.hid (HUW.out.trans (hu3a.mono (by simp)))
         clear hu3a
         go_wp2_with fail
         (with_reducible refine (HV2.out _ HUW.out).mono ?_)
         rintro e w4a ⟨rfl,hu4a⟩
         have HSW:=Lib.hid (HSW.out.upd0 hu4a)
         have HUW:=Lib.hid (HUW.out.trans (hu4a.mono (by simp)))
         clear hu4a
         go_wp2_with fail
         have kp:(0:Int)≤(k:Int)+1:=by omega
         have tp:(0:Int)≤(t:Int)+1:=by omega
         have kn:((k:Int)+1).toNat=k+1:=by omega
         have tn:((t:Int)+1).toNat=t+1:=by omega
         have wk:IntKind.i64.wrap ((k:Int)+1)=(k:Int)+1:=IntWalk.i64_in _ ⟨by omega,by omega⟩
         have wt:IntKind.i64.wrap ((t:Int)+1)=(t:Int)+1:=IntWalk.i64_in _ ⟨by omega,by omega⟩
         have HSW:=Lib.hid (show SumAt w4a.drew p N from HSW.out)
         have HUW:=Lib.hid (show Upd [p] Wb w4a.drew from HUW.out.drew)
         refine GoT.start [10,11] (fun w'=>w'.cell? ⟨gy,oy+t,none⟩=some (.int .i64 y0)∧w'.cell? ⟨gy,oy+(t+1),none⟩=some (.int .i64 y1)) (by kernel_rfl) ?_ fun hS=>?_
         ·exact (show _ from keep2 HCY.out (show Upd [] W1 _ from HT1.out _ HUW.out))
         refine' GoT.mv (i:=0) (oi:=⟨some 46,_,_,_,_,_⟩) rfl (by rfl) ?yv1n12_0 ?_
         case yv1n12_0=>intro w;go_simp<;>with_reducible rfl
         simp only [Act.put,sA,sZ,sS]
         refine' GoT.mv (i:=1) (oi:=⟨some 47,_,_,_,_,_⟩) rfl (by rfl) ?yv1n12_1 ?_
         case yv1n12_1=>intro w;go_simp<;>with_reducible rfl
         simp only [Act.put,sA,sZ,sS]
         refine' GoT.mv (i:=2) (oi:=⟨some 48,_,_,_,_,_⟩) rfl (by rfl) ?yv1n12_2 ?_
         case yv1n12_2=>intro w;go_simp<;>with_reducible rfl
         simp only [Act.put,sA,sZ,sS]
         refine' GoT.mv (i:=3) (oi:=⟨some 49,_,_,_,_,_⟩) rfl (by rfl) ?yv1n12_3 ?_
         case yv1n12_3=>intro w;go_simp<;>with_reducible rfl
         simp only [Act.put,sA,sZ,sS]
         refine' GoT.tk 2 (i:=4) (oi:=⟨some 50,_,_,_,_,_⟩) rfl (by rfl) ?yv1n12_4 ?_
         case yv1n12_4=>intro w hSw;go_simp<;>with_reducible rfl
         simp only [Act.put,sA,sZ,sS]
         refine' GoT.mv (i:=5) (oi:=⟨some 51,_,_,_,_,_⟩) rfl (by rfl) ?yv1n12_5 ?_
         case yv1n12_5=>intro w;go_simp<;>with_reducible rfl
         simp only [Act.put,sA,sZ,sS]
         refine' GoT.mv (i:=6) (oi:=⟨some 52,_,_,_,_,_⟩) rfl (by rfl) ?yv1n12_6 ?_
         case yv1n12_6=>intro w;go_simp<;>with_reducible rfl
         simp only [Act.put,sA,sZ,sS]
         refine' GoT.mv (i:=7) (oi:=⟨some 53,_,_,_,_,_⟩) rfl (by rfl) ?yv1n12_7 ?_
         case yv1n12_7=>intro w;go_simp<;>with_reducible rfl
         simp only [Act.put,sA,sZ,sS]
         refine' GoT.mv (i:=8) (oi:=⟨some 54,_,_,_,_,_⟩) rfl (by rfl) ?yv1n12_8 ?_
         case yv1n12_8=>intro w;go_simp<;>with_reducible rfl
         simp only [Act.put,sA,sZ,sS]
         refine' GoT.tk 2 (i:=9) (oi:=⟨some 55,_,_,_,_,_⟩) rfl (by rfl) ?yv1n12_9 ?_
         case yv1n12_9=>intro w hSw;go_simp<;>with_reducible rfl
         simp only [Act.put,sA,sZ,sS]
         refine GoT.one (i:=10) (o:=⟨some 56,_,_,_,_,_⟩) rfl (by kernel_rfl) fun K hK=>?_
         go_simp
         go_at_call 47
         (with_reducible refine (HDY.out _).mono ?_)
         rintro e w' ⟨rfl,rfl⟩
         refine hK.out _ _ (fun h=>(by cases h)) ?_
         clear hK K
         try simp only [Act.put,sA,sZ,sS]
         refine GoT.one (i:=11) (o:=⟨some 57,_,_,_,_,_⟩) rfl (by kernel_rfl) fun K hK=>?_
         go_simp
         go_at_call 123
         (with_reducible refine (HMV.out _ HSW.out).mono ?_)
         rintro e w7v ⟨rfl,hs7,hu7⟩
         refine hK.out _ _ (fun h=>(by cases h)) ?_
         clear hK K
         try simp only [Act.put,sA,sZ,sS]
         have HSW:=Lib.hid hs7
         have HUW:=Lib.hid (HUW.out.trans hu7)
         clear hs7 hu7
         refine GoT.done (by kernel_rfl) ?_
         skip
         clear wk wt kn tn kp tp
         go_wp2_with fail
         (with_reducible refine (HH1.out _ HUW.out).mono ?_)
         rintro e w5a ⟨rfl,hu5a⟩
         have HSW:=Lib.hid (HSW.out.upd0 hu5a)
         have HUW:=Lib.hid (HUW.out.trans (hu5a.mono (by simp)))
         clear hu5a
         go_wp2_with fail
         (with_reducible refine (HH2.out _ HUW.out).mono ?_)
         rintro e w6a ⟨rfl,hu6a⟩
         have HSW:=Lib.hid (HSW.out.upd0 hu6a)
         have HUW:=Lib.hid (HUW.out.trans (hu6a.mono (by simp)))
         clear hu6a
         go_wp2_with fail
         have kp:(0:Int)≤(k:Int)+1:=by omega
         have tp:(0:Int)≤(t:Int)+1:=by omega
         have kn:((k:Int)+1).toNat=k+1:=by omega
         have tn:((t:Int)+1).toNat=t+1:=by omega
         have wk:IntKind.i64.wrap ((k:Int)+1)=(k:Int)+1:=IntWalk.i64_in _ ⟨by omega,by omega⟩
         have wt:IntKind.i64.wrap ((t:Int)+1)=(t:Int)+1:=IntWalk.i64_in _ ⟨by omega,by omega⟩
         have HSW:=Lib.hid (show SumAt w6a.drew p (N+V) from HSW.out)
         have HUW:=Lib.hid (show Upd [p] Wb w6a.drew from HUW.out.drew)
         refine GoT.start [10,11] (fun w'=>w'.cell? ⟨gx,ox+k,none⟩=some (.int .i64 x0)∧w'.cell? ⟨gx,ox+(k+1),none⟩=some (.int .i64 x1)) (by kernel_rfl) ?_ fun hS=>?_
         ·exact (show _ from keep2 HCX.out (show Upd [] W1 _ from HT1.out _ HUW.out))
         refine' GoT.mv (i:=0) (oi:=⟨some 75,_,_,_,_,_⟩) rfl (by rfl) ?yh1n14_0 ?_
         case yh1n14_0=>intro w;go_simp<;>with_reducible rfl
         simp only [Act.put,sA,sZ,sS]
         refine' GoT.mv (i:=1) (oi:=⟨some 76,_,_,_,_,_⟩) rfl (by rfl) ?yh1n14_1 ?_
         case yh1n14_1=>intro w;go_simp<;>with_reducible rfl
         simp only [Act.put,sA,sZ,sS]
         refine' GoT.mv (i:=2) (oi:=⟨some 77,_,_,_,_,_⟩) rfl (by rfl) ?yh1n14_2 ?_
         case yh1n14_2=>intro w;go_simp<;>with_reducible rfl
         simp only [Act.put,sA,sZ,sS]
         refine' GoT.mv (i:=3) (oi:=⟨some 78,_,_,_,_,_⟩) rfl (by rfl) ?yh1n14_3 ?_
         case yh1n14_3=>intro w;go_simp<;>with_reducible rfl
         simp only [Act.put,sA,sZ,sS]
         refine' GoT.tk 2 (i:=4) (oi:=⟨some 79,_,_,_,_,_⟩) rfl (by rfl) ?yh1n14_4 ?_
         case yh1n14_4=>intro w hSw;go_simp<;>with_reducible rfl
         simp only [Act.put,sA,sZ,sS]
         refine' GoT.mv (i:=5) (oi:=⟨some 80,_,_,_,_,_⟩) rfl (by rfl) ?yh1n14_5 ?_
         case yh1n14_5=>intro w;go_simp<;>with_reducible rfl
         simp only [Act.put,sA,sZ,sS]
         refine' GoT.mv (i:=6) (oi:=⟨some 81,_,_,_,_,_⟩) rfl (by rfl) ?yh1n14_6 ?_
         case yh1n14_6=>intro w;go_simp<;>with_reducible rfl
         simp only [Act.put,sA,sZ,sS]
         refine' GoT.mv (i:=7) (oi:=⟨some 82,_,_,_,_,_⟩) rfl (by rfl) ?yh1n14_7 ?_
         case yh1n14_7=>intro w;go_simp<;>with_reducible rfl
         simp only [Act.put,sA,sZ,sS]
         refine' GoT.mv (i:=8) (oi:=⟨some 83,_,_,_,_,_⟩) rfl (by rfl) ?yh1n14_8 ?_
         case yh1n14_8=>intro w;go_simp<;>with_reducible rfl
         simp only [Act.put,sA,sZ,sS]
         refine' GoT.tk 2 (i:=9) (oi:=⟨some 84,_,_,_,_,_⟩) rfl (by rfl) ?yh1n14_9 ?_
         case yh1n14_9=>intro w hSw;go_simp<;>with_reducible rfl
         simp only [Act.put,sA,sZ,sS]
         refine GoT.one (i:=10) (o:=⟨some 85,_,_,_,_,_⟩) rfl (by kernel_rfl) fun K hK=>?_
         go_simp
         go_at_call 47
         (with_reducible refine (HDX.out _).mono ?_)
         rintro e w' ⟨rfl,rfl⟩
         refine hK.out _ _ (fun h=>(by cases h)) ?_
         clear hK K
         try simp only [Act.put,sA,sZ,sS]
         refine GoT.one (i:=11) (o:=⟨some 86,_,_,_,_,_⟩) rfl (by kernel_rfl) fun K hK=>?_
         go_simp
         go_at_call 123
         (with_reducible refine (HMH.out _ HSW.out).mono ?_)
         rintro e w7h ⟨rfl,hs7,hu7⟩
         refine hK.out _ _ (fun h=>(by cases h)) ?_
         clear hK K
         try simp only [Act.put,sA,sZ,sS]
         have HSW:=Lib.hid hs7
         have HUW:=Lib.hid (HUW.out.trans hu7)
         clear hs7 hu7
         refine GoT.done (by kernel_rfl) ?_
         skip
         clear wk wt kn tn kp tp
         go_wp2_with fail
         go_roundg (m - (t+1))
         case measure=>have:=HT.out;have:=HLT2.out;omega
         case rel=>exact ⟨t+1,by have:=HT.out;have:=HLT2.out;omega,by go_num,by rw [HTOT.out];exact HSW.out,HUW.out⟩
        ·have dH:(k:Int)+1<(X.length:Int):=by omega
         have eH:sideH l X Y k t=0:=by unfold sideH;rw [if_neg (by rw [ha2,hb,bne,hxH];simp)]
         have htot:rimK l X Y k+rimC l X Y k (t+1)=N+V:=by rw [rimC_succ,eV,eH];omega
         have HTOT:=Lib.hid htot
         have HMV:=Lib.hid (fun w hs=>moreFn p N V w (by rw [←hVd];omega) hs (hbd.mono (by rw [rimC_succ,eV,eH];omega)))
         have hY2:=nth_get (l:=Y) (i:=t+1) hdV
         obtain ⟨gy,oy,hAy,-,-,cy0⟩:=KL.at HSX.out.2.1 hY1
         obtain ⟨gy2,oy2,hAy2,-,-,cy1⟩:=KL.at HSX.out.2.1 hY2
         subst hAy
         cases hAy2
         rw [hy0] at cy0
         rw [hy1] at cy1
         have HCY:=Lib.hid (And.intro cy0 cy1)
         have hdfy:=fun w=>diffC y0 y1 w y64 y64'
         rw [show diffN y0 y1=(V:Int) by have:=rise_stepC HYR.out.1 hY1 hY2;rw [hy0,hy1] at this;unfold diffN;rw [if_neg (by omega)];omega] at hdfy
         have HDY:=Lib.hid hdfy
         clear cy0 cy1 hdfy hY2
         clear htot eV eH hbd ha1 hb ha2 hVd hHd hNN hX1 hY1 hx0 hx1 hy0 hy1 x64 x64' y64 y64' hdV hdH
         go_wp2_with fail
         (with_reducible refine (HV1.out _ HUW.out).mono ?_)
         rintro e w3a ⟨rfl,hu3a⟩
         have HSW:=Lib.hid (HSW.out.upd0 hu3a)
         have HUW:=Lib.hid (HUW.out.trans (hu3a.mono (by simp)))
         clear hu3a
         go_wp2_with fail
         (with_reducible refine (HV2.out _ HUW.out).mono ?_)
         rintro e w4a ⟨rfl,hu4a⟩
         have HSW:=Lib.hid (HSW.out.upd0 hu4a)
         have HUW:=Lib.hid (HUW.out.trans (hu4a.mono (by simp)))
         clear hu4a
         go_wp2_with fail
         have kp:(0:Int)≤(k:Int)+1:=by omega
         have tp:(0:Int)≤(t:Int)+1:=by omega
         have kn:((k:Int)+1).toNat=k+1:=by omega
         have tn:((t:Int)+1).toNat=t+1:=by omega
         have wk:IntKind.i64.wrap ((k:Int)+1)=(k:Int)+1:=IntWalk.i64_in _ ⟨by omega,by omega⟩
         have wt:IntKind.i64.wrap ((t:Int)+1)=(t:Int)+1:=IntWalk.i64_in _ ⟨by omega,by omega⟩
         have HSW:=Lib.hid (show SumAt w4a.drew p N from HSW.out)
         have HUW:=Lib.hid (show Upd [p] Wb w4a.drew from HUW.out.drew)
         refine GoT.start [10,11] (fun w'=>w'.cell? ⟨gy,oy+t,none⟩=some (.int .i64 y0)∧w'.cell? ⟨gy,oy+(t+1),none⟩=some (.int .i64 y1)) (by kernel_rfl) ?_ fun hS=>?_
         ·exact (show _ from keep2 HCY.out (show Upd [] W1 _ from HT1.out _ HUW.out))
         refine' GoT.mv (i:=0) (oi:=⟨some 46,_,_,_,_,_⟩) rfl (by rfl) ?yv2n12_0 ?_
         case yv2n12_0=>intro w;go_simp<;>with_reducible rfl
         simp only [Act.put,sA,sZ,sS]
         refine' GoT.mv (i:=1) (oi:=⟨some 47,_,_,_,_,_⟩) rfl (by rfl) ?yv2n12_1 ?_
         case yv2n12_1=>intro w;go_simp<;>with_reducible rfl
         simp only [Act.put,sA,sZ,sS]
         refine' GoT.mv (i:=2) (oi:=⟨some 48,_,_,_,_,_⟩) rfl (by rfl) ?yv2n12_2 ?_
         case yv2n12_2=>intro w;go_simp<;>with_reducible rfl
         simp only [Act.put,sA,sZ,sS]
         refine' GoT.mv (i:=3) (oi:=⟨some 49,_,_,_,_,_⟩) rfl (by rfl) ?yv2n12_3 ?_
         case yv2n12_3=>intro w;go_simp<;>with_reducible rfl
         simp only [Act.put,sA,sZ,sS]
         refine' GoT.tk 2 (i:=4) (oi:=⟨some 50,_,_,_,_,_⟩) rfl (by rfl) ?yv2n12_4 ?_
         case yv2n12_4=>intro w hSw;go_simp<;>with_reducible rfl
         simp only [Act.put,sA,sZ,sS]
         refine' GoT.mv (i:=5) (oi:=⟨some 51,_,_,_,_,_⟩) rfl (by rfl) ?yv2n12_5 ?_
         case yv2n12_5=>intro w;go_simp<;>with_reducible rfl
         simp only [Act.put,sA,sZ,sS]
         refine' GoT.mv (i:=6) (oi:=⟨some 52,_,_,_,_,_⟩) rfl (by rfl) ?yv2n12_6 ?_
         case yv2n12_6=>intro w;go_simp<;>with_reducible rfl
         simp only [Act.put,sA,sZ,sS]
         refine' GoT.mv (i:=7) (oi:=⟨some 53,_,_,_,_,_⟩) rfl (by rfl) ?yv2n12_7 ?_
         case yv2n12_7=>intro w;go_simp<;>with_reducible rfl
         simp only [Act.put,sA,sZ,sS]
         refine' GoT.mv (i:=8) (oi:=⟨some 54,_,_,_,_,_⟩) rfl (by rfl) ?yv2n12_8 ?_
         case yv2n12_8=>intro w;go_simp<;>with_reducible rfl
         simp only [Act.put,sA,sZ,sS]
         refine' GoT.tk 2 (i:=9) (oi:=⟨some 55,_,_,_,_,_⟩) rfl (by rfl) ?yv2n12_9 ?_
         case yv2n12_9=>intro w hSw;go_simp<;>with_reducible rfl
         simp only [Act.put,sA,sZ,sS]
         refine GoT.one (i:=10) (o:=⟨some 56,_,_,_,_,_⟩) rfl (by kernel_rfl) fun K hK=>?_
         go_simp
         go_at_call 47
         (with_reducible refine (HDY.out _).mono ?_)
         rintro e w' ⟨rfl,rfl⟩
         refine hK.out _ _ (fun h=>(by cases h)) ?_
         clear hK K
         try simp only [Act.put,sA,sZ,sS]
         refine GoT.one (i:=11) (o:=⟨some 57,_,_,_,_,_⟩) rfl (by kernel_rfl) fun K hK=>?_
         go_simp
         go_at_call 123
         (with_reducible refine (HMV.out _ HSW.out).mono ?_)
         rintro e w7v ⟨rfl,hs7,hu7⟩
         refine hK.out _ _ (fun h=>(by cases h)) ?_
         clear hK K
         try simp only [Act.put,sA,sZ,sS]
         have HSW:=Lib.hid hs7
         have HUW:=Lib.hid (HUW.out.trans hu7)
         clear hs7 hu7
         refine GoT.done (by kernel_rfl) ?_
         skip
         clear wk wt kn tn kp tp
         go_wp2_with fail
         (with_reducible refine (HH1.out _ HUW.out).mono ?_)
         rintro e w5a ⟨rfl,hu5a⟩
         have HSW:=Lib.hid (HSW.out.upd0 hu5a)
         have HUW:=Lib.hid (HUW.out.trans (hu5a.mono (by simp)))
         clear hu5a
         go_wp2_with fail
         (with_reducible refine (HH2.out _ HUW.out).mono ?_)
         rintro e w6a ⟨rfl,hu6a⟩
         have HSW:=Lib.hid (HSW.out.upd0 hu6a)
         have HUW:=Lib.hid (HUW.out.trans (hu6a.mono (by simp)))
         clear hu6a
         go_wp2_with fail
         go_roundg (m - (t+1))
         case measure=>have:=HT.out;have:=HLT2.out;omega
         case rel=>exact ⟨t+1,by have:=HT.out;have:=HLT2.out;omega,by go_num,by rw [HTOT.out];exact HSW.out,HUW.out⟩
       ·have dH:decide ((k:Int)+1<(X.length:Int))=false:=decide_eq_false (by omega)
        have eH:sideH l X Y k t=0:=by unfold sideH;rw [if_neg (by omega)]
        have htot:rimK l X Y k+rimC l X Y k (t+1)=N+V:=by rw [rimC_succ,eV,eH];omega
        have HTOT:=Lib.hid htot
        have HMV:=Lib.hid (fun w hs=>moreFn p N V w (by rw [←hVd];omega) hs (hbd.mono (by rw [rimC_succ,eV,eH];omega)))
        have hY2:=nth_get (l:=Y) (i:=t+1) hdV
        obtain ⟨gy,oy,hAy,-,-,cy0⟩:=KL.at HSX.out.2.1 hY1
        obtain ⟨gy2,oy2,hAy2,-,-,cy1⟩:=KL.at HSX.out.2.1 hY2
        subst hAy
        cases hAy2
        rw [hy0] at cy0
        rw [hy1] at cy1
        have HCY:=Lib.hid (And.intro cy0 cy1)
        have hdfy:=fun w=>diffC y0 y1 w y64 y64'
        rw [show diffN y0 y1=(V:Int) by have:=rise_stepC HYR.out.1 hY1 hY2;rw [hy0,hy1] at this;unfold diffN;rw [if_neg (by omega)];omega] at hdfy
        have HDY:=Lib.hid hdfy
        clear cy0 cy1 hdfy hY2
        clear htot eV eH hbd ha1 hb ha2 hVd hHd hNN hX1 hY1 hx0 hx1 hy0 hy1 x64 x64' y64 y64' hdV hdH
        go_wp2_with fail
        (with_reducible refine (HV1.out _ HUW.out).mono ?_)
        rintro e w3a ⟨rfl,hu3a⟩
        have HSW:=Lib.hid (HSW.out.upd0 hu3a)
        have HUW:=Lib.hid (HUW.out.trans (hu3a.mono (by simp)))
        clear hu3a
        go_wp2_with fail
        (with_reducible refine (HV2.out _ HUW.out).mono ?_)
        rintro e w4a ⟨rfl,hu4a⟩
        have HSW:=Lib.hid (HSW.out.upd0 hu4a)
        have HUW:=Lib.hid (HUW.out.trans (hu4a.mono (by simp)))
        clear hu4a
        go_wp2_with fail
        have kp:(0:Int)≤(k:Int)+1:=by omega
        have tp:(0:Int)≤(t:Int)+1:=by omega
        have kn:((k:Int)+1).toNat=k+1:=by omega
        have tn:((t:Int)+1).toNat=t+1:=by omega
        have wk:IntKind.i64.wrap ((k:Int)+1)=(k:Int)+1:=IntWalk.i64_in _ ⟨by omega,by omega⟩
        have wt:IntKind.i64.wrap ((t:Int)+1)=(t:Int)+1:=IntWalk.i64_in _ ⟨by omega,by omega⟩
        have HSW:=Lib.hid (show SumAt w4a.drew p N from HSW.out)
        have HUW:=Lib.hid (show Upd [p] Wb w4a.drew from HUW.out.drew)
        refine GoT.start [10,11] (fun w'=>w'.cell? ⟨gy,oy+t,none⟩=some (.int .i64 y0)∧w'.cell? ⟨gy,oy+(t+1),none⟩=some (.int .i64 y1)) (by kernel_rfl) ?_ fun hS=>?_
        ·exact (show _ from keep2 HCY.out (show Upd [] W1 _ from HT1.out _ HUW.out))
        refine' GoT.mv (i:=0) (oi:=⟨some 46,_,_,_,_,_⟩) rfl (by rfl) ?yv3n12_0 ?_
        case yv3n12_0=>intro w;go_simp<;>with_reducible rfl
        simp only [Act.put,sA,sZ,sS]
        refine' GoT.mv (i:=1) (oi:=⟨some 47,_,_,_,_,_⟩) rfl (by rfl) ?yv3n12_1 ?_
        case yv3n12_1=>intro w;go_simp<;>with_reducible rfl
        simp only [Act.put,sA,sZ,sS]
        refine' GoT.mv (i:=2) (oi:=⟨some 48,_,_,_,_,_⟩) rfl (by rfl) ?yv3n12_2 ?_
        case yv3n12_2=>intro w;go_simp<;>with_reducible rfl
        simp only [Act.put,sA,sZ,sS]
        refine' GoT.mv (i:=3) (oi:=⟨some 49,_,_,_,_,_⟩) rfl (by rfl) ?yv3n12_3 ?_
        case yv3n12_3=>intro w;go_simp<;>with_reducible rfl
        simp only [Act.put,sA,sZ,sS]
        refine' GoT.tk 2 (i:=4) (oi:=⟨some 50,_,_,_,_,_⟩) rfl (by rfl) ?yv3n12_4 ?_
        case yv3n12_4=>intro w hSw;go_simp<;>with_reducible rfl
        simp only [Act.put,sA,sZ,sS]
        refine' GoT.mv (i:=5) (oi:=⟨some 51,_,_,_,_,_⟩) rfl (by rfl) ?yv3n12_5 ?_
        case yv3n12_5=>intro w;go_simp<;>with_reducible rfl
        simp only [Act.put,sA,sZ,sS]
        refine' GoT.mv (i:=6) (oi:=⟨some 52,_,_,_,_,_⟩) rfl (by rfl) ?yv3n12_6 ?_
        case yv3n12_6=>intro w;go_simp<;>with_reducible rfl
        simp only [Act.put,sA,sZ,sS]
        refine' GoT.mv (i:=7) (oi:=⟨some 53,_,_,_,_,_⟩) rfl (by rfl) ?yv3n12_7 ?_
        case yv3n12_7=>intro w;go_simp<;>with_reducible rfl
        simp only [Act.put,sA,sZ,sS]
        refine' GoT.mv (i:=8) (oi:=⟨some 54,_,_,_,_,_⟩) rfl (by rfl) ?yv3n12_8 ?_
        case yv3n12_8=>intro w;go_simp<;>with_reducible rfl
        simp only [Act.put,sA,sZ,sS]
        refine' GoT.tk 2 (i:=9) (oi:=⟨some 55,_,_,_,_,_⟩) rfl (by rfl) ?yv3n12_9 ?_
        case yv3n12_9=>intro w hSw;go_simp<;>with_reducible rfl
        simp only [Act.put,sA,sZ,sS]
        refine GoT.one (i:=10) (o:=⟨some 56,_,_,_,_,_⟩) rfl (by kernel_rfl) fun K hK=>?_
        go_simp
        go_at_call 47
        (with_reducible refine (HDY.out _).mono ?_)
        rintro e w' ⟨rfl,rfl⟩
        refine hK.out _ _ (fun h=>(by cases h)) ?_
        clear hK K
        try simp only [Act.put,sA,sZ,sS]
        refine GoT.one (i:=11) (o:=⟨some 57,_,_,_,_,_⟩) rfl (by kernel_rfl) fun K hK=>?_
        go_simp
        go_at_call 123
        (with_reducible refine (HMV.out _ HSW.out).mono ?_)
        rintro e w7v ⟨rfl,hs7,hu7⟩
        refine hK.out _ _ (fun h=>(by cases h)) ?_
        clear hK K
        try simp only [Act.put,sA,sZ,sS]
        have HSW:=Lib.hid hs7
        have HUW:=Lib.hid (HUW.out.trans hu7)
        clear hs7 hu7
        refine GoT.done (by kernel_rfl) ?_
        skip
        clear wk wt kn tn kp tp
        go_wp2_with fail
        go_roundg (m - (t+1))
        case measure=>have:=HT.out;have:=HLT2.out;omega
        case rel=>exact ⟨t+1,by have:=HT.out;have:=HLT2.out;omega,by go_num,by rw [HTOT.out];exact HSW.out,HUW.out⟩
      ·have dV:(t:Int)+1<(Y.length:Int):=by omega
       have eV:sideV l X Y k t=0:=by unfold sideV;rw [if_neg (by rw [ha1,hb,bne,hxV];simp)]
       by_cases hdH:k+1<X.length
       ·obtain ⟨xH,hxH⟩:∃x,(a2==b)=x:=⟨_,rfl⟩
        cases xH
        ·have dH:(k:Int)+1<(X.length:Int):=by omega
         have eH:sideH l X Y k t=M:=by unfold sideH;rw [if_pos ⟨hdH,by rw [ha2,hb,bne,hxH];rfl⟩,hHd]
         have htot:rimK l X Y k+rimC l X Y k (t+1)=N+M:=by rw [rimC_succ,eV,eH];omega
         have HTOT:=Lib.hid htot
         have HMH0:=Lib.hid (fun w hs=>moreFn p N M w (by rw [←hHd];omega) hs (hbd.mono (by rw [rimC_succ,eV,eH];omega)))
         have hX2:=nth_get (l:=X) (i:=k+1) hdH
         obtain ⟨gx,ox,hAx,-,-,cx0⟩:=KL.at HSX.out.1 hX1
         obtain ⟨gx2,ox2,hAx2,-,-,cx1⟩:=KL.at HSX.out.1 hX2
         subst hAx
         cases hAx2
         rw [hx0] at cx0
         rw [hx1] at cx1
         have HCX:=Lib.hid (And.intro cx0 cx1)
         have hdfx:=fun w=>diffC x0 x1 w x64 x64'
         rw [show diffN x0 x1=(M:Int) by have:=rise_stepC HXR.out.1 hX1 hX2;rw [hx0,hx1] at this;unfold diffN;rw [if_neg (by omega)];omega] at hdfx
         have HDX:=Lib.hid hdfx
         clear cx0 cx1 hdfx hX2
         clear htot eV eH hbd ha1 hb ha2 hVd hHd hNN hX1 hY1 hx0 hx1 hy0 hy1 x64 x64' y64 y64' hdV hdH
         go_wp2_with fail
         (with_reducible refine (HV1.out _ HUW.out).mono ?_)
         rintro e w3a ⟨rfl,hu3a⟩
         have HSW:=Lib.hid (HSW.out.upd0 hu3a)
         have HUW:=Lib.hid (HUW.out.trans (hu3a.mono (by simp)))
         clear hu3a
         go_wp2_with fail
         (with_reducible refine (HV2.out _ HUW.out).mono ?_)
         rintro e w4a ⟨rfl,hu4a⟩
         have HSW:=Lib.hid (HSW.out.upd0 hu4a)
         have HUW:=Lib.hid (HUW.out.trans (hu4a.mono (by simp)))
         clear hu4a
         go_wp2_with fail
         (with_reducible refine (HH1.out _ HUW.out).mono ?_)
         rintro e w5a ⟨rfl,hu5a⟩
         have HSW:=Lib.hid (HSW.out.upd0 hu5a)
         have HUW:=Lib.hid (HUW.out.trans (hu5a.mono (by simp)))
         clear hu5a
         go_wp2_with fail
         (with_reducible refine (HH2.out _ HUW.out).mono ?_)
         rintro e w6a ⟨rfl,hu6a⟩
         have HSW:=Lib.hid (HSW.out.upd0 hu6a)
         have HUW:=Lib.hid (HUW.out.trans (hu6a.mono (by simp)))
         clear hu6a
         go_wp2_with fail
         have kp:(0:Int)≤(k:Int)+1:=by omega
         have tp:(0:Int)≤(t:Int)+1:=by omega
         have kn:((k:Int)+1).toNat=k+1:=by omega
         have tn:((t:Int)+1).toNat=t+1:=by omega
         have wk:IntKind.i64.wrap ((k:Int)+1)=(k:Int)+1:=IntWalk.i64_in _ ⟨by omega,by omega⟩
         have wt:IntKind.i64.wrap ((t:Int)+1)=(t:Int)+1:=IntWalk.i64_in _ ⟨by omega,by omega⟩
         have HSW:=Lib.hid (show SumAt w6a.drew p N from HSW.out)
         have HUW:=Lib.hid (show Upd [p] Wb w6a.drew from HUW.out.drew)
         refine GoT.start [10,11] (fun w'=>w'.cell? ⟨gx,ox+k,none⟩=some (.int .i64 x0)∧w'.cell? ⟨gx,ox+(k+1),none⟩=some (.int .i64 x1)) (by kernel_rfl) ?_ fun hS=>?_
         ·exact (show _ from keep2 HCX.out (show Upd [] W1 _ from HT1.out _ HUW.out))
         refine' GoT.mv (i:=0) (oi:=⟨some 75,_,_,_,_,_⟩) rfl (by rfl) ?yh4n14_0 ?_
         case yh4n14_0=>intro w;go_simp<;>with_reducible rfl
         simp only [Act.put,sA,sZ,sS]
         refine' GoT.mv (i:=1) (oi:=⟨some 76,_,_,_,_,_⟩) rfl (by rfl) ?yh4n14_1 ?_
         case yh4n14_1=>intro w;go_simp<;>with_reducible rfl
         simp only [Act.put,sA,sZ,sS]
         refine' GoT.mv (i:=2) (oi:=⟨some 77,_,_,_,_,_⟩) rfl (by rfl) ?yh4n14_2 ?_
         case yh4n14_2=>intro w;go_simp<;>with_reducible rfl
         simp only [Act.put,sA,sZ,sS]
         refine' GoT.mv (i:=3) (oi:=⟨some 78,_,_,_,_,_⟩) rfl (by rfl) ?yh4n14_3 ?_
         case yh4n14_3=>intro w;go_simp<;>with_reducible rfl
         simp only [Act.put,sA,sZ,sS]
         refine' GoT.tk 2 (i:=4) (oi:=⟨some 79,_,_,_,_,_⟩) rfl (by rfl) ?yh4n14_4 ?_
         case yh4n14_4=>intro w hSw;go_simp<;>with_reducible rfl
         simp only [Act.put,sA,sZ,sS]
         refine' GoT.mv (i:=5) (oi:=⟨some 80,_,_,_,_,_⟩) rfl (by rfl) ?yh4n14_5 ?_
         case yh4n14_5=>intro w;go_simp<;>with_reducible rfl
         simp only [Act.put,sA,sZ,sS]
         refine' GoT.mv (i:=6) (oi:=⟨some 81,_,_,_,_,_⟩) rfl (by rfl) ?yh4n14_6 ?_
         case yh4n14_6=>intro w;go_simp<;>with_reducible rfl
         simp only [Act.put,sA,sZ,sS]
         refine' GoT.mv (i:=7) (oi:=⟨some 82,_,_,_,_,_⟩) rfl (by rfl) ?yh4n14_7 ?_
         case yh4n14_7=>intro w;go_simp<;>with_reducible rfl
         simp only [Act.put,sA,sZ,sS]
         refine' GoT.mv (i:=8) (oi:=⟨some 83,_,_,_,_,_⟩) rfl (by rfl) ?yh4n14_8 ?_
         case yh4n14_8=>intro w;go_simp<;>with_reducible rfl
         simp only [Act.put,sA,sZ,sS]
         refine' GoT.tk 2 (i:=9) (oi:=⟨some 84,_,_,_,_,_⟩) rfl (by rfl) ?yh4n14_9 ?_
         case yh4n14_9=>intro w hSw;go_simp<;>with_reducible rfl
         simp only [Act.put,sA,sZ,sS]
         refine GoT.one (i:=10) (o:=⟨some 85,_,_,_,_,_⟩) rfl (by kernel_rfl) fun K hK=>?_
         go_simp
         go_at_call 47
         (with_reducible refine (HDX.out _).mono ?_)
         rintro e w' ⟨rfl,rfl⟩
         refine hK.out _ _ (fun h=>(by cases h)) ?_
         clear hK K
         try simp only [Act.put,sA,sZ,sS]
         refine GoT.one (i:=11) (o:=⟨some 86,_,_,_,_,_⟩) rfl (by kernel_rfl) fun K hK=>?_
         go_simp
         go_at_call 123
         (with_reducible refine (HMH0.out _ HSW.out).mono ?_)
         rintro e w7h ⟨rfl,hs7,hu7⟩
         refine hK.out _ _ (fun h=>(by cases h)) ?_
         clear hK K
         try simp only [Act.put,sA,sZ,sS]
         have HSW:=Lib.hid hs7
         have HUW:=Lib.hid (HUW.out.trans hu7)
         clear hs7 hu7
         refine GoT.done (by kernel_rfl) ?_
         skip
         clear wk wt kn tn kp tp
         go_wp2_with fail
         go_roundg (m - (t+1))
         case measure=>have:=HT.out;have:=HLT2.out;omega
         case rel=>exact ⟨t+1,by have:=HT.out;have:=HLT2.out;omega,by go_num,by rw [HTOT.out];exact HSW.out,HUW.out⟩
        ·have dH:(k:Int)+1<(X.length:Int):=by omega
         have eH:sideH l X Y k t=0:=by unfold sideH;rw [if_neg (by rw [ha2,hb,bne,hxH];simp)]
         have htot:rimK l X Y k+rimC l X Y k (t+1)=N:=by rw [rimC_succ,eV,eH];omega
         have HTOT:=Lib.hid htot
         clear htot eV eH hbd ha1 hb ha2 hVd hHd hNN hX1 hY1 hx0 hx1 hy0 hy1 x64 x64' y64 y64' hdV hdH
         go_wp2_with fail
         (with_reducible refine (HV1.out _ HUW.out).mono ?_)
         rintro e w3a ⟨rfl,hu3a⟩
         have HSW:=Lib.hid (HSW.out.upd0 hu3a)
         have HUW:=Lib.hid (HUW.out.trans (hu3a.mono (by simp)))
         clear hu3a
         go_wp2_with fail
         (with_reducible refine (HV2.out _ HUW.out).mono ?_)
         rintro e w4a ⟨rfl,hu4a⟩
         have HSW:=Lib.hid (HSW.out.upd0 hu4a)
         have HUW:=Lib.hid (HUW.out.trans (hu4a.mono (by simp)))
         clear hu4a
         go_wp2_with fail
         (with_reducible refine (HH1.out _ HUW.out).mono ?_)
         rintro e w5a ⟨rfl,hu5a⟩
         have HSW:=Lib.hid (HSW.out.upd0 hu5a)
         have HUW:=Lib.hid (HUW.out.trans (hu5a.mono (by simp)))
         clear hu5a
         go_wp2_with fail
         (with_reducible refine (HH2.out _ HUW.out).mono ?_)
         rintro e w6a ⟨rfl,hu6a⟩
         have HSW:=Lib.hid (HSW.out.upd0 hu6a)
         have HUW:=Lib.hid (HUW.out.trans (hu6a.mono (by simp)))
         clear hu6a
         go_wp2_with fail
         go_roundg (m - (t+1))
         case measure=>have:=HT.out;have:=HLT2.out;omega
         case rel=>exact ⟨t+1,by have:=HT.out;have:=HLT2.out;omega,by go_num,by rw [HTOT.out];exact HSW.out,HUW.out⟩
       ·have dH:decide ((k:Int)+1<(X.length:Int))=false:=decide_eq_false (by omega)
        have eH:sideH l X Y k t=0:=by unfold sideH;rw [if_neg (by omega)]
        have htot:rimK l X Y k+rimC l X Y k (t+1)=N:=by rw [rimC_succ,eV,eH];omega
        have HTOT:=Lib.hid htot
        clear htot eV eH hbd ha1 hb ha2 hVd hHd hNN hX1 hY1 hx0 hx1 hy0 hy1 x64 x64' y64 y64' hdV hdH
        go_wp2_with fail
        (with_reducible refine (HV1.out _ HUW.out).mono ?_)
        rintro e w3a ⟨rfl,hu3a⟩
        have HSW:=Lib.hid (HSW.out.upd0 hu3a)
        have HUW:=Lib.hid (HUW.out.trans (hu3a.mono (by simp)))
        clear hu3a
        go_wp2_with fail
        (with_reducible refine (HV2.out _ HUW.out).mono ?_)
        rintro e w4a ⟨rfl,hu4a⟩
        have HSW:=Lib.hid (HSW.out.upd0 hu4a)
        have HUW:=Lib.hid (HUW.out.trans (hu4a.mono (by simp)))
        clear hu4a
        go_wp2_with fail
        go_roundg (m - (t+1))
        case measure=>have:=HT.out;have:=HLT2.out;omega
        case rel=>exact ⟨t+1,by have:=HT.out;have:=HLT2.out;omega,by go_num,by rw [HTOT.out];exact HSW.out,HUW.out⟩
     ·have dV:decide ((t:Int)+1<(Y.length:Int))=false:=decide_eq_false (by omega)
      have eV:sideV l X Y k t=0:=by unfold sideV;rw [if_neg (by omega)]
      by_cases hdH:k+1<X.length
      ·obtain ⟨xH,hxH⟩:∃x,(a2==b)=x:=⟨_,rfl⟩
       cases xH
       ·have dH:(k:Int)+1<(X.length:Int):=by omega
        have eH:sideH l X Y k t=M:=by unfold sideH;rw [if_pos ⟨hdH,by rw [ha2,hb,bne,hxH];rfl⟩,hHd]
        have htot:rimK l X Y k+rimC l X Y k (t+1)=N+M:=by rw [rimC_succ,eV,eH];omega
        have HTOT:=Lib.hid htot
        have HMH0:=Lib.hid (fun w hs=>moreFn p N M w (by rw [←hHd];omega) hs (hbd.mono (by rw [rimC_succ,eV,eH];omega)))
        have hX2:=nth_get (l:=X) (i:=k+1) hdH
        obtain ⟨gx,ox,hAx,-,-,cx0⟩:=KL.at HSX.out.1 hX1
        obtain ⟨gx2,ox2,hAx2,-,-,cx1⟩:=KL.at HSX.out.1 hX2
        subst hAx
        cases hAx2
        rw [hx0] at cx0
        rw [hx1] at cx1
        have HCX:=Lib.hid (And.intro cx0 cx1)
        have hdfx:=fun w=>diffC x0 x1 w x64 x64'
        rw [show diffN x0 x1=(M:Int) by have:=rise_stepC HXR.out.1 hX1 hX2;rw [hx0,hx1] at this;unfold diffN;rw [if_neg (by omega)];omega] at hdfx
        have HDX:=Lib.hid hdfx
        clear cx0 cx1 hdfx hX2
        clear htot eV eH hbd ha1 hb ha2 hVd hHd hNN hX1 hY1 hx0 hx1 hy0 hy1 x64 x64' y64 y64' hdV hdH
        go_wp2_with fail
        (with_reducible refine (HH1.out _ HUW.out).mono ?_)
        rintro e w5a ⟨rfl,hu5a⟩
        have HSW:=Lib.hid (HSW.out.upd0 hu5a)
        have HUW:=Lib.hid (HUW.out.trans (hu5a.mono (by simp)))
        clear hu5a
        go_wp2_with fail
        (with_reducible refine (HH2.out _ HUW.out).mono ?_)
        rintro e w6a ⟨rfl,hu6a⟩
        have HSW:=Lib.hid (HSW.out.upd0 hu6a)
        have HUW:=Lib.hid (HUW.out.trans (hu6a.mono (by simp)))
        clear hu6a
        go_wp2_with fail
        have kp:(0:Int)≤(k:Int)+1:=by omega
        have tp:(0:Int)≤(t:Int)+1:=by omega
        have kn:((k:Int)+1).toNat=k+1:=by omega
        have tn:((t:Int)+1).toNat=t+1:=by omega
        have wk:IntKind.i64.wrap ((k:Int)+1)=(k:Int)+1:=IntWalk.i64_in _ ⟨by omega,by omega⟩
        have wt:IntKind.i64.wrap ((t:Int)+1)=(t:Int)+1:=IntWalk.i64_in _ ⟨by omega,by omega⟩
        have HSW:=Lib.hid (show SumAt w6a.drew p N from HSW.out)
        have HUW:=Lib.hid (show Upd [p] Wb w6a.drew from HUW.out.drew)
        refine GoT.start [10,11] (fun w'=>w'.cell? ⟨gx,ox+k,none⟩=some (.int .i64 x0)∧w'.cell? ⟨gx,ox+(k+1),none⟩=some (.int .i64 x1)) (by kernel_rfl) ?_ fun hS=>?_
        ·exact (show _ from keep2 HCX.out (show Upd [] W1 _ from HT1.out _ HUW.out))
        refine' GoT.mv (i:=0) (oi:=⟨some 75,_,_,_,_,_⟩) rfl (by rfl) ?yh7n14_0 ?_
        case yh7n14_0=>intro w;go_simp<;>with_reducible rfl
        simp only [Act.put,sA,sZ,sS]
        refine' GoT.mv (i:=1) (oi:=⟨some 76,_,_,_,_,_⟩) rfl (by rfl) ?yh7n14_1 ?_
        case yh7n14_1=>intro w;go_simp<;>with_reducible rfl
        simp only [Act.put,sA,sZ,sS]
        refine' GoT.mv (i:=2) (oi:=⟨some 77,_,_,_,_,_⟩) rfl (by rfl) ?yh7n14_2 ?_
        case yh7n14_2=>intro w;go_simp<;>with_reducible rfl
        simp only [Act.put,sA,sZ,sS]
        refine' GoT.mv (i:=3) (oi:=⟨some 78,_,_,_,_,_⟩) rfl (by rfl) ?yh7n14_3 ?_
        case yh7n14_3=>intro w;go_simp<;>with_reducible rfl
        simp only [Act.put,sA,sZ,sS]
        refine' GoT.tk 2 (i:=4) (oi:=⟨some 79,_,_,_,_,_⟩) rfl (by rfl) ?yh7n14_4 ?_
        case yh7n14_4=>intro w hSw;go_simp<;>with_reducible rfl
        simp only [Act.put,sA,sZ,sS]
        refine' GoT.mv (i:=5) (oi:=⟨some 80,_,_,_,_,_⟩) rfl (by rfl) ?yh7n14_5 ?_
        case yh7n14_5=>intro w;go_simp<;>with_reducible rfl
        simp only [Act.put,sA,sZ,sS]
        refine' GoT.mv (i:=6) (oi:=⟨some 81,_,_,_,_,_⟩) rfl (by rfl) ?yh7n14_6 ?_
        case yh7n14_6=>intro w;go_simp<;>with_reducible rfl
        simp only [Act.put,sA,sZ,sS]
        refine' GoT.mv (i:=7) (oi:=⟨some 82,_,_,_,_,_⟩) rfl (by rfl) ?yh7n14_7 ?_
        case yh7n14_7=>intro w;go_simp<;>with_reducible rfl
        simp only [Act.put,sA,sZ,sS]
        refine' GoT.mv (i:=8) (oi:=⟨some 83,_,_,_,_,_⟩) rfl (by rfl) ?yh7n14_8 ?_
        case yh7n14_8=>intro w;go_simp<;>with_reducible rfl
        simp only [Act.put,sA,sZ,sS]
        refine' GoT.tk 2 (i:=9) (oi:=⟨some 84,_,_,_,_,_⟩) rfl (by rfl) ?yh7n14_9 ?_
        case yh7n14_9=>intro w hSw;go_simp<;>with_reducible rfl
        simp only [Act.put,sA,sZ,sS]
        refine GoT.one (i:=10) (o:=⟨some 85,_,_,_,_,_⟩) rfl (by kernel_rfl) fun K hK=>?_
        go_simp
        go_at_call 47
        (with_reducible refine (HDX.out _).mono ?_)
        rintro e w' ⟨rfl,rfl⟩
        refine hK.out _ _ (fun h=>(by cases h)) ?_
        clear hK K
        try simp only [Act.put,sA,sZ,sS]
        refine GoT.one (i:=11) (o:=⟨some 86,_,_,_,_,_⟩) rfl (by kernel_rfl) fun K hK=>?_
        go_simp
        go_at_call 123
        (with_reducible refine (HMH0.out _ HSW.out).mono ?_)
        rintro e w7h ⟨rfl,hs7,hu7⟩
        refine hK.out _ _ (fun h=>(by cases h)) ?_
        clear hK K
        try simp only [Act.put,sA,sZ,sS]
        have HSW:=Lib.hid hs7
        have HUW:=Lib.hid (HUW.out.trans hu7)
        clear hs7 hu7
        refine GoT.done (by kernel_rfl) ?_
        skip
        clear wk wt kn tn kp tp
        go_wp2_with fail
        go_roundg (m - (t+1))
        case measure=>have:=HT.out;have:=HLT2.out;omega
        case rel=>exact ⟨t+1,by have:=HT.out;have:=HLT2.out;omega,by go_num,by rw [HTOT.out];exact HSW.out,HUW.out⟩
       ·have dH:(k:Int)+1<(X.length:Int):=by omega
        have eH:sideH l X Y k t=0:=by unfold sideH;rw [if_neg (by rw [ha2,hb,bne,hxH];simp)]
        have htot:rimK l X Y k+rimC l X Y k (t+1)=N:=by rw [rimC_succ,eV,eH];omega
        have HTOT:=Lib.hid htot
        clear htot eV eH hbd ha1 hb ha2 hVd hHd hNN hX1 hY1 hx0 hx1 hy0 hy1 x64 x64' y64 y64' hdV hdH
        go_wp2_with fail
        (with_reducible refine (HH1.out _ HUW.out).mono ?_)
        rintro e w5a ⟨rfl,hu5a⟩
        have HSW:=Lib.hid (HSW.out.upd0 hu5a)
        have HUW:=Lib.hid (HUW.out.trans (hu5a.mono (by simp)))
        clear hu5a
        go_wp2_with fail
        (with_reducible refine (HH2.out _ HUW.out).mono ?_)
        rintro e w6a ⟨rfl,hu6a⟩
        have HSW:=Lib.hid (HSW.out.upd0 hu6a)
        have HUW:=Lib.hid (HUW.out.trans (hu6a.mono (by simp)))
        clear hu6a
        go_wp2_with fail
        go_roundg (m - (t+1))
        case measure=>have:=HT.out;have:=HLT2.out;omega
        case rel=>exact ⟨t+1,by have:=HT.out;have:=HLT2.out;omega,by go_num,by rw [HTOT.out];exact HSW.out,HUW.out⟩
      ·have dH:decide ((k:Int)+1<(X.length:Int))=false:=decide_eq_false (by omega)
       have eH:sideH l X Y k t=0:=by unfold sideH;rw [if_neg (by omega)]
       have htot:rimK l X Y k+rimC l X Y k (t+1)=N:=by rw [rimC_succ,eV,eH];omega
       have HTOT:=Lib.hid htot
       clear htot eV eH hbd ha1 hb ha2 hVd hHd hNN hX1 hY1 hx0 hx1 hy0 hy1 x64 x64' y64 y64' hdV hdH
       go_wp2_with fail
       go_roundg (m - (t+1))
       case measure=>have:=HT.out;have:=HLT2.out;omega
       case rel=>exact ⟨t+1,by have:=HT.out;have:=HLT2.out;omega,by go_num,by rw [HTOT.out];exact HSW.out,HUW.out⟩
    ·have htm:t=m:=by omega
     have e:rimK l X Y k+rimC l X Y k t=rimK l X Y (k+1):=by rw [rimK_succ,htm,HN.out.2]
     rw [e] at hsum
     have HSUM:=Lib.hid hsum
     have HU:=Lib.hid hu
     have hnl:¬t<Y.length:=by have:=HN.out.2;omega
     clear hsum hu e htm ht
     go_wp2_with fail
     go_roundg (n - (k+1))
     case measure=>have:=HK.out;have:=HLT.out;omega
     case rel=>exact ⟨k+1,by have:=HK.out;have:=HLT.out;omega,by go_num,HSUM.out,HU.out⟩
  ·have hkn:k=X.length:=by have:=HN.out.1;omega
   subst hkn
   obtain ⟨s0,s1,-⟩:=hsum.cells
   have hu1:=HT1.out _ hu
   have h2:=(hu1.block w.heap.size (lt_of_block HW1.out.2) (by simp)).trans HW1.out.2
   have r0:wr.cell? ⟨w.heap.size,0,none⟩=some (.int .u64 0):=by simp [World.cell?,h2]
   have r1:wr.cell? ⟨w.heap.size,1,none⟩=some (.int .u64 0):=by simp [World.cell?,h2]
   have f0:wr.frozen? ⟨w.heap.size,0,none⟩=false:=by simp [World.frozen?,h2]
   have f1:wr.frozen? ⟨w.heap.size,1,none⟩=false:=by simp [World.frozen?,h2]
   obtain ⟨h,hh⟩:∃h,rimK l X Y X.length / 18446744073709551616=h:=⟨_,rfl⟩
   obtain ⟨lo,hlo⟩:∃lo,rimK l X Y X.length % 18446744073709551616=lo:=⟨_,rfl⟩
   have hv:wideV (rimK l X Y X.length)=.agg #[.int .u64 (h:Int),.int .u64 (lo:Int)]:=by unfold wideV;rw [hh,hlo]
   have hz:SumAt wr w.heap.size 0:=h2
   have hfin:=hz.set hh.symm hlo.symm
   rw [hh] at s0
   rw [hlo] at s1
   have HFIN:=Lib.hid hfin
   have HV:=Lib.hid hv
   have HHL:=Lib.hid (And.intro hh hlo)
   have HU:=Lib.hid (show Upd [] w ((wr.setCell ⟨w.heap.size,0,none⟩ (.int .u64 (h:Int))).setCell ⟨w.heap.size,1,none⟩ (.int .u64 (lo:Int))) from (((HW1.out.1.trans hu1).setCell (.inr (Nat.le_refl _)) _).setCell (.inr (Nat.le_refl _)) _))
   have hnl:¬X.length<X.length:=by omega
   clear hh hlo h2 hsum hu hu1 hk hv hz hfin hlt
   go_wp2_with fail
   obtain ⟨e0,e1,-⟩:=HFIN.out.cells
   rw [HHL.out.1] at e0
   rw [HHL.out.2] at e1
   exact bodyPost_ret (v:=.agg #[.int .u64 (h:Int),.int .u64 (lo:Int)]) (by simp [results,Tryz.results87,go_sem,e0,e1]) rfl ⟨by rw [HV.out],HU.out⟩
end Go.Proofs.YtkmnbodlciepaaaGreat
