/- Block by block area and rim are what the sweeps tell. No program. -/
import Derived.Test.YtkmnbodlciepaaaGreatPk34
import Derived.Test.YtkmnbodlciepaaaGreatPk48
import Derived.Test.YtkmnbodlciepaaaGreatPk52
namespace Go.Proofs.YtkmnbodlciepaaaGreat
theorem sumK_zero (m:Nat):sumK (fun _=>0) m=0:=by
 induction m with
 |zero=>rfl
 |succ m ih=>rw [sumK,ih]
theorem sumK_add (f g:Nat→Nat):∀n,sumK (fun i=>f i+g i) n=sumK f n+sumK g n
 |0=>rfl
 |n+1=>by rw [sumK,sumK,sumK,sumK_add f g n];omega
theorem sumK_swap (f:Nat→Nat→Nat) (m:Nat):∀n,sumK (fun i=>sumK (fun k=>f i k) m) n=sumK (fun k=>sumK (fun i=>f i k) n) m
 |0=>(sumK_zero m).symm
 |n+1=>by
  rw [sumK,sumK_swap f m n,←sumK_add]
  exact sumK_congr m fun i _=>rfl
theorem sumK_mulL (c:Nat) (f:Nat→Nat):∀n,sumK (fun i=>c*f i) n=c*sumK f n
 |0=>rfl
 |n+1=>by rw [sumK,sumK,sumK_mulL c f n,Nat.mul_add]
def nxG (G:List Bool) (k:Nat):Bool:=(G[k]?).getD false
def prG (p:Bool) (G:List Bool):Nat→Bool
 |0=>p
 |k+1=>nxG G k
theorem chg_sumK:∀(G:List Bool) (p:Bool),(sumK (fun k=>if (prG p G k != nxG G k)=true then 1 else 0) (G.length+1):Int)=chg p G
 | [],p=>by
  cases p<;>simp [sumK,prG,nxG,chg,ind]
 |g::G,p=>by
  rw [List.length_cons,sumK_cons,Int.natCast_add,chg,←chg_sumK G g]
  have e1:nxG (g::G) 0=g:=rfl
  have e2:sumK (fun i=>if (prG p (g::G) (i+1) != nxG (g::G) (i+1))=true then 1 else 0) (G.length+1)=sumK (fun k=>if (prG g G k != nxG G k)=true then 1 else 0) (G.length+1):=by
   refine sumK_congr _ fun i _=>?_
   have h1:prG p (g::G) (i+1)=prG g G i:=by
    cases i with
    |zero=>rfl
    |succ i=>rfl
   have h2:nxG (g::G) (i+1)=nxG G i:=rfl
   rw [h1,h2]
  rw [e2,e1]
  congr 1
  unfold prG
  cases p<;>cases g<;>simp [ind]
def colG (l:List Bx) (Y:List Int) (x:Int):List Bool:=(List.range (Y.length - 1)).map fun j=>covB l x (mf Y j)
theorem sideH_eq {l:List Bx} {X Y:List Int} {i k:Nat} (hi:i+1<X.length):sideH l X Y i k=(mf X (i+1) - mf X i).toNat*(if (prG false (colG l Y (mf X i)) k != nxG (colG l Y (mf X i)) k)=true then 1 else 0):=by
 have hn:∀k:Nat,isR (colsB l X Y) i k=nxG (colG l Y (mf X i)) k:=fun k=>by
  rw [isR_cols]
  unfold nxG colG
  by_cases hk:k<Y.length - 1
  ·rw [if_pos ⟨by omega,by omega,by omega,by omega⟩,List.getElem?_map,List.getElem?_range hk]
   rfl
  ·rw [if_neg (by omega),List.getElem?_eq_none (by rw [List.length_map,List.length_range];omega)]
   rfl
 have hp:isR (colsB l X Y) i ((k:Int) - 1)=prG false (colG l Y (mf X i)) k:=by
  cases k with
  |zero=>rw [isR_cols,if_neg (by omega)];rfl
  |succ k=>rw [show ((k+1:Nat):Int) - 1=(k:Int) by omega,hn];rfl
 unfold sideH
 rw [hn,hp]
 split
 ·rename_i h
  rw [if_pos h.2,Nat.mul_one];rfl
 ·rename_i h
  rw [if_neg fun h'=>h ⟨hi,h'⟩,Nat.mul_zero]
theorem sideH_last {l:List Bx} {X Y:List Int} {i k:Nat} (hi:¬i+1<X.length):sideH l X Y i k=0:=by
 unfold sideH
 rw [if_neg fun h=>hi h.1]
theorem rowH {l:List Bx} (hb:∀b∈l,b.in64) {i:Nat} (hi:i+1<(sqz (linX l)).length) :
 (sumK (fun k=>sideH l (sqz (linX l)) (sqz (linY l)) i k) (sqz (linY l)).length:Int)=turnsR (covB l (mf (sqz (linX l)) i)) (-9223372036854775808) 9223372036854775808*(mf (sqz (linX l)) (i+1) - mf (sqz (linX l)) i):=by
 have hX:=sqz_rise (linX l)
 have hd:mf (sqz (linX l)) i<mf (sqz (linX l)) (i+1):=by
  have h1:=mf_get (M:=sqz (linX l)) (i:=i) (by omega)
  have h2:=mf_get (M:=sqz (linX l)) (i:=i+1) hi
  exact rise_stepC hX h1 h2
 rw [sumK_congr _ fun k _=>sideH_eq (l:=l) (Y:=sqz (linY l)) (k:=k) hi,sumK_mulL,Int.natCast_mul,col_turns hb]
 have e:(sumK (fun k=>if (prG false (colG l (sqz (linY l)) (mf (sqz (linX l)) i)) k != nxG (colG l (sqz (linY l)) (mf (sqz (linX l)) i)) k)=true then 1 else 0) (sqz (linY l)).length:Int)=chg false (colG l (sqz (linY l)) (mf (sqz (linX l)) i)):=by
  rcases Nat.eq_zero_or_pos (sqz (linY l)).length with h | h
  ·have hG:colG l (sqz (linY l)) (mf (sqz (linX l)) i) = []:=by unfold colG;rw [h];rfl
   rw [h,hG];rfl
  ·rw [←chg_sumK]
   have:(sqz (linY l)).length=(colG l (sqz (linY l)) (mf (sqz (linX l)) i)).length+1:=by unfold colG;rw [List.length_map,List.length_range];omega
   rw [this]
 rw [e,chg_runs]
 unfold colG
 rw [Int.toNat_of_nonneg (by omega),Int.mul_comm]
 simp [ind]
theorem sumH {l:List Bx} (hb:∀b∈l,b.in64):(sumK (fun i=>sumK (fun k=>sideH l (sqz (linX l)) (sqz (linY l)) i k) (sqz (linY l)).length) (sqz (linX l)).length:Int)=horR l:=by
 obtain ⟨X,hXe⟩:∃X,sqz (linX l)=X:=⟨_,rfl⟩
 have hX:X.Pairwise (· < ·):=by rw [←hXe];exact sqz_rise _
 have hX':X.Pairwise (·≤·):=hX.imp fun h=>Int.le_of_lt h
 have hm:∀v∈linX l,v∈X:=fun v hv=>by rw [←hXe];exact mem_sqz hv
 have hin:∀v∈X,(-9223372036854775808:Int)≤v∧v≤9223372036854775808:=by
  intro v hv
  rw [←hXe] at hv
  have hx:=sqz_mem hv
  unfold linX at hx
  obtain ⟨b,h1,h2⟩:=List.mem_flatMap.1 hx
  have h3:=hb b (List.mem_filter.1 h1).1
  unfold Bx.in64 at h3
  simp at h2
  rcases h2 with rfl | rfl
  ·have:=h3.1;omega
  ·have:=h3.2.1;omega
 unfold horR horG
 rw [sumR_stepsL (f:=fun x=>turnsR (covB l x) (-9223372036854775808) 9223372036854775808) hX' hin (fun i p q z h1 h2 h3 h4=>turnsR_congr _ _ fun y=>cov_xL hX' hm h1 h2 h3 h4)
  (fun p q z h1 h2 h3=>turnsR_none fun y=>cov_outL hX' hm h1 h2 h3) (fun h z=>turnsR_none fun y=>cov_none (by
   rw [List.eq_nil_iff_forall_not_mem]
   intro v hv
   have:=hm v hv
   rw [h] at this
   simp at this) z y)]
 rw [hXe]
 rcases Nat.eq_zero_or_pos X.length with h0 | h0
 ·rw [List.eq_nil_of_length_eq_zero h0];rfl
 ·have e:sumK (fun i=>sumK (fun k=>sideH l X (sqz (linY l)) i k) (sqz (linY l)).length) X.length=sumK (fun i=>sumK (fun k=>sideH l X (sqz (linY l)) i k) (sqz (linY l)).length) (X.length - 1):=by
   obtain ⟨n,hn⟩:∃n,X.length=n+1:=⟨X.length - 1,by omega⟩
   rw [hn,sumK]
   have:sumK (fun k=>sideH l X (sqz (linY l)) n k) (sqz (linY l)).length=0:=by
    rw [sumK_congr _ fun k _=>sideH_last (l:=l) (Y:=sqz (linY l)) (k:=k) (by omega)]
    exact sumK_zero _
   rw [this];rfl
  rw [e]
  refine steps_sumK _ _ _ fun i hi=>?_
  have:=rowH hb (i:=i) (by rw [hXe];omega)
  rw [hXe] at this
  exact this
theorem lin_tu (l:List Bx):linX (l.map tuB)=linY l∧linY (l.map tuB)=linX l:=by
 unfold linX linY
 rw [tu_filter,List.flatMap_map,List.flatMap_map]
 exact ⟨rfl,rfl⟩
theorem sideV_tu (l:List Bx) (X Y:List Int) (i k:Nat):sideV l X Y i k=sideH (l.map tuB) Y X k i:=by
 have h:∀i k:Int,isR (colsB l X Y) i k=isR (colsB (l.map tuB) Y X) k i:=fun i k=>by
  rw [isR_cols,isR_cols]
  by_cases hh:0≤i∧0≤k∧i.toNat<X.length - 1∧k.toNat<Y.length - 1
  ·rw [if_pos hh,if_pos ⟨hh.2.1,hh.1,hh.2.2.2,hh.2.2.1⟩,tuB_cov]
  ·rw [if_neg hh,if_neg fun h'=>hh ⟨h'.2.1,h'.1,h'.2.2.2,h'.2.2.1⟩]
 unfold sideV sideH
 rw [h,h]
theorem rimN_A {l:List Bx} (hb:∀b∈l,b.in64):rimN l=(rimA l).toNat:=by
 have h1:=sumH hb
 have h2:=sumH (tuB_in hb)
 rw [(lin_tu l).1,(lin_tu l).2,sumK_swap] at h2
 have h3:rimN l=sumK (fun i=>sumK (fun k=>sideH (l.map tuB) (sqz (linY l)) (sqz (linX l)) k i) (sqz (linY l)).length) (sqz (linX l)).length+sumK (fun i=>sumK (fun k=>sideH l (sqz (linX l)) (sqz (linY l)) i k) (sqz (linY l)).length) (sqz (linX l)).length:=by
  unfold rimN rimK rimC
  rw [←sumK_add]
  refine sumK_congr _ fun i _=>?_
  rw [←sumK_add]
  exact sumK_congr _ fun k _=>by rw [sideV_tu]
 unfold rimA
 omega
theorem areaN_A {l:List Bx} (hb:∀b∈l,b.in64):areaN l=(areaA l).toNat:=by
 have:=areaN_R hb
 unfold areaA
 omega
end Go.Proofs.YtkmnbodlciepaaaGreat
