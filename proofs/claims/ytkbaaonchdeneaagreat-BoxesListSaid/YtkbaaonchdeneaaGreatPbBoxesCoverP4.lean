/- Areas of boxes that are moved, turned about, seen in a mirror. No program. How many nodes are -/
import Derived.Test.YtkbaaonchdeneaaGreatPb46
import Derived.Test.YtkbaaonchdeneaaGreatPb48
set_option maxHeartbeats 8000000
set_option maxRecDepth 100000
namespace Go.Proofs.YtkbaaonchdeneaaGreat
def Within (l:List Bx) (a b c d:Int):Prop:=∀s∈l,s.counts=true→a≤s.x1∧s.x2≤b∧c≤s.y1∧s.y2≤d
theorem Ir {l m:List Bx} (h:∀x y,BN l x y=BN m x y):BZ l=BZ m:=Ph h
end Go.Proofs.YtkbaaonchdeneaaGreat
namespace Go.Proofs.YtkbaaonchdeneaaGreat
theorem Iu (l:List Bx):BQ (Dv (BG l)) (BF l)=((l.filter Bx.counts).map fun b=>2*La (CX (Dv (BG l)) b.y1 b.y2) ((Dv (BG l)).length - 1)).sum:=by
 obtain ⟨Y,hY⟩:=AO (Dv (BG l));rw [hY];unfold BQ BF;obtain ⟨L,hL⟩:=AO (l.filter Bx.counts);rw [hL];clear hL hY;induction L with
 |nil=>rfl
 |cons b L ih=>
  rw [List.flatMap_cons,List.map_append,List.sum_append_nat,ih];simp only [List.map_cons,List.map_nil,List.sum_cons,List.sum_nil];unfold Ut;dsimp only;omega
def En (b:Bx):Bx:=⟨b.y1,b.y2,b.x1,b.x2,0⟩
theorem MC (l:List Bx) (x y:Int):BN (l.map En) y x=BN l x y:=by
 unfold BN;rw [List.any_map];refine any_congr fun b _=>?_
 simp only [Function.comp];unfold En Bx.cell;rw [Bool.eq_iff_iff];simp only [decide_eq_true_eq];omega
end Go.Proofs.YtkbaaonchdeneaaGreat
namespace Go.Proofs.YtkbaaonchdeneaaGreat
def BR (c:Int→Bool) (a b:Int):Int:=Gs (fun y=>ind (c y != c (y - 1))) a b
def X5:Bool→List Bool→Int
 |p,[]=>ind p
 |p,g::G=>ind (p != g)+X5 g G
theorem JU:∀(G:List Bool) (p:Bool),X5 p G=2*(Eb p G:Int)+ind p
 | [],p=>by simp [X5,Eb]
 |g::G,p=>by
  rw [X5,Eb,JU G g,Int.natCast_add]
  cases p<;>cases g<;>simp [ind]<;>omega
theorem He {c:Int→Bool} {p q a b:Int} (h1:a≤p) (h2:p≤q) (h3:q<b) (hz:∀y,y<p∨q≤y→c y=false):BR c a b=BR c p (q+1):=by
 refine FW h1 (by omega) (by omega) fun x hx=>?_
 rw [hz x (by omega),hz (x - 1) (by omega)];rfl
theorem Dk {c:Int→Bool} {a b:Int} (h:∀y,c y=false):BR c a b=0:=Dn fun x _ _=>by rw [h,h];rfl
theorem E5 {c d:Int→Bool} (a b:Int) (h:∀y,c y=d y):BR c a b=BR d a b:=DF fun x _ _=>by rw [h,h]
theorem Ig (c:Int→Bool) (a b:Int):0≤BR c a b:=FV fun _ _ _=>(Uw _).1
theorem NK (c:Int→Bool):∀(Y:List Int),Y.Pairwise (· < ·)→(∀(i:Nat) (x y z:Int),Y[i]? = some x→Y[i+1]? = some y→x≤z→z<y→c z=c x)→
 (∀q,Y.getLast? = some q→c q=false)→∀a q,Y.head? = some a→Y.getLast? = some q→BR c a (q+1)=X5 (c (a - 1)) ((List.range (Y.length - 1)).map fun i=>c (mf Y i))∧a≤q:=by
 intro Y;induction Y with
 |nil=>intro _ _ _ a q h;simp at h
 |cons x r ih=>
  intro hY hc hq a q ha hl;simp at ha;subst ha;rcases r with _ | ⟨y,r⟩
  ·simp at hl;subst hl;refine ⟨?_,Int.le_refl _⟩
   unfold BR;rw [FU (ind (c x != c (x - 1))) (by omega) fun z h1 h2=>by rw [show z=x by omega],hq x rfl];simp [X5];rw [show x+1 - x=1 by omega,Int.mul_one]
  ·have hxy:x<y:=List.rel_of_pairwise_cons hY (a':=y) (by simp);rw [List.getLast?_cons_cons] at hl hq;obtain ⟨h1,h2⟩:=ih (List.Pairwise.of_cons hY) (fun i u v z hu hv h1 h2=>hc (i+1) u v z (by simpa using hu) (by simpa using hv) h1 h2) hq y q rfl hl;refine ⟨?_,by omega⟩
   have hk:∀z,x≤z→z<y→c z=c x:=fun z h3 h4=>hc 0 x y z rfl rfl h3 h4
   have e1:BR c x (q+1)=BR c x (x+1)+(BR c (x+1) y+BR c y (q+1)):=by
    unfold BR;rw [Fg (show x≤x+1 by omega) (show x+1≤q+1 by omega),Fg (show x+1≤y by omega) (show y≤q+1 by omega)]
   have e2:BR c x (x+1)=ind (c x != c (x - 1)):=by
    unfold BR;rw [FU (ind (c x != c (x - 1))) (by omega) fun z h1 h2=>by rw [show z=x by omega],show x+1 - x=1 by omega,Int.mul_one]
   have e3:BR c (x+1) y=0:=Dn fun z h3 h4=>by rw [hk z (by omega) h4,hk (z - 1) (by omega) (by omega)];simp [ind]
   have e4:c (y - 1)=c x:=hk _ (by omega) (by omega);have e5:(x::y::r).length - 1=((y::r).length - 1)+1:=by simp
   rw [e1,e2,e3,h1,e4,e5,List.range_succ_eq_map,List.map_cons,List.map_map,X5];have e6:mf (x::y::r) 0=x:=rfl
   have e7:((fun i=>c (mf (x::y::r) i)) ∘ Nat.succ)=fun i=>c (mf (y::r) i):=by
    funext i
    simp only [Function.comp];rw [show Nat.succ i=i+1 from rfl,Uf]
   rw [e6,e7,Int.zero_add];congr 1
   cases c x<;>cases c (x - 1)<;>rfl
def Ih (l:List Bx) (a b c d:Int):Int:=Gs (fun x=>BR (BN l x) c d) a b
def Ep (l:List Bx):Int:=Ih l (-9223372036854775808) 9223372036854775808 (-9223372036854775808) 9223372036854775808
def DU (l:List Bx):Int:=Ep l+Ep (l.map En)
theorem Le {l m:List Bx} (a b c d:Int) (h:∀x y,BN l x y=BN m x y):Ih l a b c d=Ih m a b c d:=DF fun x _ _=>E5 _ _ (h x)
theorem E8 (l:List Bx) (a b c d:Int):0≤Ih l a b c d:=FV fun _ _ _=>Ig _ _ _
theorem Lh {l:List Bx} {p q r s:Int} (h:Within l p q r s) {x y:Int} (hc:BN l x y=true):p≤x∧x<q∧r≤y∧y<s:=by
 unfold BN at hc;rw [List.any_eq_true] at hc;obtain ⟨b,h1,h2⟩:=hc;have h3:=h b h1 (Dj h2);unfold Bx.cell at h2;rw [decide_eq_true_eq] at h2;omega
theorem JV {l:List Bx} {p q r s a b c d:Int} (h:Within l p q r s) (h1:a≤p) (h2:p≤q) (h3:q≤b) (h4:c≤r) (h5:r≤s) (h6:s<d):Ih l a b c d=Ih l p q r (s+1):=by
 have hn:∀x y,¬(p≤x∧x<q∧r≤y∧y<s)→BN l x y=false:=fun x y hh=>by
  cases e:BN l x y
  ·rfl
  ·exact absurd (Lh h e) hh
 unfold Ih;rw [DF fun x _ _=>He h4 h5 h6 fun y hy=>hn x y (by omega)];exact FW h1 h2 h3 fun x hx=>Dk fun y=>hn x y (by omega)
theorem MW {l:List Bx} (hb:∀b∈l,b.BO):∀b∈l.map En,b.BO:=by
 intro b h;obtain ⟨a,h1,rfl⟩:=List.mem_map.1 h;have:=hb a h1;unfold Bx.BO at *;unfold En;dsimp only;omega
theorem X6 {l m:List Bx} {x y u v:Int} (h:BN l x y=BN m u v):BN (l.map En) y x=BN (m.map En) v u:=by
 rw [MC,MC,h]
theorem EL {l m:List Bx} (h:∀x y,BN l x y=BN m x y):Ep l=Ep m:=Le _ _ _ _ h
theorem Jp {l m:List Bx} (h:∀x y,BN l x y=BN m x y):DU l=DU m:=by
 unfold DU;rw [EL h,EL (l:=l.map En) (m:=m.map En) fun x y=>X6 (h y x)]
theorem Lj (b:Bx):(En b).counts=b.counts:=by
 unfold En Bx.counts;rw [Bool.eq_iff_iff];simp only [decide_eq_true_eq];omega
end Go.Proofs.YtkbaaonchdeneaaGreat
namespace Go.Proofs.YtkbaaonchdeneaaGreat
theorem EM:∀(G:List Bool) (p:Bool),Eb p G≤G.length
 | [],_=>Nat.le_refl _
 |g::G,p=>by
  have:=EM G g;rw [Eb,List.length_cons];split<;>omega
theorem Iw {l:List Bx} (hb:∀b∈l,b.BO) (x:Int):BR (BN l x) (-9223372036854775808) 9223372036854775808=2*(Eb false ((List.range ((Dv (BG l)).length - 1)).map fun i=>BN l x (mf (Dv (BG l)) i)):Int):=by
 obtain ⟨Y,aG⟩:=AO (Dv (BG l));have hY:Y.Pairwise (· < ·):=by rw [←aG];exact Px _
 have hm:∀v∈BG l,v∈Y:=fun v hv=>by rw [←aG];exact Mc hv
 have hin:∀v∈Y,-9223372036854775808≤v∧v≤9223372036854775807:=by
  intro v hv;rw [←aG] at hv;have hx:=Tj hv;unfold BG at hx;obtain ⟨b,h1,h2⟩:=List.mem_flatMap.1 hx;have h3:=hb b (List.mem_filter.1 h1).1;unfold Bx.BO at h3;simp at h2;rcases h2 with rfl | rfl
  ·exact h3.2.2.1
  ·exact h3.2.2.2
 rw [aG];by_cases h0:Y = []
 ·have hX:Eu l = []:=by
   unfold Eu;rw [List.flatMap_eq_nil_iff];intro b hb;have hb':=List.mem_filter.1 hb;have:=hm b.y1 (Jz hb'.1 hb'.2).1;rw [h0] at this;simp at this
  rw [Dk fun y=>Ib hX x y,h0];rfl
 obtain ⟨p,hp⟩:∃p,Y.head? = some p:=by
  cases Y with
  |nil=>exact absurd rfl h0
  |cons a r=>exact ⟨a,rfl⟩
 obtain ⟨q,hq⟩:∃q,Y.getLast? = some q:=by
  cases h:Y.getLast? with
  |none=>rw [List.getLast?_eq_none_iff] at h;exact absurd h h0
  |some q=>exact ⟨q,rfl⟩
 have hout:∀z,z<p∨q≤z→BN l x z=false:=fun z hz=>Pg hY hm hp hq hz
 obtain ⟨h1,h2⟩:=NK (BN l x) Y hY (fun i u v z hu hv h3 h4=>bg hY hm hu hv h3 h4) (fun r hr=>by rw [hq] at hr;cases hr;exact hout q (.inr (Int.le_refl _))) p q hp hq;have b1:=hin p (List.mem_of_mem_head? hp);have b2:=hin q (List.mem_of_getLast? hq);rw [He b1.1 h2 (by omega) hout,h1,hout (p - 1) (.inl (by omega)),JU];simp [ind]
def Gy (Y:List Int) (T:List Tn) (k:Nat):Nat:=(G8 Y (sw Y (T.take (k+1)))).runs.toNat
def FP (T:List Tn) (k:Nat):Nat:=if k+1<T.length then (mf (T.map Tn.x) (k+1) - mf (T.map Tn.x) k).toNat else 0
def F7 (Y:List Int) (T:List Tn) (k:Nat):Nat:=FP T k*(2*Gy Y T k)
theorem Qg {Y:List Int} (hM:Dp Y) (T:List Tn) (k:Nat):Gy Y T k≤Y.length:=by
 unfold Gy;rw [FN (Lc hM _)];unfold Jl NH Jb;dsimp only;refine Bd (EM _ _) ?_
 rw [List.length_map,List.length_range];omega
theorem X7 {Y:List Int} (hM:Dp Y) (T:List Tn) (k:Nat):(G8 Y (sw Y (T.take (k+1)))).runs=(Gy Y T k:Int):=by
 unfold Gy;rw [FN (Lc hM _)];unfold Jl NH Jb;dsimp only;rw [Int.toNat_natCast]
theorem Kq {l:List Bx} (hb:∀b∈l,b.BO) (hl:l.length<100000):Ep l≤400000*18446744073709551616:=by
 have h1:Ep l≤400000*(9223372036854775808 - -9223372036854775808):=by
  refine SI 400000 (by omega) fun x _ _=>?_
  rw [Iw hb];have h2:=EM ((List.range ((Dv (BG l)).length - 1)).map fun i=>BN l x (mf (Dv (BG l)) i)) false;rw [List.length_map,List.length_range] at h2;have h3:=J5 (BG l);have h4:=Ea l;omega
 omega
theorem JW (l:List Bx):0≤DU l:=by
 have h1:=E8 l (-9223372036854775808) 9223372036854775808 (-9223372036854775808) 9223372036854775808;have h2:=E8 (l.map En) (-9223372036854775808) 9223372036854775808 (-9223372036854775808) 9223372036854775808;unfold DU Ep;omega
theorem kN {l:List Bx} (hb:∀b∈l,b.BO) (hl:l.length<100000):Jk (DU l).toNat:=by
 have h1:=Kq hb hl;have h2:=Kq (MW hb) (by rw [List.length_map];exact hl);have h3:=JW l;have h4:DU l≤800000*18446744073709551616:=by unfold DU;omega
 unfold Jk;omega
theorem NM {l:List Bx} {T:List Tn} (hb:∀b∈l,b.BO) (hl:l.length<100000) (hp:T.Perm (BF l)) (hs:T.Pairwise (fun s t=>s.x≤t.x)) :
 (DV (F7 (Dv (BG l)) T) T.length:Int)=Ep l:=by
 have hM:=Gn hb hl;have hmx:∀v,v∈T.map Tn.x↔v∈Eu l:=fun v=>by rw [←Gi,(hp.map Tn.x).mem_iff]
 have hX:(T.map Tn.x).Pairwise (·≤·):=by rw [List.pairwise_map];exact hs
 have hin:∀v∈T.map Tn.x,(-9223372036854775808:Int)≤v∧v≤9223372036854775808:=by
  intro v hv;have hx:=(hmx v).1 hv;unfold Eu at hx;obtain ⟨b,h1,h2⟩:=List.mem_flatMap.1 hx;have h3:=hb b (List.mem_filter.1 h1).1;unfold Bx.BO at h3;simp at h2;rcases h2 with rfl | rfl
  ·have:=h3.1;omega
  ·have:=h3.2.1;omega
 have e0:DV (F7 (Dv (BG l)) T) T.length=DV (F7 (Dv (BG l)) T) (T.length - 1):=by
  rcases Nat.eq_zero_or_pos T.length with h | h
  ·rw [h]
  ·obtain ⟨n,hn⟩:∃n,T.length=n+1:=⟨T.length - 1,by omega⟩;rw [hn,DV];have:F7 (Dv (BG l)) T n=0:=by unfold F7 FP;rw [if_neg (by omega),Nat.zero_mul]
   rw [this];rfl
 rw [e0];unfold Ep Ih
 rw [MB (f:=fun x=>BR (BN l x) (-9223372036854775808) 9223372036854775808) hX hin (fun i p q z h1 h2 h3 h4=>E5 _ _ fun y=>aF hX (fun v hv=>(hmx v).2 hv) h1 h2 h3 h4)
  (fun p q z h1 h2 h3=>Dk fun y=>Ug hX (fun v hv=>(hmx v).2 hv) h1 h2 h3) (fun h z=>Dk fun y=>Ib (by
   rw [List.eq_nil_iff_forall_not_mem];intro v hv;have:=(hmx v).2 hv;rw [h] at this;simp at this) z y)]
 have e:T.length - 1=(T.map Tn.x).length - 1:=by rw [List.length_map]
 rw [e];refine Jm _ _ _ fun i hi=>?_
 rw [List.length_map] at hi;obtain ⟨t,ht⟩:∃t,T[i]? = some t:=⟨_,AX (by omega)⟩;obtain ⟨u,hu⟩:∃u,T[i+1]? = some u:=⟨_,AX (by omega)⟩;have et:mf (T.map Tn.x) i=t.x:=by unfold mf;rw [List.getElem?_map,ht];rfl
 have eu:mf (T.map Tn.x) (i+1)=u.x:=by unfold mf;rw [List.getElem?_map,hu];rfl
 have htu:=(Ko hs ht).2 u (List.mem_of_getElem? (i:=1) (by rw [List.getElem?_drop];exact hu));unfold F7 FP;rw [if_pos (by omega),et,eu,Int.natCast_mul,Int.toNat_of_nonneg (by omega)];rcases Int.lt_or_eq_of_le htu with hx | hx
 ·rw [Iw hb];unfold Gy;rw [FN (Lc hM _)];unfold Jl NH Jb;dsimp only
  have e2:(List.range ((Dv (BG l)).length - 1)).map (MO (sw (Dv (BG l)) (T.take (i+1))))=(List.range ((Dv (BG l)).length - 1)).map fun j=>BN l t.x (mf (Dv (BG l)) j):=by
   refine List.map_congr_left fun j hj=>?_
   rw [List.mem_range] at hj;exact Ue hp hs (okT hp) hM.rise ht hu hx (by omega)
  rw [e2,Int.mul_comm];rfl
 ·rw [hx];simp
theorem Ll {l:List Bx} {T:List Tn} (hb:∀b∈l,b.BO) (hl:l.length<100000) (hp:T.Perm (BF l)) (hs:T.Pairwise (fun s t=>s.x≤t.x)) :
 DV (F7 (Dv (BG l)) T) T.length=(Ep l).toNat:=by
 have:=NM hb hl hp hs;omega
theorem Qh {T:List Tn} (h:∀t∈T,-9223372036854775808≤t.x∧t.x≤9223372036854775807) (k:Nat):FP T k<18446744073709551616:=by
 unfold FP;split
 ·rename_i hk
  obtain ⟨t,ht⟩:∃t,T[k]? = some t:=⟨_,AX (by omega)⟩;obtain ⟨u,hu⟩:∃u,T[k+1]? = some u:=⟨_,AX (by omega)⟩;have et:mf (T.map Tn.x) k=t.x:=by unfold mf;rw [List.getElem?_map,ht];rfl
  have eu:mf (T.map Tn.x) (k+1)=u.x:=by unfold mf;rw [List.getElem?_map,hu];rfl
  have h1:=h t (List.mem_of_getElem? ht);have h2:=h u (List.mem_of_getElem? hu);rw [et,eu];omega
 ·omega
def zA (b:Bx):Bx:=⟨b.x1,b.x2,b.y1,b.y2,0⟩
def BH (l:List Bx):List Bx:=(l.filter Bx.counts).map zA
theorem Hf (l:List Bx):∀b∈BH l,b.counts=true:=by
 intro b hb;obtain ⟨a,h1,rfl⟩:=List.mem_map.1 hb;exact (List.mem_filter.1 h1).2
theorem FQ {l:List Bx} (hb:∀b∈l,b.BO):∀b∈BH l,b.BO:=by
 intro b h;obtain ⟨a,h1,rfl⟩:=List.mem_map.1 h;exact hb a (List.mem_filter.1 h1).1
theorem Fe (l:List Bx):(BH l).filter Bx.counts=BH l:=List.filter_eq_self.2 (Hf l)
theorem Df (l:List Bx):(BH l).length≤l.length:=by
 unfold BH;rw [List.length_map];exact List.length_filter_le _ _
theorem NP (l:List Bx) (x y:Int):BN (BH l) x y=BN l x y:=by
 unfold BN BH;rw [List.any_map,Bool.eq_iff_iff,List.any_eq_true,List.any_eq_true];constructor
 ·rintro ⟨b,h1,h2⟩;exact ⟨b,(List.mem_filter.1 h1).1,h2⟩
 ·rintro ⟨b,h1,h2⟩;exact ⟨b,List.mem_filter.2 ⟨h1,Dj h2⟩,h2⟩
theorem Wn (l:List Bx):BQ (Dv (BG (BH l))) (BF (BH l))=BQ (Dv (BG l)) (BF l):=by
 have h1:BG (BH l)=BG l:=by
  unfold BG;rw [Fe];unfold BH;rw [List.flatMap_map];rfl
 rw [Iu,Iu,h1,Fe];unfold BH;rw [List.map_map];rfl
theorem NQ (l:List Bx):(l.map En).filter Bx.counts=(l.filter Bx.counts).map En:=by
 rw [List.filter_map];congr 1
 exact List.filter_congr fun b _=>Lj b
theorem Uh (l:List Bx):(BH l).map En=BH (l.map En):=by
 unfold BH;rw [NQ,List.map_map,List.map_map];rfl
def Yx (l:List Bx):Nat:=BQ (Dv (BG l)) (BF l)+BQ (Dv (BG (l.map En))) (BF (l.map En))
end Go.Proofs.YtkbaaonchdeneaaGreat
namespace Go.Proofs.YtkbaaonchdeneaaGreat
def QO (Y:List Int) (T:List Tn) (k:Nat):Nat:=match T[k]? with | some t=>La (Ut Y t) (Y.length - 1) | none=>0
def Lm (Y:List Int) (T:List Tn) (k:Nat):Nat×Nat×Nat:=(Gy Y T k,FP T k,QO Y T k)
def CS (Y:List Int) (T:List Tn):List (Nat×Nat×Nat):=(List.range T.length).map (Lm Y T)
def Full (l:List Bx) (xs:List (Nat×Nat×Nat)):Prop:=∃T:List Tn,T.Perm (BF l)∧T.Pairwise (fun s t=>s.x≤t.x)∧xs=CS (Dv (BG l)) T
def Legal (l:List Bx) (xs:List (Nat×Nat×Nat)):Prop:=∃T:List Tn,T.Perm (BF l)∧T.Pairwise (fun s t=>s.x≤t.x)∧xs=(CS (Dv (BG l)) T).take xs.length
def Hr (xs:List (Nat×Nat×Nat)):Nat:=(xs.map fun s=>s.2.1*(2*s.1)).sum
def Ht (xs:List (Nat×Nat×Nat)):Nat:=(xs.map fun s=>s.2.2).sum
theorem Kz (xs:List (Nat×Nat×Nat)) (s:Nat×Nat×Nat):Hr (xs++[s])=Hr xs+s.2.1*(2*s.1):=by simp [Hr]
theorem KA (xs:List (Nat×Nat×Nat)) (s:Nat×Nat×Nat):Ht (xs++[s])=Ht xs+s.2.2:=by simp [Ht]
theorem QT (Y:List Int) (T:List Tn):(CS Y T).length=T.length:=by simp [CS]
theorem OH (Y:List Int) (T:List Tn) {k:Nat} (hk:k<T.length):(CS Y T).take (k+1)=(CS Y T).take k++[Lm Y T k]:=by
 rw [List.take_add_one];unfold CS;simp [List.getElem?_map,List.getElem?_range hk]
theorem FT (f:Nat→Nat):∀n,((List.range n).map f).sum=DV f n
 |0=>rfl
 |n+1=>by rw [List.range_succ,List.map_append,List.sum_append,FT f n];simp [DV]
theorem Lp (Y:List Int) (T:List Tn):Hr (CS Y T)=DV (F7 Y T) T.length:=by
 unfold Hr CS;rw [List.map_map,←FT];rfl
theorem I5 (Y:List Int):∀(T:List Tn),((List.range T.length).map (QO Y T)).sum=BQ Y T
 | []=>rfl
 |t::T=>by
  rw [List.length_cons,List.range_succ_eq_map,List.map_cons,List.sum_cons,List.map_map];have e:(QO Y (t::T) ∘ Nat.succ)=QO Y T:=by funext i;simp [QO]
  rw [e,I5 Y T];rfl
theorem Lr (Y:List Int) (T:List Tn):Ht (CS Y T)=BQ Y T:=by
 unfold Ht CS;rw [List.map_map,←I5];rfl
theorem Jq {l:List Bx} {xs:List (Nat×Nat×Nat)} (hb:∀b∈l,b.BO) (hl:l.length<100000) (h:Full l xs):Hr xs=(Ep l).toNat:=by
 obtain ⟨T,hp,hs,rfl⟩:=h;rw [Lp,Ll hb hl hp hs]
theorem Jr {l:List Bx} {xs:List (Nat×Nat×Nat)} (h:Full l xs):Ht xs=BQ (Dv (BG l)) (BF l):=by
 obtain ⟨T,hp,hs,rfl⟩:=h;rw [Lr,G9 hp]
theorem Em (f:Nat×Nat×Nat→Nat):∀(xs:List (Nat×Nat×Nat)) (k:Nat),((xs.take k).map f).sum≤(xs.map f).sum
 | [],k=>by simp
 |x::xs,0=>by simp
 |x::xs,k+1=>by simp only [List.take_succ_cons,List.map_cons,List.sum_cons];have:=Em f xs k;omega
theorem Legal.tot {l:List Bx} {xs:List (Nat×Nat×Nat)} (hb:∀b∈l,b.BO) (hl:l.length<100000) (h:Legal l xs):Hr xs≤(Ep l).toNat∧Ht xs≤BQ (Dv (BG l)) (BF l):=by
 obtain ⟨T,hp,hs,he⟩:=h;rw [he,←Jq hb hl ⟨T,hp,hs,rfl⟩,←Jr (l:=l) ⟨T,hp,hs,rfl⟩];exact ⟨Em _ _ _,Em _ _ _⟩
theorem Legal.mem {l:List Bx} {xs:List (Nat×Nat×Nat)} (hb:∀b∈l,b.BO) (hl:l.length<100000) (h:Legal l xs):∀s∈xs,s.1≤200000∧s.2.1<18446744073709551616∧s.2.2≤100000000:=by
 obtain ⟨T,hp,hs,he⟩:=h;intro s hm;rw [he] at hm;have hm:=List.mem_of_mem_take hm;unfold CS at hm;obtain ⟨k,hk,rfl⟩:=List.mem_map.1 hm;rw [List.mem_range] at hk;have hM:=Gn hb hl;have h1:=Qg hM T k;have h3:=J5 (BG l);have h4:=Ea l;refine ⟨by unfold Lm;dsimp only;omega,?_,?_⟩
 ·refine Qh (fun t ht=>?_) k
  have hx:=(Gi t.x).1 (List.mem_map.2 ⟨t,hp.mem_iff.1 ht,rfl⟩);unfold Eu at hx;obtain ⟨b,h1,h2⟩:=List.mem_flatMap.1 hx;have h3:=hb b (List.mem_filter.1 h1).1;unfold Bx.BO at h3;simp at h2;rcases h2 with h2 | h2<;>rw [h2]
  ·exact h3.1
  ·exact h3.2.1
 ·have h5:QO (Dv (BG l)) T k≤BQ (Dv (BG l)) T:=by
   rw [←I5,FT];have h:=QN (QO (Dv (BG l)) T) (show k+1≤T.length by omega);rw [DV] at h;omega
  have h6:=Jo (Dv (BG l)) hM.len T;have h7:=hp.length_eq;show QO (Dv (BG l)) T k≤100000000
  omega
open Go.RowKit
def Beyond (B:Nat) (w w':World):Prop:=∃G,Bf G w w'∧∀g∈G,g<B
theorem Beyond.size {B:Nat} {a b:World} (h:Beyond B a b):a.heap.size≤b.heap.size:=by obtain ⟨G,h,-⟩:=h;exact h.size
theorem Beyond.block {B:Nat} {a b:World} (h:Beyond B a b) (k:Nat) (h1:B≤k) (h2:k<a.heap.size):b.heap[k]? = a.heap[k]?:=by
 obtain ⟨G,h,hG⟩:=h;exact h.block k h2 fun hk=>by have:=hG k hk;omega
theorem Beyond.refl (B:Nat) (w:World):Beyond B w w:=⟨[],Bf.refl _ _,by simp⟩
theorem Beyond.of {B:Nat} {a b:World} (h:Bf [] a b):Beyond B a b:=⟨[],h,by simp⟩
theorem Beyond.trans {B:Nat} {a b c:World} (h:Beyond B a b) (k:Beyond B b c):Beyond B a c:=by
 obtain ⟨G,h,hG⟩:=h;obtain ⟨G',k,hG'⟩:=k;refine ⟨G++G',(h.mono fun x hx=>.inl (by simp [hx])).trans (k.mono fun x hx=>.inl (by simp [hx])),fun g hg=>?_⟩
 rcases List.mem_append.1 hg with hg | hg
 ·exact hG g hg
 ·exact hG' g hg
theorem Beyond.upd {B:Nat} {a b c:World} {F:List Nat} (h:Beyond B a b) (k:Bf F b c) (hF:∀i∈F,i<B):Beyond B a c:=h.trans ⟨F,k,hF⟩
theorem Gq {B l:Nat} (w:World) (o:Obj) (hl:B≤l):Below B w (w.putObj l o):=
 ⟨rfl,rfl,rfl,by simp [World.putObj],fun i hi=>World.putObj_heap_other (by omega)⟩
theorem Ls {l:Nat} (w:World) (o:Obj):Bf [l] w (w.putObj l o):=
 ⟨rfl,rfl,rfl,by simp [World.putObj],fun i _ hi=>World.putObj_heap_other (fun e=>hi (by simp [e]))⟩
def Gf (B l:Nat) (w w':World):Prop:=∃G,Bf G w w'∧∀g∈G,g<B∨g=l
theorem Gf.trans {B l:Nat} {a b c:World} (h:Gf B l a b) (k:Gf B l b c):Gf B l a c:=by
 obtain ⟨G,h,hG⟩:=h;obtain ⟨G',k,hG'⟩:=k;refine ⟨G++G',(h.mono fun x hx=>.inl (by simp [hx])).trans (k.mono fun x hx=>.inl (by simp [hx])),fun g hg=>?_⟩
 rcases List.mem_append.1 hg with hg | hg
 ·exact hG g hg
 ·exact hG' g hg
theorem Beyond.keep {B l:Nat} {a b:World} (h:Beyond B a b):Gf B l a b:=by obtain ⟨G,h,hG⟩:=h;exact ⟨G,h,fun g hg=>.inl (hG g hg)⟩
theorem JX (B l:Nat) (w:World) (o:Obj):Gf B l w (w.putObj l o):=⟨[l],Ls w o,fun g hg=>.inr (by simpa using hg)⟩
def Qi {α:Type} (P:Program) (g:Nat) (lb:Array Value) (encs:α→Array Value) (S Pre:List α→Prop) (B:Nat) (w:World):Prop:=
 ∀(n l:Nat) (J:List α→World→Prop) (W:World),Bf [] w W→w.heap.size≤l→l<W.heap.size→(∀s C D,J s C→Below W.heap.size C D→J s D)→
  (∀pre x W1,J pre W1→Pre (pre++[x])→W.heap.size≤W1.heap.size→YieldAt Fence.wide n P l (encs x) W1 fun e W'=>e=.returned (.bool true)∧J (pre++[x]) W'∧Gf B l W1 W')→
  J [] W→
  CallsIn Fence.wide (n+1) P g (#[.func (.yield l) #[] #[]]++lb) W fun e W'=>(∃v,e=.returned v)∧∃xs,S xs∧J xs W'
def fU {α:Type} (B:Nat) (I:List α→World→Prop) (xs:List α) (W:World):Exit→Act→World→Prop
 |.normal,_,W'=>Beyond B W W'∧I xs W'
 |_,_,_=>False
theorem Ik {α:Type} {P:Program} {n:Nat} {g:Operand} {ps:Array Tmp} {assign body:Code} {Q:Exit→Act→World→Prop} {a:Act} {w:World}
 {gf:Nat} {lb:Array Value} (hg:a.eval g=.func (.func gf) #[] lb) (eg:∀args w,(callFunc gf args).run P w=.ok (.enter gf args) w)
 {encs:α→Array Value} {S Pre:List α→Prop} {B:Nat} (hB:B≤w.heap.size) (hseq:Qi P gf lb encs S Pre B w) (hps:∀x,(encs x).size=ps.size)
 (I:List α→World→Prop) (hI:∀s C D,I s C→Below w.heap.size C D→I s D) (h0:I [] w)
 (X8:∀(l:Nat) (pre:List α) (x:α) (W:World),I pre W→Pre (pre++[x])→w.heap.size+1<W.heap.size→
  assign.wpIn (Fence.wide.inRound l) n P (Exit.then (fun a₁ W₁=>Beyond B W W₁∧
   ∀W₂,(∃o,W₂=W₁.putObj (w.heap.size+1) o)→body.wpIn (Fence.wide.inRound l) n P (fU B I (pre++[x]) W₂) a₁ W₂) (fun _ _ _=>False))
   { tmps:=(ps.zip (encs x)).foldl (fun t (p,v)=>t.setIfInBounds p v) a.tmps,defers:=[] } W)
 (hdone:∀(D:Nat) (xs:List α) (W:World),w.heap.size≤D→S xs→I xs W→W.heap[D]? = some (.deferred (some []))→Q .normal { a with defers:={ target:=.collected D,args:=#[] }::a.defers } W) :
 (Code.rangeFunc g ps assign body).wpIn Fence.wide (n+2) P Q a w:=by
 refine wpIn_rangeFunc ?_
 intro fn hfn;obtain ⟨rec,hrec⟩:∃rec:LoopState→Option Code→Loop,rec=fun st pe=>{ state:=st,pending:=pe,fn,tmps:=a.tmps,params:=ps,assign,body,defers:=w.heap.size }:=⟨_,rfl⟩
 obtain ⟨W1,hW1⟩:=AO ((w.alloc (.deferred (some []))).alloc (.loop (rec .ready none)))
 have hL1:W1.heap[w.heap.size+1]? = some (.loop (rec .ready none)):=by
  rw [←hW1];have:=World.alloc_heap_new (w.alloc (.deferred (some []))) (.loop (rec .ready none));rwa [World.size_alloc] at this
 have hK1:W1.heap[w.heap.size]? = some (.deferred (some [])):=by
  rw [←hW1];exact (Below.heap_alloc _ _ _ (by simp)).trans (World.alloc_heap_new w _)
 have hu1:Bf [] w W1:=by rw [←hW1];exact ((Bf.refl _ _).alloc _).alloc _
 have hz1:W1.heap.size=w.heap.size+2:=by rw [←hW1];simp
 refine ⟨w.heap.size+1,[{ target:=.collected w.heap.size,args:=#[] }],W1,{ target:=.fn (.func gf) lb,args:=#[.func (.yield (w.heap.size+1)) #[] #[]] },W1,gf,
  #[.func (.yield (w.heap.size+1)) #[] #[]]++lb,W1,?_,?_,fun _ _=>trivial,?_,fun h=>by simp [Fence.wide] at h,?_⟩
 ·rw [←hW1,hrec];exact run_enterLoop_outer _ _ _ _ _
 ·simp only [resolve,hg];simp [go_sem]
 ·simp [invoke,go_sem,eg]
 ·refine (hseq n (w.heap.size+1) (fun pre W=>I pre W∧W.heap[w.heap.size+1]? = some (.loop (rec .ready none))∧W.heap[w.heap.size]? = some (.deferred (some []))) W1 hu1 (by omega) (by omega)
   (fun s C D hs hb=>⟨hI s C D hs.1 (hb.mono (by omega)),(hb.block _ (by omega)).trans hs.2.1,(hb.block _ (by omega)).trans hs.2.2⟩) ?_ ⟨hI [] _ _ h0 hu1.below,hL1,hK1⟩).mono ?_
  ·rintro pre x W ⟨hi,hl,hk⟩ hlen hsz;have hlt:w.heap.size+1<W.heap.size:=(Array.getElem?_eq_some_iff.1 hl).1;have hy:=run_yield (P:=P) (args:=encs x) hl (by rw [hrec];exact hps x);rw [hrec] at hy;refine ⟨fn,_,assign,body,hy,roundIn_of_wpIn hfn (wpIn_mono (X8 (w.heap.size+1) pre x W hi hlen hlt) ?_)⟩
   intro e a₁ W₁ hp
   cases e with
   |normal=>
    obtain ⟨hb,hbody⟩:=hp;have hl1:=(hb.block _ (by omega) hlt).trans hl;have hk1:=(hb.block _ hB (by omega)).trans hk;refine ⟨W₁.putObj (w.heap.size+1) (.loop { rec .ready none with state:=.busy }),run_beginRound hl1 (by rw [hrec]),?_⟩
    have hl2:(W₁.putObj (w.heap.size+1) (.loop { rec .ready none with state:=.busy })).heap[w.heap.size+1]? = some (.loop { rec .ready none with state:=.busy }):=World.putObj_heap_same (by have:=hb.size;omega);have hk2:(W₁.putObj (w.heap.size+1) (.loop { rec .ready none with state:=.busy })).heap[w.heap.size]? = some (.deferred (some [])):=(World.putObj_heap_other (by omega)).trans hk1;have hb2:Gf B (w.heap.size+1) W (W₁.putObj (w.heap.size+1) (.loop { rec .ready none with state:=.busy })):=hb.keep.trans (JX _ _ _ _);have hz2:(W₁.putObj (w.heap.size+1) (.loop { rec .ready none with state:=.busy })).heap.size=W₁.heap.size:=by simp [World.putObj]
    refine wpIn_mono (hbody _ ⟨_,rfl⟩) ?_
    intro e a3 W3 hp
    cases e with
    |normal=>
     obtain ⟨hk3,hi3⟩:=hp;have hl3:=(hk3.block _ (by omega) (by have:=hb.size;omega)).trans hl2;have hk4:=(hk3.block _ hB (by have:=hb.size;omega)).trans hk2;have hz3:=hk3.size;have hr:=run_endRound (P:=P) none hl3;refine ⟨_,_,hr,rfl,⟨hI _ _ _ hi3 (Gq _ _ (by omega)),?_,?_⟩,(hb2.trans hk3.keep).trans (JX _ _ _ _)⟩
     ·rw [World.putObj_heap_same (by have:=hb.size;omega)];rw [hrec];rfl
     ·exact (World.putObj_heap_other (by omega)).trans hk4
    |_=>exact hp.elim
   |_=>exact hp.elim
  ·rintro e W2 ⟨⟨v,rfl⟩,xs,hS,hi,hl,hk⟩;exact ⟨none,_,by have:=run_endLoop (P:=P) hl (by rw [hrec];simp);rw [hrec] at this;exact this,hdone _ xs _ (Nat.le_refl _) hS (hI _ _ _ hi (Gq _ _ (by omega))) ((World.putObj_heap_other (by omega)).trans hk)⟩
theorem NR {l m:Nat} {P:Program} {row:String} {args:Array Value} {w:World} {R:Value→World→Prop} (h:Rows P row args w R):RowsIn (Fence.wide.inRound l) m P row args w R:=fun c cs _=>by
 obtain ⟨v,w',r,s⟩:=h c cs;exact ⟨v,w',r,stepsIn_wide.2 s⟩
theorem Lu {P:Program} {l m:Nat} {o:Oper} {a:Act} {w:World} {K:Act→World→Prop} {Q:Exit→Act→World→Prop} (hd:∀c,o.op≠.defer c) (h:o.wp P a w K Q) :
 o.wpIn (Fence.wide.inRound l) m P a w K Q:=by
 have e:o.semAt (some l) a.eval=execOp a.eval o:=Oper.semAt_some l _ _ hd;refine ⟨fun _ _=>trivial,?_⟩
 show o.uponIn _ m P a K Q ((o.semAt (some l) a.eval).run P w)
 rw [e];unfold Oper.wp at h;generalize (execOp a.eval o).run P w=r at h ⊢
 cases r with
 |ok x w'=>
  cases x with
  |enter f args=>exact ⟨fun h=>by simp [Fence.wide,Fence.inRound] at h,CallsIn.inRound l (callsIn_wide.2 h)⟩
  |row row args=>exact ⟨fun h=>by simp [Fence.wide,Fence.inRound] at h,NR h⟩
  |value v=>exact h
  |skip=>exact h
  |defer d=>exact h
  |_=>exact h.elim
 |halt x w'=>cases x<;>exact h
def Gz (ops:Array Oper):Bool:=ops.toList.all fun o=>match o.op with | .defer _=>false | _=>true
theorem I7 {ops:Array Oper} (h:Gz ops=true) {i:Nat} {o:Oper} (ho:ops[i]? = some o):∀c,o.op≠.defer c:=by
 intro c e;unfold Gz at h;rw [List.all_eq_true] at h;have:=h o (by rw [Array.mem_toList_iff];exact Array.mem_of_getElem? ho);rw [e] at this
 cases this
theorem DW {P:Program} {md:Region.Mode} {ops:Array Oper} {Q:Exit→Act→World→Prop} {l m:Nat} (hd:Gz ops=true) (hq:¬LetsOut Q):∀(n:Nat) (L:Array Bool) (a:Act) (w:World),wpAny P md ops Q n L a w→wpAnyIn (Fence.wide.inRound l) m P md ops Q n L a w
 |0,_,_,_,h=>h
 |n+1,L,a,w,h=>⟨h.1,fun i hi=>by
  have h2:=h.2 i hi;unfold wpOp at h2;unfold wpOpIn
  cases ho:ops[i]? with
  |none=>rw [ho] at h2;exact DW hd hq n _ _ _ h2
  |some o=>
   rw [ho] at h2;dsimp only at h2 ⊢;split
   ·rename_i hw
    rw [if_pos hw] at h2;exact Oper.wpIn_mono (fun a w hh=>DW hd hq n _ a w hh) (Lu (I7 hd ho) (h2.resolve_right fun h=>hq h.2))
   ·rename_i hw
    rw [if_neg hw] at h2;exact ⟨fun _ _=>trivial,DW hd hq n _ _ _ h2⟩⟩
theorem Bj.Wp {P:Program} {ops:Array Oper} {Q:Exit→Act→World→Prop} {l m id:Nat} {a:Act} {w:World} (T:List Nat) (S:World→Prop) (hm:P.follows .mixedOrders=true) (hd:Gz ops=true) (hq:¬LetsOut Q) (hS:S w.drew)
 (h:S w.drew→Bj P ops Q S T ops.size (Array.replicate ops.size false) a w.drew):(Code.region id ops true).wpIn (Fence.wide.inRound l) m P Q a w:=
 wpIn_region_any hm (DW hd hq _ _ _ _ (KQ _ _ _ _ (h hS (Down.start _))))
def EO:Kind Bx:={ T:=0,sT:=149,eT:=245,sz:=4,enc:=fun b=>[.int .i64 b.x1,.int .i64 b.x2,.int .i64 b.y1,.int .i64 b.y2],len:=fun _=>rfl,one:=fun b u hu=>by simp at hu;rcases hu with rfl | rfl | rfl | rfl<;>rfl }
theorem EO.at {w:World} {A:Option Addr} {n C:Nat} {l:List Bx} (h:See EO w (.slice A n C) l) {k:Nat} {x:Bx} (hx:l[k]? = some x) :
 ∃b o,A=some ⟨b,o,none⟩∧n≤C∧C≤maxLen∧w.cell? ⟨b,o+k*4,none⟩=some (.int .i64 x.x1)∧w.cell? ⟨b,o+k*4+1,none⟩=some (.int .i64 x.x2)∧w.cell? ⟨b,o+k*4+2,none⟩=some (.int .i64 x.y1)∧w.cell? ⟨b,o+k*4+3,none⟩=some (.int .i64 x.y2):=by
 obtain ⟨b,o,h1,h2,h3,h4⟩:=h.at hx;exact ⟨b,o,h1,h2,h3,h4 0 _ rfl,h4 1 _ rfl,h4 2 _ rfl,h4 3 _ rfl⟩
theorem LC (l:List Bx) {k:Nat} {b:Bx} (hb:l[k]? = some b):BH (l.take (k+1))=BH (l.take k)++(if b.counts=true then [zA b] else []):=by
 unfold BH;rw [List.take_add_one,hb];by_cases h:b.counts=true<;>simp [List.filter_append,h]
theorem NT:(Tryz.prog.info? 245).map (fun i=>(i.zero,i.size,i.bytes))=some (some (.agg #[.int .i64 0,.int .i64 0,.int .i64 0,.int .i64 0]),4,32):=by kernel_rfl
theorem GH {w:World} {base:Nat} {e:TypeId} {size g n C:Nat} {xs:List Value} (h:w.ownsRow base e size (.slice (some ⟨g,0,none⟩) n C) n xs) (j:Nat) (u:Value) :
 (w.setCell ⟨g,j,none⟩ u).ownsRow base e size (.slice (some ⟨g,0,none⟩) n C) n (xs.set j u):=by
 obtain ⟨hl,h⟩:=h;refine ⟨by rw [List.length_set];exact hl,?_⟩
 rcases h with ⟨h,-⟩ | ⟨g',cap,cur,h1,h2,h3,h4,h5,h6,h7⟩
 ·cases h
 ·cases h1
  refine .inr ⟨g,C,cur.setIfInBounds j u,rfl,h2,heap_set h3 j u,h4,h5,by simpa using h6,?_⟩
  rw [←h7,Array.toList_setIfInBounds,List.take_set]
theorem NU {w:World} {base:Nat} {e:TypeId} {size g n C:Nat} {xs:List Value} (h:w.ownsRow base e size (.slice (some ⟨g,0,none⟩) n C) n xs) {o m:Nat} (hj:o+m≤n*size):w.there g o m:=by
 obtain ⟨hl,h⟩:=h;rcases h with ⟨h,-⟩ | ⟨g',cap,cur,h1,h2,h3,h4,h5,h6,h7⟩
 ·cases h
 ·cases h1
  intro j hj'
  have hlt:o+j<cur.size:=by
   rw [h6];exact Bc (by omega) (Nat.mul_le_mul_right size h4)
  exact ⟨by simp [World.cell?,h3,hlt],by simp [World.frozen?,h3]⟩
theorem EO.Jw:∀(l:List Bx) (k:Nat) (x:Bx),k<l.length→((((EO.all l).set (k*4) (.int .i64 x.x1)).set (k*4+1) (.int .i64 x.x2)).set (k*4+1+1) (.int .i64 x.y1)).set (k*4+1+1+1) (.int .i64 x.y2)=EO.all (l.set k x)
 | [],k,x,h=>by simp at h
 |y::r,0,x,_=>by simp [Kind.all,EO]
 |y::r,k+1,x,h=>by
  have e:=EO.Jw r k x (by simpa using h);rw [List.set_cons_succ];unfold Kind.all at e ⊢;rw [List.flatMap_cons,List.flatMap_cons,←e];have e1:(k+1)*4=(EO.enc y).length+k*4:=by rw [Nat.add_mul,show (EO.enc y).length=4 from rfl];omega
  rw [e1]
  have hs:∀(A:List Value) (j:Nat) (u:Value),(EO.enc y++A).set ((EO.enc y).length+j) u=EO.enc y++A.set j u:=fun A j u=>by
   rw [List.set_append_right _ _ (by omega),Nat.add_sub_cancel_left]
  rw [hs,Nat.add_assoc,hs,Nat.add_assoc,Nat.add_assoc,hs,Nat.add_assoc,Nat.add_assoc,Nat.add_assoc,hs]
theorem EO.put {w:World} {base g n C:Nat} {l:List Bx} (h:EO.row w base (.slice (some ⟨g,0,none⟩) n C) l) (hn:l.length=n) {k:Nat} (hk:k<n) (x:Bx) :
 EO.row (w.setCells g (k*4) [.int .i64 x.x1,.int .i64 x.x2,.int .i64 x.y1,.int .i64 x.y2]) base (.slice (some ⟨g,0,none⟩) n C) (l.set k x):=by
 unfold Kind.row at *;rw [List.length_set];rw [hn] at h ⊢;rw [←EO.Jw l k x (by omega)];have e:EO.sz=4:=rfl;rw [e] at h ⊢;exact GH (GH (GH (GH h _ _) _ _) _ _) _ _
theorem Ve (v:Value) (l:List Bx) (w:World) (hs:See G5 w v l) (hl:l.length<400000) :
 Calls Tryz.prog 104 #[v] w fun e w'=>∃A C,e=.returned (.slice A (BH l).length C)∧EO.row w' w.heap.size (.slice A (BH l).length C) (BH l)∧Bf [] w w':=by
 obtain ⟨iT,hiT,hT0,hT1,hT2⟩:=info_parts NT;obtain ⟨A,C,rfl⟩:=hs.form;obtain ⟨B,hB⟩:=AO w.heap.size;rw [hB];have HS:=AQ hs;have HL:=AQ hl;have JG:=AQ hB;have hll:(l.length:Int)<400000:=by omega
 clear hs hl hB;go_enter Tryz.func104,Tryz.ntmps104
 go_wp2_with fail
 go_loopg [3,8] l.length (fun m s3 s8 wr=>∃k At Ct,m+k=l.length∧s3=.slice At (BH (l.take k)).length Ct∧s8=.int .i64 (k:Int)∧EO.row wr B (.slice At (BH (l.take k)).length Ct) (BH (l.take k))∧Bf [] w wr)
 case atStart=>exact ⟨0,none,0,rfl,rfl,rfl,World.ownsRow_nil _ _ _ _,Bf.refl _ _⟩
 case round=>
  obtain ⟨k,At,Ct,hk,rfl,rfl,ht,hu⟩:=hrel;have b0:(0:Int)≤(k:Int):=AU _;by_cases hlt:k<l.length
  ·obtain ⟨b,hb⟩:∃b,l[k]? = some b:=⟨_,AX hlt⟩;obtain ⟨bl,ol,hA,-,-,l0,l1,l2,l3,l4⟩:=G5.at (HS.out.Bh hu) hb;subst hA;have htt:=LC l hb;have hlen:=Df (l.take k);have htl:(l.take k).length≤l.length:=by rw [Ba];omega
   obtain ⟨T,hT⟩:=AO (BH (l.take k));rw [hT] at htt ht hlen ⊢;obtain ⟨x1,x2,y1,y2,bi⟩:=b;dsimp only at l0 l1 l2 l3 l4 htt;have b1:(k:Int)<(l.length:Int):=by omega
   have HT:=AQ ht;have OL:=AQ htt;have Om:=AQ (show T.length<900000 by have:=HL.out;omega);have HU:=AQ hu;have HK:=AQ hk;have GY:=AQ hlt;have FM:Bf [] wr (wr.alloc (.cells #[.int .i64 x1,.int .i64 x2,.int .i64 y1,.int .i64 y2,.int .u32 (bi:Int)] 28)):=(Bf.refl _ _).alloc _;have hbx:(wr.alloc (.cells #[.int .i64 x1,.int .i64 x2,.int .i64 y1,.int .i64 y2,.int .u32 (bi:Int)] 28)).heap[wr.heap.size]? = some (.cells #[.int .i64 x1,.int .i64 x2,.int .i64 y1,.int .i64 y2,.int .u32 (bi:Int)] 28 (0,0)):=heap_alloc_new _ _;have Gl:=AQ FM;have EH:=AQ hbx;clear ht htt hlen htl hu hk hlt hT FM hbx hb;by_cases hx:x1<x2
   ·have g1:decide (x1<x2)=true:=decide_eq_true hx;by_cases hy:y1<y2
    ·have g2:decide (y1<y2)=true:=decide_eq_true hy;have hcnt:(⟨x1,x2,y1,y2,bi⟩:Bx).counts=true:=by unfold Bx.counts;simp;omega
     rw [hcnt,if_pos rfl] at OL;clear hx hy hcnt;go_upto_region 6 with fail
     have JZ:=AQ (show EO.row _ B _ T from Bg HT.out Gl.out (by simp));have Ur:=AQ (HU.out.trans Gl.out);generalize (wr.alloc (.cells #[.int .i64 x1,.int .i64 x2,.int .i64 y1,.int .i64 y2,.int .u32 (bi:Int)] 28))=Wb at EH JZ Ur Gl ⊢;generalize wr.heap.size=q at EH ⊢;have c0:Wb.cell? ⟨q,0,none⟩=some (.int .i64 x1):=by have:=EH.out;simp [World.cell?,this]
     have c1:Wb.cell? ⟨q,1,none⟩=some (.int .i64 x2):=by have:=EH.out;simp [World.cell?,this]
     have c2:Wb.cell? ⟨q,2,none⟩=some (.int .i64 y1):=by have:=EH.out;simp [World.cell?,this]
     have c3:Wb.cell? ⟨q,3,none⟩=some (.int .i64 y2):=by have:=EH.out;simp [World.cell?,this]
     have uZ:=AQ (show B≤Wb.heap.size by have:=Ur.out.size;rw [JG.out] at this;exact this);go_wp2_with (at_builtin;refine BL _ rfl _ _ 149 rfl B 245 iT (.agg #[.int .i64 0,.int .i64 0,.int .i64 0,.int .i64 0]) 4 32 Tryz.underlying149 hiT hT0 hT1 hT2 rfl (by decide) _ _ _ rfl (Bg JZ.out ((Bf.refl [] _).alloc _) (by simp)) _ 1 [.int .i64 x1,.int .i64 x2,.int .i64 y1,.int .i64 y2] rfl (BM Wb #[.int .i64 x1,.int .i64 x2,.int .i64 y1,.int .i64 y2] 245 4 1 rfl (by decide)) (by simp [Value.oneCell']) (by have:=Om.out;unfold maxLen;omega) (Ac Om) (by have:=uZ.out;simp;omega) ?_)
     intro A6 C6 w6 HP;have u6:Bf (blk (.slice At T.length Ct)) Wb w6:=((Bf.refl _ _).alloc _).trans HP.upd
     have r6:EO.row w6 B (.slice A6 (T.length+1) C6) (T++[zA ⟨x1,x2,y1,y2,bi⟩]):=by
      have:=HP.own;unfold Kind.row;rw [Kind.Ci,AY];exact this
     have Jv:=AQ (show Bf [] w w6 from Ur.out.trans' u6 (fun j hj=>.inr (by rw [JG.out];exact BD JZ.out j hj)));have OJ:=AQ r6;clear HP u6 r6 c0 c1 c2 c3;go_wp2_with fail
     go_roundg (l.length - (k+1))
     case measure=>have:=HK.out;have:=GY.out;omega
     case rel=>
      refine ⟨k+1,A6,C6,Ad HK GY,?_,by go_num,?_,Jv.out⟩
      ·rw [OL.out,AY];rfl
      ·rw [OL.out,AY];exact OJ.out
    ·have g2:decide (y1<y2)=false:=decide_eq_false hy;have hcnt:(⟨x1,x2,y1,y2,bi⟩:Bx).counts=false:=by unfold Bx.counts;simp;omega
     rw [hcnt] at OL;clear hx hy hcnt;go_wp2_with fail
     go_roundg (l.length - (k+1))
     case measure=>have:=HK.out;have:=GY.out;omega
     case rel=>
      refine ⟨k+1,At,Ct,Ad HK GY,?_,by go_num,?_,HU.out.trans Gl.out⟩<;>rw [OL.out,if_neg (by simp),List.append_nil]
      exact Bg HT.out Gl.out (by simp)
   ·have g1:decide (x1<x2)=false:=decide_eq_false hx;have hcnt:(⟨x1,x2,y1,y2,bi⟩:Bx).counts=false:=by unfold Bx.counts;simp;omega
    rw [hcnt] at OL;clear hx hcnt;go_wp2_with fail
    go_roundg (l.length - (k+1))
    case measure=>have:=HK.out;have:=GY.out;omega
    case rel=>
     refine ⟨k+1,At,Ct,Ad HK GY,?_,by go_num,?_,HU.out.trans Gl.out⟩<;>rw [OL.out,if_neg (by simp),List.append_nil]
     exact Bg HT.out Gl.out (by simp)
  ·have hke:l.take k=l:=List.take_of_length_le (by omega);rw [hke] at ht ⊢;have HR:=Ai ht hu;clear ht hu hk hke;go_wp2_with fail
   go_ret
   exact ⟨_,_,rfl,HR.1,HR.2⟩
theorem upF (v:Value) (l:List Bx) (w:World) (hs:See G5 w v l) (hl:l.length<400000) :
 Calls Tryz.prog 105 #[v] w fun e w'=>∃A C,e=.returned (.slice A (BH l).length C)∧EO.row w' w.heap.size (.slice A (BH l).length C) ((BH l).map En)∧Bf [] w w':=by
 have hr:=Ve v l w hs hl;have hlen:=Df l;obtain ⟨T,hT⟩:=AO (BH l);rw [hT] at hr hlen ⊢;obtain ⟨n,hn⟩:=AO T.length;rw [hn] at hr hlen ⊢;have HR:=AQ hr;have hnb:(n:Int)<400000:=by omega
 have HN:=AQ hn;obtain ⟨B,hB⟩:=AO w.heap.size;rw [hB] at HR ⊢;have JG:=AQ hB;clear hs hr hl hlen hT hn hB;go_enter Tryz.func105,Tryz.ntmps105
 go_wp2_with fail
 (with_reducible refine HR.out.mono ?_);rintro e w1 ⟨A,C,rfl,hrow,hu1⟩;have LP:=AQ hrow;have FY:=AQ hu1;clear hrow hu1;go_wp2_with fail
 go_loopg [10] n (fun m s10 wr=>∃k,m+k=n∧s10=.int .i64 (k:Int)∧EO.row wr B (.slice A n C) ((T.take k).map En++T.drop k)∧Bf [] w wr)
 case atStart=>exact ⟨0,rfl,rfl,by simpa using LP.out,FY.out⟩
 case round=>
  obtain ⟨k,hk,rfl,ht,hu⟩:=hrel;have b0:(0:Int)≤(k:Int):=AU _;by_cases hlt:k<n
  ·obtain ⟨b,hb⟩:∃b,T[k]? = some b:=⟨_,AX (Ac HN)⟩;obtain ⟨R,hR⟩:=AO ((T.take k).map En++T.drop k);have hlk:((T.take k).map En).length=k:=by rw [List.length_map,Ba];have:=HN.out;omega
   have hdk:T.drop k=b::T.drop (k+1):=by
    have hk':k<T.length:=Ac HN;rw [List.drop_eq_getElem_cons hk'];have:=AX hk';rw [hb] at this
    cases this
    rfl
   have hRk:R[k]? = some b:=by
    rw [←hR,List.getElem?_append_right (by omega),hlk,Nat.sub_self,hdk];rfl
   have hRn:(T.take (k+1)).map En++T.drop (k+1)=R.set k (En b):=by
    rw [←hR,hdk,List.set_append_right _ _ (by omega),hlk,Nat.sub_self,List.set_cons_zero,List.take_add_one,hb,List.map_append,List.append_assoc];rfl
   have hRl:R.length=n:=by
    rw [←hR,AY,hlk,List.length_drop];have:=HN.out;omega
   rw [hR] at ht;obtain ⟨g,o,hA,-,-,l0,l1,l2,l3⟩:=EO.at (See.BX ht) hRk
   obtain ⟨g',rfl⟩:∃g',A=some ⟨g',0,none⟩:=by
    rcases ht.2 with ⟨h,-⟩ | ⟨g',cap,cur,h1,-⟩
    ·cases h;simp at hA
    ·cases h1;exact ⟨g',rfl⟩
   cases hA
   rw [Nat.zero_add] at l0 l1 l2 l3;obtain ⟨x1,x2,y1,y2,bi⟩:=b;dsimp only at l0 l1 l2 l3;have b1:(k:Int)<(n:Int):=by omega
   have hrow:EO.row wr B (.slice (some ⟨g,0,none⟩) n C) R:=ht;have FM:Bf [] wr (wr.alloc (.cells #[.int .i64 x1,.int .i64 x2,.int .i64 y1,.int .i64 y2] 245)):=(Bf.refl _ _).alloc _;have hbx:(wr.alloc (.cells #[.int .i64 x1,.int .i64 x2,.int .i64 y1,.int .i64 y2] 245)).heap[wr.heap.size]? = some (.cells #[.int .i64 x1,.int .i64 x2,.int .i64 y1,.int .i64 y2] 245 (0,0)):=heap_alloc_new _ _;have Gl:=AQ FM;have EH:=AQ hbx;have fV:=AQ hrow;have zB:=Ai hRn hRl;have HU:=AQ hu;have HK:=Ai hk hlt;clear ht hb hR hlk hdk hRk hRn hRl hrow FM hbx hu hk hlt;go_upto_region 5 with fail
   have JZ:=AQ (show EO.row _ B _ R from Bg fV.out Gl.out (by simp));have Ur:=AQ (HU.out.trans Gl.out);generalize (wr.alloc (.cells #[.int .i64 x1,.int .i64 x2,.int .i64 y1,.int .i64 y2] 245))=Wb at EH JZ Ur Gl ⊢;generalize wr.heap.size=q at EH ⊢;have c0:Wb.cell? ⟨q,0,none⟩=some (.int .i64 x1):=by have:=EH.out;simp [World.cell?,this]
   have c1:Wb.cell? ⟨q,1,none⟩=some (.int .i64 x2):=by have:=EH.out;simp [World.cell?,this]
   have c2:Wb.cell? ⟨q,2,none⟩=some (.int .i64 y1):=by have:=EH.out;simp [World.cell?,this]
   have c3:Wb.cell? ⟨q,3,none⟩=some (.int .i64 y2):=by have:=EH.out;simp [World.cell?,this]
   have HTH:=AQ (NU (o:=k*4) (m:=4) (show Wb.ownsRow B 245 4 (.slice (some ⟨g,0,none⟩) n C) n (EO.all R) by have:=JZ.out;unfold Kind.row at this;rw [zB.2] at this;exact this) (Ac HK.2));have RU:=AQ (EO.put JZ.out zB.2 HK.2 ⟨y1,y2,x1,x2,0⟩);have Rk:=AQ (Ur.out.trans' (Ui g [.int .i64 y1,.int .i64 y2,.int .i64 x1,.int .i64 x2] (k*4) Wb) (fun j hj=>.inr (by rw [JG.out];simp at hj;rw [hj];exact BD JZ.out g (by simp [blk]))));iterate 37 go_step
   refine wpList_store_mid (P:=Tryz.prog) (x:=.tmp 26) (y:=.tmp 25) rfl 245 rfl g (k*4) #[.int .i64 y1,.int .i64 y2,.int .i64 x1,.int .i64 x2] (by simp [Act.eval]) (by simp [Act.eval]) HTH.out (by kernel_rfl) (all_oneCell_toArray (by simp [Value.oneCell'])) ?_
   simp only [Act.put];go_wp2_with fail
   go_roundg (n - (k+1))
   case measure=>have:=HK.out;omega
   case rel=>
    refine ⟨k+1,Ac HK,by go_num,?_,Rk.out⟩
    rw [zB.1];exact RU.out
  ·have hke:T.take k=T:=List.take_of_length_le (Ac HN);have hkd:T.drop k = []:=List.drop_eq_nil_of_le (Ac HN);rw [hke,hkd,List.append_nil] at ht;have HR:=Ai ht hu;clear ht hu hk hke hkd;go_wp2_with fail
   go_ret
   exact ⟨_,_,rfl,HR.1,HR.2⟩
