/- rank.First: the place of the first one not below a number, in a list that rises. wide.Diff. -/
import Derived.BigQuiet
import Derived.Deep.Light
import Derived.Test.YtkbaaonchdeneaaGreatPc5
set_option maxHeartbeats 1000000
set_option maxRecDepth 100000
namespace Go.Proofs.YtkbaaonchdeneaaGreat
open Go.RowKit
def below (L:List Int) (x:Int):Nat:=(L.filter λy=>decide (y<x)).length
theorem below_le (L:List Int) (x:Int):below L x<=L.length:=List.length_filter_le _ _
theorem JD {L:List Int} (hs:L.Pairwise (·<=·)) (x:Int):∀(k:Nat) (y:Int),L[k]? = some y->(y<x↔k<below L x):=by
 induction L with
 |nil=>intro k y h;simp at h
 |cons a L ih=>
  rw [List.pairwise_cons] at hs;intro k y h;by_cases ha:a<x
  ·have e:below (a::L) x=below L x+1:=by unfold below;rw [List.filter_cons,if_pos (by simpa using ha)];rfl
   rw [e];rcases k with _ | k
   ·simp at h;subst h;simp [ha]
   ·rw [ih hs.2 k y (by simpa using h)];omega
  ·have e:below (a::L) x=0:=by
    unfold below;rw [List.length_eq_zero_iff,List.filter_eq_nil_iff];intro z hz;rcases List.mem_cons.1 hz with rfl | hz
    ·simpa using ha
    ·have:=hs.1 z hz;simp;omega
   rw [e]
   have:a<=y:=by
    rcases k with _ | k
    ·simp at h;omega
    ·exact hs.1 y (List.mem_of_getElem? (by simpa using h))
   omega
theorem uV (bl bx:Nat) (v:Value) (L:List Int) (x y:Int) (k:Nat) (w:World) (hc1:w.cell? bl=some v) (hc2:w.cell? bx=some (.int .i64 x)) (h:See KL w v L) (hk:L[k]? = some y) :
 Calls Tryz.prog 257 #[(k:Int),.pointer (some bl),.pointer (some bx)] w λe w'=>e=.returned (.bool (decide (x<=y)))/\∃n,w'=w.drewN n:=by
 obtain ⟨A,C,rfl⟩:=h.form;obtain ⟨b,o,rfl,h1,h2,h3⟩:=KL.at h hk;have hkl:=(AZ hk).1;unfold maxLen at h2;have b0:(0:Int)<=(k:Int):=AY _;have b1:(k:Int)<(L.length:Int):=by omega
 clear h hk;go_enter Tryz.func257,Tryz.ntmps257
 go_wp2_with fail
 go_quiet (fail)
 go_wp2_with fail
 go_ret
 exact ⟨rfl,_,rfl⟩
theorem V7 (d e:Nat) (hd:0<d) (he:e<=d / 2):BA e+1<=BA d:=by
 have h1:=Di d;have hb:BA d≠0:=λh=>by rw [h] at h1;omega
 obtain ⟨b,hbb⟩:∃b,BA d=b+1:=⟨BA d - 1,by omega⟩;rw [hbb] at h1 |-;have:BA e<=b:=BP e b (by rw [Nat.pow_succ] at h1;omega);omega
theorem XG (bl bx:Nat) (v:Value) (L:List Int) (x:Int) (w:World) (hs:L.Pairwise (·<=·)) (hc1:w.cell? bl=some v) (hc2:w.cell? bx=some (.int .i64 x)) (h:See KL w v L) (hl:L.length<4611686018427387904) :
 Calls Tryz.prog 256 #[(L.length:Int),.func (.func 257) #[] #[.pointer (some bl),.pointer (some bx)]] w λe w'=>
  (∃k:Nat,e=.returned (.tuple #[.int .i64 (below L x:Nat),(k:Int)])/\k<=BA L.length)/\∃n,w'=w.drewN n:=by
 obtain ⟨n,hn⟩:=AU L.length;obtain ⟨p,hp⟩:=AU (below L x);have hpn:=below_le L x;have hat:=JD hs x;rw [hp] at hpn hat |-;rw [hn] at hl hpn |-;have a8V:BA n<=62:=BP n 62 (by omega);have HC1:=AX hc1;have HC2:=AX hc2;have HH:=AX h;have HN:=AX hn;have HAT:=AX hat;clear hc1 hc2 h hn hat hs hp;go_enter Tryz.func256,Tryz.ntmps256
 go_wp2_with fail
 go_loopg [6,7,8] n (λm s6 s7 s8 wr=>∃(f t k q:Nat),m=t - f/\f<=p/\p<=t/\t<=n/\s6=.int .i64 (f:Int)/\s7=.int .i64 (t:Int)/\s8=.int .i64 (k:Int)/\k+BA (t - f)<=BA n/\wr=w.drewN q)
 case atStart=>exact ⟨0,n,0,0,rfl,Nat.zero_le _,hpn,Nat.le_refl _,rfl,rfl,rfl,by simp,rfl⟩
 case round=>
  obtain ⟨f,t,k,q,hm,hfp,hpt,htn,rfl,rfl,rfl,hk,rfl⟩:=hrel;by_cases hft:f<t
  ·obtain ⟨c,hc⟩:=AU (f+(t - f) / 2);have hcv:Value.int .i64 ((f:Int)+((t:Int) - (f:Int)) / 2)=Value.int .i64 (c:Int):=by congr 1;omega
   have hct:c<t:=by omega
   have hfc:f<=c:=by omega
   obtain ⟨y,hy⟩:∃y,L[c]? = some y:=⟨L[c]'(by rw [HN.out];omega),Ba _⟩;have hiff:=HAT.out c y hy;have hd1:c - f<=(t - f) / 2:=by omega
   have hd2:t - (c+1)<=(t - f) / 2:=by omega
   have hk1:k+1+BA (c - f)<=BA n:=by have:=V7 (t - f) _ (by omega) hd1;omega
   have hk2:k+1+BA (t - (c+1))<=BA n:=by have:=V7 (t - f) _ (by omega) hd2;omega
   have hkb:k<=62:=by omega
   have HM:=AX hm;have nP:=AX hk1;have HK2:=AX hk2;have HY:=AX hy;have a5J:=AX hiff;have HCC:=AX hc;clear hm hk hk1 hk2 hy hiff hc hd1 hd2;go_wp2_with fail
   refine (uV bl bx v L x y c (w.drewN q) HC1.out HC2.out (HH.out.BF ((Bj.refl [] w).drewN q)) HY.out).mono ?_
   rintro e w' ⟨rfl,q2,rfl⟩;obtain ⟨bb,hbb⟩:∃bb,decide (x<=y)=bb:=⟨_,rfl⟩;rw [hbb];have Jj:=AX hbb;clear hbb
   cases bb
   ·have hlt:c<p:=by
     have h1:=of_decide_eq_false Jj.out;exact a5J.1 (by omega)
    go_wp2_with fail
    go_roundg (t - (c+1))
    case measure=>have:=HM.out;omega
    case rel=>exact ⟨c+1,t,k+1,q+q2,rfl,by omega,hpt,htn,by go_num,rfl,by go_num,HK2.out,rfl⟩
   ·have hge:p<=c:=by
     have h1:=of_decide_eq_true Jj.out;refine Nat.le_of_not_lt λh=>?_
     have:=a5J.2 h;omega
    go_wp2_with fail
    go_roundg (c - f)
    case measure=>have:=HM.out;have:=HCC.out;omega
    case rel=>exact ⟨f,c,k+1,q+q2,rfl,hfp,hge,by omega,rfl,rfl,by go_num,nP.out,rfl⟩
  ·have hfe:f=p:=by omega
   have RX:=AX hfe;have HKK:=AX (show k<=BA n by omega);clear hfe hk hm;go_wp2_with fail
   go_ret2
   exact ⟨⟨k,by rw [<-RX.out];rfl,HKK.out⟩,q,rfl⟩
theorem a2J (v:Value) (L:List Int) (x:Int) (w:World) (hs:L.Pairwise (·<=·)) (h:See KL w v L) (hl:L.length<4611686018427387904) :
 Calls Tryz.prog 216 #[v,x] w λe w'=>(∃k:Nat,e=.returned (.tuple #[.int .i64 (below L x:Nat),(k:Int)])/\k<=BA L.length)/\Bj [] w w':=by
 obtain ⟨A,C,rfl⟩:=h.form;have hu:Bj [] w ((w.alloc (.cells #[.slice A L.length C] 57)).alloc (.cells #[x] 2)):=((Bj.refl _ _).alloc _).alloc _
 have hc1:((w.alloc (.cells #[.slice A L.length C] 57)).alloc (.cells #[x] 2)).cell? w.heap.size=some (.slice A L.length C):=by
  rw [World.cell?_alloc_past _ _ _ (by simp),World.cell?_alloc_at _ _ _ _ rfl];rfl
 have hc2:((w.alloc (.cells #[.slice A L.length C] 57)).alloc (.cells #[x] 2)).cell? ⟨w.heap.size+1,0,none⟩=some (.int .i64 x):=by
  rw [World.cell?_alloc_at _ _ _ _ (by simp)];rfl
 have hb:=XG w.heap.size (w.heap.size+1) _ L x _ hs hc1 hc2 (h.BF hu) hl;have HB:=AX hb;have HU:=AX hu;clear hb hu h hc1 hc2 hs;go_enter Tryz.func216,Tryz.ntmps216
 go_wp2_with fail
 refine HB.out.mono ?_
 rintro e w' ⟨⟨k,rfl,hk⟩,q,rfl⟩;have HK:=AX hk;clear hk;go_wp2_with fail
 go_ret2
 exact ⟨⟨k,rfl,HK.out⟩,HU.out.drewN q⟩
def MI (a b:Int):Int:=if b<=a then 0 else b - a
theorem Hy (x:Int):IntKind.u64.wrap x=x % 18446744073709551616:=by simp [IntKind.wrap,IntKind.signed,IntKind.bits]
theorem a0o (a b:Int) (h:a<=b) (hd:b - a<18446744073709551616):IntKind.u64.wrap (IntKind.u64.wrap b - IntKind.u64.wrap a)=b - a:=by
 rw [Hy,Hy,Hy];omega
theorem iL (a b:Int) (w:World) (ha : -9223372036854775808<=a/\a<=9223372036854775807) (hb : -9223372036854775808<=b/\b<=9223372036854775807) :
 Calls Tryz.prog 98 #[a,b] w λe w'=>e=.returned (.int .u64 (MI a b))/\w=w':=by
 obtain ⟨ha1,ha2⟩:=ha;obtain ⟨hb1,hb2⟩:=hb;by_cases h:b<=a
 ·go_enter Tryz.func98,Tryz.ntmps98
  go_wp2_with fail
  go_ret
  exact ⟨by unfold MI;rw [if_pos h];rfl,rfl⟩
 ·go_enter Tryz.func98,Tryz.ntmps98
  go_wp2_with fail
  go_ret
  exact ⟨by unfold MI;rw [if_neg (by omega),<-a0o a b (by omega) (by omega)];rfl,rfl⟩
