/- Maps from boxes to numbers: what a block of such a map has, as a list of pairs. Printed by -/
import Derived.WideKeyEntry
import Derived.ProofKit
import Derived.Test.YtkbaaonchdeneaaGreatPbBoxesCoverP2
import Derived.Test.YtkbaaonchdeneaaGreatPb16
set_option maxHeartbeats 8000000
set_option maxRecDepth 100000
namespace Go.Proofs.YtkbaaonchdeneaaGreat.MBx
open Go.RowKit
open Go.Maps (Keyed Tidy IsMap)
def kv (x:Bx):Value:=.agg #[.int .i64 x.x1,.int .i64 x.x2,.int .i64 x.y1,.int .i64 x.y2,.int .u32 (x.id:Int)]
theorem a4r {x y:Bx} (h:kv x=kv y):x=y:=by
 cases x;cases y
 simp [kv] at h;simp only [Bx.mk.injEq];omega
theorem a6F:(match Tryz.prog.underlying 28 with | some (.array _ _) | some (.struct _)=>true | _=>false)=true:=by rw [Tryz.underlying28]
theorem a6G:laidOutB Tryz.prog=true:=by kernel_rfl
theorem a6H:(28:TypeId)<Tryz.prog.types.size:=of_decide_eq_true (by kernel_rfl)
theorem a6I:WideMaps.KeyLaw Tryz.prog 28:=deep_law_laid a6G (m:=2) (by omega) a6H (by kernel_rfl) a6F
theorem UY:Keyed Tryz.prog 28:=Keyed.of_law a6I
theorem a6J:(28:Nat)<Tryz.prog.types.size:=a6H
theorem wL:Tryz.prog.cellsOf 28=5:=by kernel_rfl
theorem a0U:Tryz.prog.cellsOf 2=1:=by kernel_rfl
theorem a0V:Tryz.prog.cellsOf 26=1:=by kernel_rfl
theorem kType:Tryz.prog.keyType 28=true:=by kernel_rfl
theorem a4s (x:Bx) (hx:(x.BO∧x.id<4294967296)):∃kl,keyOf Tryz.prog 28 (kv x)=some kl:=by
 obtain ⟨⟨⟨a0,a1⟩,⟨b0,b1⟩,⟨d0,d1⟩,⟨e0,e1⟩⟩,c1⟩:=hx;have w0:(Lit.int .i64 x.x1).wf=true:=by simp [Lit.wf,IntKind.min,IntKind.max,IntKind.signed,IntKind.bits];omega
 have w1:(Lit.int .i64 x.x2).wf=true:=by simp [Lit.wf,IntKind.min,IntKind.max,IntKind.signed,IntKind.bits];omega
 have w2:(Lit.int .i64 x.y1).wf=true:=by simp [Lit.wf,IntKind.min,IntKind.max,IntKind.signed,IntKind.bits];omega
 have w3:(Lit.int .i64 x.y2).wf=true:=by simp [Lit.wf,IntKind.min,IntKind.max,IntKind.signed,IntKind.bits];omega
 have w4:(Lit.int .u32 (x.id:Int)).wf=true:=by simp [Lit.wf,IntKind.min,IntKind.max,IntKind.signed,IntKind.bits];omega
 obtain ⟨d,hd⟩:∃d,Tryz.prog.types.size+1=d+1+1:=⟨Tryz.prog.types.size - 1,Ac a6J⟩
 have hl:∃L,Tryz.prog.keyLits (Tryz.prog.types.size+1) 28 [.int .i64 x.x1,.int .i64 x.x2,.int .i64 x.y1,.int .i64 x.y2,.int .u32 (x.id:Int)]=some L:=by
  rw [hd];refine ⟨[.int .i64 x.x1,.int .i64 x.x2,.int .i64 x.y1,.int .i64 x.y2,.int .u32 (x.id:Int)],?_⟩
  unfold Program.keyLits;rw [Tryz.underlying28];simp only [wL,List.length_cons,List.length_nil];simp [Program.keyLits,Tryz.underlying2,Tryz.underlying26,a0U,a0V,w0,w1,w2,w3,w4]
 obtain ⟨L,hL⟩:=hl;refine ⟨.string (keyBytes L),?_⟩
 unfold keyOf;rw [Tryz.underlying28];simp only [kType,Bool.true_and];have hfm:(kv x).formed Tryz.prog 28=true:=by simp [kv,Value.formed,Tryz.underlying28,wL]
 rw [if_pos hfm];have hcs:(kv x).cells.toList = [.int .i64 x.x1,.int .i64 x.x2,.int .i64 x.y1,.int .i64 x.y2,.int .u32 (x.id:Int)]:=rfl;rw [hcs,hL];rfl
def MapAt (w:World) (b:Nat) (m:List (Bx×Int)):Prop:=
 (m.map (·.1)).Nodup∧∃D:DataW Nat,w.ownsMap Tryz.prog 28 (plainElem Tryz.prog 3) b m.length D∧Tidy D∧Maps.size D=m.length∧
  (∀x kl,keyOf Tryz.prog 28 (kv x)=some kl→Maps.has D kl=(m.lookup x).isSome)∧∀x kl,keyOf Tryz.prog 28 (kv x)=some kl→D.atKey kl (.lit (.int .i64 0))=.lit (.int .i64 ((m.lookup x).getD 0))
theorem MapAt.lt {w:World} {b:Nat} {m:List (Bx×Int)} (h:MapAt w b m):b<w.heap.size:=by
 obtain ⟨_,D,h1,_⟩:=h;exact h1.lt
theorem MapAt.upd {F:List Nat} {w w':World} {b:Nat} {m:List (Bx×Int)} (h:MapAt w b m) (hu:Bf F w w') (hb:b∉F):MapAt w' b m:=by
 obtain ⟨h0,D,h1,h2⟩:=h;have hlt:=h1.lt;obtain ⟨es,clock,hb',hr⟩:=h1;exact ⟨h0,D,⟨es,clock,(hu.block b hlt hb).trans hb',hr⟩,h2⟩
theorem MapAt.made (w:World):MapAt (w.alloc (.map #[] 0)) w.heap.size []:=
 ⟨List.nodup_nil,.map [],World.ownsMap_made _ _ _ _,Maps.tidy_empty,rfl,fun x kl _=>by simp [Maps.has],fun x kl _=>by simp [DataW.atKey]⟩
theorem MapAt.drew {w:World} {b:Nat} {m:List (Bx×Int)} (h:MapAt w b m):MapAt w.drew b m:=h
theorem MapAt.look {w:World} {b:Nat} {m:List (Bx×Int)} (h:MapAt w b m) {x:Bx} (hx:(x.BO∧x.id<4294967296)) :
 (Instr.lookup 161 (.map (some b)) (.agg #[.int .i64 x.x1,.int .i64 x.x2,.int .i64 x.y1,.int .i64 x.y2,.int .u32 (x.id:Int)]) true).run Tryz.prog w=.ok (.tuple #[.int .i64 ((m.lookup x).getD 0),.bool (m.lookup x).isSome]) w:=by
 obtain ⟨_,D,h1,h2,h3,h4,h5⟩:=h;obtain ⟨kl,hkl⟩:=a4s x hx;obtain ⟨v,ps,hrun,hv⟩:=h1.look_ok UY Tryz.underlying161 (z:=.int .i64 0) (by kernel_rfl) (plainElem_int (H:=Nat) Tryz.underlying3 (by decide)) hkl;rw [h5 x kl hkl] at hv;obtain ⟨a,rfl,hz,_⟩:=plainElem_int_inv Tryz.underlying3 hv;simp only [Prod.mk.injEq,DataW.lit.injEq,Lit.int.injEq,true_and] at hz;refine hrun.trans ?_
 rw [h4 x kl hkl,hz.1]
theorem MapAt.len {w:World} {b:Nat} {m:List (Bx×Int)} (h:MapAt w b m) (ty:TypeId):(Builtin.len_ #[161] ty #[.map (some b)]).run Tryz.prog w=.ok (.int .i64 m.length) w:=by
 obtain ⟨_,D,h1,h2,h3,h4,h5⟩:=h;rw [h1.len Tryz.underlying161 ty,h3]
theorem YW {w w':World} {b:Nat} (h:w.grownBy w' (some b)):Bf [b] w w':=(Bf.refl _ _).grown h fun k hk=>.inl (by simpa using hk.symm)
theorem ZI {x y:Bx} {kx ky:Lit} (hx:keyOf Tryz.prog 28 (kv x)=some kx) (hy:keyOf Tryz.prog 28 (kv y)=some ky) (h:y≠x):ky≠kx:=fun e=>h (a4r (a6I.inj (by rw [hy,e]) hx))
theorem MapAt.put {w:World} {b:Nat} {m:List (Bx×Int)} (h:MapAt w b m) {x:Bx} {v:Int} (hx:(x.BO∧x.id<4294967296)) (hv:(Lit.int .i64 v).wf=true) (hn:m.length<maxLen) :
 ∃w',(Instr.mapUpdate 161 (.map (some b)) (.agg #[.int .i64 x.x1,.int .i64 x.x2,.int .i64 x.y1,.int .i64 x.y2,.int .u32 (x.id:Int)]) (.int .i64 v)).run Tryz.prog w=.ok () w'∧MapAt w' b (UA m x v)∧Bf [b] w w':=by
 obtain ⟨h0,D,h1,h2,h3,h4,h5⟩:=h;obtain ⟨kl,hkl⟩:=a4s x hx;obtain ⟨w',hrun,ho,ht⟩:=h1.store UY Tryz.underlying161 hn hkl (plainElem_int (H:=Nat) Tryz.underlying3 hv)
 have hsz:Maps.size (D.put kl (.lit (.int .i64 v)))=(UA m x v).length:=by
  rw [Maps.size_put h2,h4 x kl hkl,h3,bG h0]
 refine ⟨w',hrun,⟨WI h0 x v,_,?_,h2.put (UY.key hkl) _,hsz,?_,?_⟩,YW ht.grown⟩
 ·obtain ⟨es,clock,hb,F,_,hD⟩:=ho;refine ⟨es,clock,hb,F,?_,hD⟩
  rw [←hsz,hD];simp [Maps.size,length_sorted]
 ·intro y ky hky;by_cases hy:y=x
  ·subst hy;rw [hkl] at hky
   cases hky
   rw [Maps.has_put_same h2.isMap (UY.key hkl),LW,if_pos rfl];rfl
  ·rw [Maps.has_put_other (ZI hkl hky hy),h4 y ky hky,LW,if_neg hy]
 ·intro y ky hky;by_cases hy:y=x
  ·subst hy;rw [hkl] at hky
   cases hky
   rw [Maps.atKey_put_same h2.isMap (UY.key hkl),LW,if_pos rfl];rfl
  ·rw [Maps.atKey_put_other (ZI hkl hky hy),h5 y ky hky,LW,if_neg hy]
theorem MapAt.del {w:World} {b:Nat} {m:List (Bx×Int)} (h:MapAt w b m) {x:Bx} (hx:(x.BO∧x.id<4294967296)) (ty:TypeId) :
 ∃w',(Builtin.delete_ #[161,28] ty #[.map (some b),.agg #[.int .i64 x.x1,.int .i64 x.x2,.int .i64 x.y1,.int .i64 x.y2,.int .u32 (x.id:Int)]]).run Tryz.prog w=.ok (.tuple #[]) w'∧MapAt w' b (JA m x)∧Bf [b] w w':=by
 obtain ⟨h0,D,h1,h2,h3,h4,h5⟩:=h;obtain ⟨kl,hkl⟩:=a4s x hx;obtain ⟨w',hrun,ho,ht⟩:=h1.drop UY Tryz.underlying161 hkl ty
 have hsz:Maps.size (D.del kl)=(JA m x).length:=by
  have e1:=Maps.size_del (k:=kl) h2;have e2:=LX h0 x;rw [h4 x kl hkl,h3] at e1;omega
 refine ⟨w',hrun,⟨RF h0 x,_,?_,h2.del _,hsz,?_,?_⟩,YW ht.grown⟩
 ·obtain ⟨es,clock,hb,F,_,hD⟩:=ho;refine ⟨es,clock,hb,F,?_,hD⟩
  rw [←hsz,hD];simp [Maps.size,length_sorted]
 ·intro y ky hky;by_cases hy:y=x
  ·subst hy;rw [hkl] at hky
   cases hky
   rw [Maps.has_del_same,JB,if_pos rfl];rfl
  ·rw [Maps.has_del_other (ZI hkl hky hy),h4 y ky hky,JB,if_neg hy]
 ·intro y ky hky;by_cases hy:y=x
  ·subst hy;rw [hkl] at hky
   cases hky
   rw [Maps.atKey_del_same,JB,if_pos rfl];rfl
  ·rw [Maps.atKey_del_other (ZI hkl hky hy),h5 y ky hky,JB,if_neg hy]
section
variable (w:World)
end
end Go.Proofs.YtkbaaonchdeneaaGreat.MBx
namespace Go.Proofs.YtkbaaonchdeneaaGreat
open Go.RowKit
theorem dP {w:World} {base:Nat} {A:Option Addr} {n C:Nat} {L:List Nat} (h:KU.row w base (.slice A n C) L) {k:Nat} {x:Nat} (hx:L[k]? = some x):∃g,A=some ⟨g,0,none⟩∧w.cell? ⟨g,k,none⟩=some (.int .u32 (x:Int))∧∀j,w.frozen? ⟨g,j,none⟩=false:=by
 obtain ⟨g,hg,-,ec,hf⟩:=rowAt h hx;have:=ec 0 _ rfl;exact ⟨g,hg,by simpa [KU] using this,hf⟩
theorem jD (L:List Nat) (k x:Nat):(KU.all L).set k (.int .u32 (x:Int))=KU.all (L.set k x):=by
 have e:∀l:List Nat,KU.all l=l.map fun (x:Nat)=>(.int .u32 (x:Int):Value):=fun l=>by
  induction l with
  |nil=>rfl
  |cons a l ih=>rw [List.map_cons,←ih];rfl
 rw [e,e,List.map_set]
theorem qN {w:World} {base g n C:Nat} {L:List Nat} (h:KU.row w base (.slice (some ⟨g,0,none⟩) n C) L) (hn:L.length=n) (k x:Nat):KU.row (w.setCell ⟨g,k,none⟩ (.int .u32 (x:Int))) base (.slice (some ⟨g,0,none⟩) n C) (L.set k x):=by
 unfold Kind.row at h ⊢;rw [hn] at h;rw [List.length_set,hn,←jD];exact (World.ownsRow.stored h k _).1
end Go.Proofs.YtkbaaonchdeneaaGreat
namespace Go.Proofs.YtkbaaonchdeneaaGreat.GN
open Go.RowKit
def jE (w:World) (l:List Nat) (P:Nat→Bool) (e:Ending) (w':World):Prop:=
 Bf [] w w'∧(((∀y∈l,P y=false)∧e=.returned (.int .i64 (-1)))∨∃(k:Nat) (x:Nat),l[k]? = some x∧P x=true∧(∀y∈l.take k,P y=false)∧e=.returned (.int .i64 (k:Int)))
theorem a0W (v:Value) (l:List Nat) (P:Nat→Bool) (c1 c2 c3:Value) (w:World) (hs:See KU w v l) (hb:l.length<1000000)
 (hg:∀w',Bf [] w w'→∀y∈l,Calls Tryz.prog 65 #[.int .u32 (y:Int),c1,c2,c3] w' fun e w''=>e=.returned (.bool (P y))∧Bf [] w' w'') :
 Calls Tryz.prog 118 #[v,.func (.func 65) #[] #[c1,c2,c3]] w (jE w l P):=by
 obtain ⟨A,C,rfl⟩:=hs.form;obtain ⟨N,hN⟩:=AO l.length;rw [hN] at hs hb ⊢;have H:=AQ hs;have HN:=AQ hN;have HG:=AQ hg;clear hs hN hg;go_enter Tryz.func118,Tryz.ntmps118
 go_wp2_with fail
 go_loopg [8] N (fun m s8 wr=>∃k:Nat,m+k=N∧s8=.int .i64 (k:Int)∧(∀y∈l.take k,P y=false)∧Bf [] w wr)
 case atStart=>exact ⟨0,rfl,rfl,by simp,Bf.refl _ _⟩
 case round=>
  obtain ⟨k,hk,rfl,hno,hup⟩:=hrel;have k0:(0:Int)≤(k:Int):=AU _;have hkN:k≤N:=by omega
  have HK:=Aj hk hno hup;by_cases hlt:k<N
  ·obtain ⟨x,hx⟩:∃x,l[k]? = some x:=⟨_,AX (by rw [HN.out];exact hlt)⟩;obtain ⟨g,o,hA,-,-,ex⟩:=KU.atS (H.out.Bh hup) hx;subst hA;have b1:(k:Int)<(N:Int):=by omega
   have hc:=HG.out wr hup x (List.mem_of_getElem? hx);have HS:=AQ hx;clear hx hk hno hup
   cases hp:P x
   ·rw [hp] at hc;have HC:=Ai hc hp;clear hc hp;go_wp2_with fail
    (with_reducible refine HC.out.1.mono ?_);rintro e w2 ⟨rfl,u2⟩;have HU:=AQ u2;clear u2 ex;go_wp2_with fail
    go_roundg (N - (k+1))
    case measure=>have:=HK.1;omega
    case rel=>
     refine ⟨k+1,Ac HK.1,by go_num,?_,HK.2.2.trans HU.out⟩
     obtain ⟨h1,h2⟩:=AV HS.out;rw [AZ h1,h2];intro y hy;rcases List.mem_append.1 hy with hc | hc
     ·exact HK.2.1 y hc
     ·simp at hc;rw [hc];exact HC.2
   ·rw [hp] at hc;have HC:=Ai hc hp;clear hc hp;go_wp2_with fail
    (with_reducible refine HC.out.1.mono ?_);rintro e w2 ⟨rfl,u2⟩;have HU:=AQ u2;clear u2;go_wp2_with fail
    go_ret
    exact ⟨HK.2.2.trans HU.out,.inr ⟨k,x,HS.out,HC.2,HK.2.1,rfl⟩⟩
  ·have hkn:k=N:=by omega
   rw [hkn,←HN.out,List.take_length] at hno;have tV:=AQ hno;clear hno hkn hk hup;go_wp2_with fail
   go_ret
   exact ⟨HK.2.2,.inl ⟨tV.out,rfl⟩⟩
def wM (w:World) (base:Nat) (v:Value) (l:List Nat) (P:Nat→Bool) (e:Ending) (w':World):Prop:=
 ∃vn,e=.returned vn∧KU.row w' base vn (l.filter fun y=>!P y)∧Bf (blk v) w w'
theorem wO:∀w,(zeroValue 26).run Tryz.prog w=.ok (.int .u32 0) w:=fun w=>(by kernel_rfl)
theorem filter_none {l:List Nat} {P:Nat→Bool} (h:∀y∈l,P y=false):(l.filter fun y=>!P y)=l:=by
 rw [List.filter_eq_self];intro y hy;rw [h y hy];rfl
theorem a6K (base:Nat) (v:Value) (l:List Nat) (P:Nat→Bool) (c1 c2 c3:Value) (w:World) (h:KU.row w base v l) (hb:l.length<1000000)
 (hg:∀w',Bf (blk v) w w'→∀y∈l,Calls Tryz.prog 65 #[.int .u32 (y:Int),c1,c2,c3] w' fun e w''=>e=.returned (.bool (P y))∧Bf [] w' w'') :
 Calls Tryz.prog 64 #[v,.func (.func 65) #[] #[c1,c2,c3]] w (wM w base v l P):=by
 obtain ⟨i1,hi1,hy0,hy1,hy2⟩:=info_parts Xf;have hix:=a0W v l P c1 c2 c3 w (See.BX h) hb (fun w' hu=>hg w' (hu.mono (by simp)));obtain ⟨Av,Cv,hv⟩:=Bv h;subst hv;obtain ⟨n,hn⟩:=AO l.length;rw [hn] at h hb hg hix ⊢;have H:=AQ h;have lW:=AQ hix;have HN:=AQ hn;have HG:=AQ hg;have n0:(0:Int)≤(n:Int):=AU _;have n1:(n:Int)<1000000:=by omega
 clear h hix hn hg;go_enter Tryz.func64,Tryz.ntmps64
 go_wp2_with fail
 (with_reducible refine lW.out.mono ?_);rintro e w1 ⟨u1,(⟨hc,rfl⟩ | ⟨k,x,hk,hpx,hno,rfl⟩)⟩
 ·have HU:=AQ u1;have HC:=AQ hc;clear u1 hc;go_wp2_with fail
  go_ret
  exact ⟨_,rfl,by rw [filter_none HC.out];exact Bg H.out HU.out (by simp),HU.out.mono (by simp)⟩
 have hkn:k<n:=by rw [←HN.out];exact (AV hk).1
 have hr0:=H.out;rcases hr0.2 with ⟨hz,hn0⟩ | ⟨g,C,cur,hcut,-⟩
 ·rw [HN.out] at hn0;omega
 injection hcut with hA1 hA2 hA3;subst hA1 hA3;clear hA2
 have hown:w.ownsRow base 26 1 (.slice (some ⟨g,0,none⟩) n Cv) n (KU.all l):=by
  have:=H.out;unfold Kind.row at this;rwa [HN.out] at this
 have Zz:=Qv hown;have k0:(0:Int)≤(k:Int):=AU _;have k1:(k:Int)<(n:Int):=by omega
 have hkq:((k:Int) == -1)=false:=by rw [beq_eq_false_iff_ne];omega
 have FY:=AQ u1
 have a6L:(l.take k)=(l.take (k+1)).filter fun y=>!P y:=by
  obtain ⟨h1,h2⟩:=AV hk;rw [AZ h1,h2,List.filter_append,filter_none hno,List.filter_cons,if_neg (by simp [hpx])];simp
 have HK:=Aj hkn Zz a6L;clear u1 hk hkn hpx hno hr0 hown Zz a6L;go_wp2_with fail
 clear hkq;go_loopg [5,6] n (fun m s5 s6 wr=>∃(i j:Nat) (c:List Nat),(m+j=n+(k+1)∧j≤n)∧i<j∧s5=.int .i64 (i:Int)∧s6=.int .i64 (j:Int)∧KU.row wr base (.slice (some ⟨g,0,none⟩) n Cv) c∧c.length=n∧c.take i=((l.take j).filter fun y=>!P y)∧(∀p,j≤p→c[p]? = l[p]?)∧Bf [g] w wr)
 case atStart=>
  exact ⟨k,k+1,l,by have:=HK.1;exact ⟨rfl,by omega⟩,Nat.lt_succ_self k,rfl,by go_num,Bg H.out FY.out (by simp),HN.out,HK.2.2,fun p _=>rfl,FY.out.mono (by simp)⟩
 case round=>
  obtain ⟨i,j,c,hj,hij,rfl,rfl,hrow,hcl,htk,hcp,hup⟩:=hrel;have i0:(0:Int)≤(i:Int):=AU _;have j0:(0:Int)≤(j:Int):=AU _;have hjn:(j:Int)≤(n:Int):=by omega
  have hin:(i:Int)<(n:Int):=by omega
  by_cases hlt:j<n
  ·obtain ⟨s,hs⟩:∃s,l[j]? = some s:=⟨_,AX (by rw [HN.out];exact hlt)⟩;have hcs:c[j]? = some s:=by rw [hcp j (Nat.le_refl _)];exact hs
   obtain ⟨g',hA,ey,hfz⟩:=dP hrow hcs;injection hA with hA;injection hA with hA1 hA2 hA3;subst hA1;have b1:(j:Int)<(n:Int):=by omega
   have hlj:l.take (j+1)=l.take j++[s]:=by
    obtain ⟨h1,h2⟩:=AV hs;rw [AZ h1,h2]
   have hc:=HG.out wr (by simpa [blk] using hup) s (List.mem_of_getElem? hs);have HJ:=AB hj hij hrow hcl htk hcp hup hlj hs;obtain ⟨wl,hwl⟩:∃wl:World,wl=wr:=⟨_,rfl⟩;subst hwl;clear hs hcs hj hij hrow hcl htk hcp hup hlj
   cases hp:P s
   ·rw [hp] at hc;have HC:=Ai hc hp;clear hc hp;go_wp2_with fail
    (with_reducible refine HC.out.1.mono ?_);rintro e w3 ⟨rfl,u3⟩;clear ey hfz;obtain ⟨h1,h2,h3,h4,h5,h6,h7,h8,h9⟩:=HJ.out;have hr3:=Bg h3 u3 (by simp);obtain ⟨si,hsi⟩:∃z,c[i]? = some z:=⟨_,AX (by omega)⟩;obtain ⟨g',hA,ei,hfi⟩:=dP hr3 hsi;injection hA with hA;injection hA with hA1 hA2 hA3;subst hA1;have b2e:=hfi i;have hput:=qN hr3 h4 i s;have Nq:Bf [g] w (w3.setCell ⟨g,i,none⟩ (.int .u32 (s:Int))):=(h7.trans (u3.mono (by simp))).setCell (.inl (by simp)) _;have RU:=Ai hput Nq;clear u3 hr3 hput Nq h1 h2 h3 h4 h5 h6 h7 h8 h9 hsi;go_wp2_with fail
    go_roundg (n+(k+1) - (j+1))
    case measure=>have:=HJ.1;omega
    case rel=>
     obtain ⟨h1,h2,h3,h4,h5,h6,h7,h8,h9⟩:=HJ.out;refine ⟨i+1,j+1,c.set i s,by omega,by omega,by go_num,by go_num,RU.1,by rw [List.length_set];exact h4,?_,fun p hp=>?_,RU.2⟩
     ·rw [h8,List.filter_append,List.filter_cons,if_pos (by rw [HC.2];rfl),List.filter_nil,←h5];have h10:i<(c.set i s).length:=by rw [List.length_set,h4];omega
      rw [AZ h10,List.getElem_set_self,List.take_set_of_le (Nat.le_refl _)]
     ·rw [List.getElem?_set_ne (by omega)];exact h6 p (by omega)
   ·rw [hp] at hc;have HC:=Ai hc hp;clear hc hp;go_wp2_with fail
    (with_reducible refine HC.out.1.mono ?_);rintro e w3 ⟨rfl,u3⟩;have Gj:=AQ u3;clear u3 ey hfz;go_wp2_with fail
    go_roundg (n+(k+1) - (j+1))
    case measure=>have:=HJ.1;omega
    case rel=>
     obtain ⟨h1,h2,h3,h4,h5,h6,h7,h8,h9⟩:=HJ.out;refine ⟨i,j+1,c,by omega,by omega,rfl,by go_num,Bg h3 Gj.out (by simp),h4,?_,fun p hp=>h6 p (by omega),h7.trans (Gj.out.mono (by simp))⟩
     rw [h8,List.filter_append,List.filter_cons,if_neg (by rw [HC.2];simp),List.filter_nil,List.append_nil];exact h5
  ·have Xk:j=n:=by omega
   have hcut:c.take i=l.filter fun y=>!P y:=by
    rw [htk,List.take_of_length_le];rw [HN.out];omega
   have hrow':wr.ownsRow base 26 1 (.slice (some ⟨g,0,none⟩) n Cv) n (KU.all c):=by
    have:=hrow;unfold Kind.row at this;rwa [hcl] at this
   have hin2:i<n:=by omega
   have Zz:=HK.2.1;have ct:=fun w'=>dh (P:=Tryz.prog) (t:=35) Tryz.underlying35 hi1 hy1 g n Cv i hin2 Zz w'
   rw [Nat.mul_one] at ct;have chd:=fun w'=>WO (P:=Tryz.prog) (t:=35) Tryz.underlying35 hi1 g n Cv i (by omega) w'
   obtain ⟨r,hr⟩:=AO (n - i);rw [hr] at ct
   have pX:∀ty,(Builtin.clear_ #[35] ty #[.slice (some ⟨g,i,none⟩) r (Cv - i)]).run Tryz.prog wr=.ok (.tuple #[]) (wr.setCells g i (Builtin.zeroCells (Value.int .u32 0).cells r).toList):=fun ty=>
    MQ (size:=1) wr _ 26 ty _ Tryz.underlying35 wO rfl (by simp [Value.oneCell',Value.cells]) (by decide) g _ r _ (by omega)
     (fun p hp=>(IW hrow' (i+p) (by omega)).1) (fun p hp=>(IW hrow' (i+p) (by omega)).2)
   obtain ⟨LL,Vs⟩:=AO ((Builtin.zeroCells (Value.int .u32 0).cells r).toList);rw [Vs] at pX;have hown2:=Ii LL wr i (WM hrow' i (by omega)) (by omega);have hci:(c.take i).length=i:=by rw [Ba,hcl];omega
   have dn:KU.row (wr.setCells g i LL) base (.slice (some ⟨g,0,none⟩) i Cv) (l.filter fun y=>!P y):=by
    rw [←hcut];unfold Kind.row;rw [hci,Kind.KF];exact hown2
   have HE:=Ai dn (hup.trans (Pz (g:=g) LL wr i));clear Vs hrow hrow' hown2 hci dn hcut htk hcp hcl hup hj hij Xk Zz hin2 hr;go_wp2_with fail
   go_ret
   exact ⟨_,rfl,HE.1,by simpa [blk] using HE.2⟩
end Go.Proofs.YtkbaaonchdeneaaGreat.GN
namespace Go.Proofs.YtkbaaonchdeneaaGreat
open Go.RowKit
theorem a0X (va vb:Value) (la lb:List Nat) (w:World) (ha:See KU w va la) (hb:See KU w vb lb) (hl:la.length<1000000000000) (hl2:lb.length<1000000000000) :
 Calls Tryz.prog 49 #[va,vb] w fun e w'=>e=.returned (.bool (decide (la=lb)))∧Bf [] w w':=by
 obtain ⟨A,C,rfl⟩:=ha.form;obtain ⟨B,D,rfl⟩:=hb.form;obtain ⟨r,hr⟩:∃r,decide (la=lb)=r:=⟨_,rfl⟩;obtain ⟨n,hn⟩:=AO la.length;obtain ⟨m,hm⟩:=AO lb.length;rw [hn] at ha hl;rw [hm] at hb hl2;rw [hr,hn,hm];have HA:=Ai ha hb;have HN:=Aj hn hm hr;have n0:(0:Int)≤(n:Int):=AU _;have m0:(0:Int)≤(m:Int):=AU _;have n1:(n:Int)<1000000000000:=by omega
 clear ha hb hr hn hm;by_cases hnm:n=m
 ·subst hnm;have hne:((n:Int) != (n:Int))=false:=by simp
  go_enter Tryz.func49,Tryz.ntmps49
  go_wp2_with fail
  go_loopg [13] n (fun m s13 wr=>∃k:Nat,m+k=n∧s13=.int .i64 (k:Int)∧la.take k=lb.take k∧Bf [] w wr)
  case atStart=>exact ⟨0,rfl,rfl,by simp,Bf.refl _ _⟩
  case round=>
   obtain ⟨k,hk,rfl,htk,hup⟩:=hrel;have k0:(0:Int)≤(k:Int):=AU _;have hkn:k≤n:=by omega
   have HK:=Aj hk htk hup;clear hk htk hup;by_cases hlt:k<n
   ·obtain ⟨x,hx⟩:∃x,la[k]? = some x:=⟨_,AX (by rw [HN.1];exact hlt)⟩;obtain ⟨y,hy⟩:∃y,lb[k]? = some y:=⟨_,AX (by rw [HN.2.1];exact hlt)⟩;obtain ⟨g1,o1,hA,-,-,hc1⟩:=KU.atS (HA.1.Bh HK.2.2) hx;obtain ⟨g2,o2,hB,-,-,hc2⟩:=KU.atS (HA.2.Bh HK.2.2) hy;subst hA hB;have HX:=Ai hx hy;have b1:(k:Int)<(n:Int):=by omega
    clear hx hy;by_cases hxy:x=y
    ·have hq:((x:Int) != (y:Int))=false:=by simp [hxy]
     have HXY:=AQ hxy;clear hxy;go_wp2_with fail
     go_quiet (fail)
     go_wp2_with fail
     go_roundg (n - (k+1))
     case measure=>have:=HK.1;omega
     case rel=>
      refine ⟨k+1,Ac HK.1,by go_num,?_,HK.2.2.drewN _⟩
      obtain ⟨h1,h2⟩:=AV HX.1;obtain ⟨h3,h4⟩:=AV HX.2;rw [AZ h1,AZ h3,HK.2.1,h2,h4,HXY.out]
    ·have hq:((x:Int) != (y:Int))=true:=by simp;omega
     have hd:r=false:=by
      rw [←HN.2.2,decide_eq_false_iff_not];intro e;have h1:=HX.1;rw [e,HX.2] at h1;injection h1 with h1;exact hxy h1.symm
     have HD:=AQ hd;clear hxy hd;go_wp2_with fail
     go_quiet (fail)
     go_wp2_with fail
     go_ret
     exact ⟨by rw [HD.out];rfl,HK.2.2.drewN _⟩
   ·have hkn2:k=n:=by omega
    have hd:r=true:=by
     rw [←HN.2.2,decide_eq_true_iff];have h1:=HK.2.1;rw [hkn2,List.take_of_length_le (by rw [HN.1];exact Nat.le_refl _),List.take_of_length_le (by rw [HN.2.1];exact Nat.le_refl _)] at h1;exact h1
    have HD:=AQ hd;clear hd hkn2;go_wp2_with fail
    go_ret
    exact ⟨by rw [HD.out];rfl,HK.2.2⟩
 ·have hne:((n:Int) != (m:Int))=true:=by simp;omega
  have hd:r=false:=by
   rw [←HN.2.2,decide_eq_false_iff_not];intro e;exact hnm (by rw [←HN.1,←HN.2.1,e])
  have HD:=AQ hd;clear hnm hd;go_enter Tryz.func49,Tryz.ntmps49
  go_wp2_with fail
  go_ret
  exact ⟨by rw [HD.out];rfl,Bf.refl _ _⟩
