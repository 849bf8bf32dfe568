/- Maps from boxes to numbers: what a block of such a map has, as a list of pairs. Printed by -/
import Derived.WideKeyEntry
import Derived.ProofKit
import Derived.Test.YtkbaaonchdeneaaGreatPc13
import Derived.Test.YtkbaaonchdeneaaGreatPc19
set_option maxHeartbeats 8000000
set_option maxRecDepth 100000
namespace Go.Proofs.YtkbaaonchdeneaaGreat
namespace MBx
open Go.RowKit
open Go.Maps (Keyed Tidy IsMap)
def kv (x:Bx):Value:=.agg #[x.x1,x.x2,x.y1,x.y2,.int .u32 (x.id:Int)]
theorem a2h {x y:Bx} (h:kv x=kv y):x=y:=by
 cases x;cases y
 simp [kv] at h;simp only [Bx.mk.injEq];omega
theorem a4u:(match Tryz.prog.underlying 28 with | some (.array _ _) | some (.struct _)=>true | _=>false)=true:=by rw [Tryz.underlying28]
theorem a4v:laidOutB Tryz.prog=true:=by kernel_rfl
theorem a4w:(28:TypeId)<Tryz.prog.types.size:=of_decide_eq_true (by kernel_rfl)
theorem a4x:WideMaps.KeyLaw Tryz.prog 28:=deep_law_laid a4v (m:=2) (by omega) a4w (by kernel_rfl) a4u
theorem Qk:Keyed Tryz.prog 28:=Keyed.of_law a4x
theorem a4y:(28:Nat)<Tryz.prog.types.size:=a4w
theorem rM:Tryz.prog.cellsOf 28=5:=by kernel_rfl
theorem zq:Tryz.prog.cellsOf 2=1:=by kernel_rfl
theorem zu:Tryz.prog.cellsOf 26=1:=by kernel_rfl
theorem kType:Tryz.prog.keyType 28=true:=by kernel_rfl
theorem a2i (x:Bx) (hx:(x.CS/\x.id<4294967296)):∃kl,keyOf Tryz.prog 28 (kv x)=some kl:=by
 obtain ⟨⟨⟨a0,a1⟩,⟨b0,b1⟩,⟨d0,d1⟩,⟨e0,e1⟩⟩,c1⟩:=hx;have w0:(Lit.int .i64 x.x1).wf=true:=by simp [Lit.wf,IntKind.min,IntKind.max,IntKind.signed,IntKind.bits];omega
 have w1:(Lit.int .i64 x.x2).wf=true:=by simp [Lit.wf,IntKind.min,IntKind.max,IntKind.signed,IntKind.bits];omega
 have w2:(Lit.int .i64 x.y1).wf=true:=by simp [Lit.wf,IntKind.min,IntKind.max,IntKind.signed,IntKind.bits];omega
 have w3:(Lit.int .i64 x.y2).wf=true:=by simp [Lit.wf,IntKind.min,IntKind.max,IntKind.signed,IntKind.bits];omega
 have w4:(Lit.int .u32 (x.id:Int)).wf=true:=by simp [Lit.wf,IntKind.min,IntKind.max,IntKind.signed,IntKind.bits];omega
 obtain ⟨d,hd⟩:∃d,Tryz.prog.types.size+1=d+1+1:=⟨Tryz.prog.types.size - 1,Ac a4y⟩
 have hl:∃L,Tryz.prog.keyLits (Tryz.prog.types.size+1) 28 [.int .i64 x.x1,.int .i64 x.x2,.int .i64 x.y1,.int .i64 x.y2,.int .u32 (x.id:Int)]=some L:=by
  rw [hd];refine ⟨[.int .i64 x.x1,.int .i64 x.x2,.int .i64 x.y1,.int .i64 x.y2,.int .u32 (x.id:Int)],?_⟩
  unfold Program.keyLits;rw [Tryz.underlying28];simp only [rM,List.length_cons,List.length_nil];simp [Program.keyLits,Tryz.underlying2,Tryz.underlying26,zq,zu,w0,w1,w2,w3,w4]
 obtain ⟨L,hL⟩:=hl;refine ⟨.string (keyBytes L),?_⟩
 unfold keyOf;rw [Tryz.underlying28];simp only [kType,Bool.true_and];have hfm:(kv x).formed Tryz.prog 28=true:=by simp [kv,Value.formed,Tryz.underlying28,rM]
 rw [if_pos hfm];have hcs:(kv x).cells.toList = [.int .i64 x.x1,.int .i64 x.x2,.int .i64 x.y1,.int .i64 x.y2,.int .u32 (x.id:Int)]:=rfl;rw [hcs,hL];rfl
def MapAt (w:World) (b:Nat) (m:List (Bx×Int)):Prop:=
 (m.map (·.1)).Nodup/\∃D:DataW Nat,w.ownsMap Tryz.prog 28 (plainElem Tryz.prog 3) b m.length D/\Tidy D/\Maps.size D=m.length/\
  (∀x kl,keyOf Tryz.prog 28 (kv x)=some kl->Maps.has D kl=(m.lookup x).isSome)/\∀x kl,keyOf Tryz.prog 28 (kv x)=some kl->D.atKey kl (.lit (.int .i64 0))=.lit (.int .i64 ((m.lookup x).getD 0))
theorem MapAt.lt {w:World} {b:Nat} {m:List (Bx×Int)} (h:MapAt w b m):b<w.heap.size:=by
 obtain ⟨_,D,h1,_⟩:=h;exact h1.lt
theorem MapAt.upd {F:List Nat} {w w':World} {b:Nat} {m:List (Bx×Int)} (h:MapAt w b m) (hu:Bj F w w') (hb:b∉F):MapAt w' b m:=by
 obtain ⟨h0,D,h1,h2⟩:=h;have hlt:=h1.lt;obtain ⟨es,clock,hb',hr⟩:=h1;exact ⟨h0,D,⟨es,clock,(hu.block b hlt hb).trans hb',hr⟩,h2⟩
theorem MapAt.made (w:World):MapAt (w.alloc (.map #[] 0)) w.heap.size []:=
 ⟨List.nodup_nil,.map [],World.ownsMap_made _ _ _ _,Maps.tidy_empty,rfl,λx kl _=>by simp [Maps.has],λx kl _=>by simp [DataW.atKey]⟩
theorem MapAt.drew {w:World} {b:Nat} {m:List (Bx×Int)} (h:MapAt w b m):MapAt w.drew b m:=h
theorem MapAt.look {w:World} {b:Nat} {m:List (Bx×Int)} (h:MapAt w b m) {x:Bx} (hx:(x.CS/\x.id<4294967296)) :
 (Instr.lookup 161 (.map (some b)) (.agg #[x.x1,x.x2,x.y1,x.y2,.int .u32 (x.id:Int)]) true).run Tryz.prog w=.ok (.tuple #[.int .i64 ((m.lookup x).getD 0),.bool (m.lookup x).isSome]) w:=by
 obtain ⟨_,D,h1,h2,h3,h4,h5⟩:=h;obtain ⟨kl,hkl⟩:=a2i x hx;obtain ⟨v,ps,hrun,hv⟩:=h1.look_ok Qk Tryz.underlying161 (z:=.int .i64 0) (by kernel_rfl) (plainElem_int (H:=Nat) Tryz.underlying3 (by decide)) hkl;rw [h5 x kl hkl] at hv;obtain ⟨a,rfl,hz,_⟩:=plainElem_int_inv Tryz.underlying3 hv;simp only [Prod.mk.injEq,DataW.lit.injEq,Lit.int.injEq,true_and] at hz;refine hrun.trans ?_
 rw [h4 x kl hkl,hz.1]
theorem MapAt.len {w:World} {b:Nat} {m:List (Bx×Int)} (h:MapAt w b m) (ty:TypeId):(Builtin.len_ #[161] ty #[.map (some b)]).run Tryz.prog w=.ok (.int .i64 m.length) w:=by
 obtain ⟨_,D,h1,h2,h3,h4,h5⟩:=h;rw [h1.len Tryz.underlying161 ty,h3]
theorem VQ {w w':World} {b:Nat} (h:w.grownBy w' (some b)):Bj [b] w w':=(Bj.refl _ _).grown h λk hk=>.inl (by simpa using hk.symm)
theorem Xo {x y:Bx} {kx ky:Lit} (hx:keyOf Tryz.prog 28 (kv x)=some kx) (hy:keyOf Tryz.prog 28 (kv y)=some ky) (h:y≠x):ky≠kx:=λe=>h (a2h (a4x.inj (by rw [hy,e]) hx))
theorem MapAt.put {w:World} {b:Nat} {m:List (Bx×Int)} (h:MapAt w b m) {x:Bx} {v:Int} (hx:(x.CS/\x.id<4294967296)) (hv:(Lit.int .i64 v).wf=true) (hn:m.length<maxLen) :
 ∃w',(Instr.mapUpdate 161 (.map (some b)) (.agg #[x.x1,x.x2,x.y1,x.y2,.int .u32 (x.id:Int)]) (.int .i64 v)).run Tryz.prog w=.ok () w'/\MapAt w' b (PZ m x v)/\Bj [b] w w':=by
 obtain ⟨h0,D,h1,h2,h3,h4,h5⟩:=h;obtain ⟨kl,hkl⟩:=a2i x hx;obtain ⟨w',hrun,ho,ht⟩:=h1.store Qk Tryz.underlying161 hn hkl (plainElem_int (H:=Nat) Tryz.underlying3 hv)
 have hsz:Maps.size (D.put kl (.lit (.int .i64 v)))=(PZ m x v).length:=by
  rw [Maps.size_put h2,h4 x kl hkl,h3,X9 h0]
 refine ⟨w',hrun,⟨SV h0 x v,_,?_,h2.put (Qk.key hkl) _,hsz,?_,?_⟩,VQ ht.grown⟩
 ·obtain ⟨es,clock,hb,F,_,hD⟩:=ho;refine ⟨es,clock,hb,F,?_,hD⟩
  rw [<-hsz,hD];simp [Maps.size,length_sorted]
 ·intro y ky hky;by_cases hy:y=x
  ·subst hy;rw [hkl] at hky
   cases hky
   rw [Maps.has_put_same h2.isMap (Qk.key hkl),I4,if_pos rfl];rfl
  ·rw [Maps.has_put_other (Xo hkl hky hy),h4 y ky hky,I4,if_neg hy]
 ·intro y ky hky;by_cases hy:y=x
  ·subst hy;rw [hkl] at hky
   cases hky
   rw [Maps.atKey_put_same h2.isMap (Qk.key hkl),I4,if_pos rfl];rfl
  ·rw [Maps.atKey_put_other (Xo hkl hky hy),h5 y ky hky,I4,if_neg hy]
theorem MapAt.del {w:World} {b:Nat} {m:List (Bx×Int)} (h:MapAt w b m) {x:Bx} (hx:(x.CS/\x.id<4294967296)) (ty:TypeId) :
 ∃w',(Builtin.delete_ #[161,28] ty #[.map (some b),.agg #[x.x1,x.x2,x.y1,x.y2,.int .u32 (x.id:Int)]]).run Tryz.prog w=.ok (.tuple #[]) w'/\MapAt w' b (Il m x)/\Bj [b] w w':=by
 obtain ⟨h0,D,h1,h2,h3,h4,h5⟩:=h;obtain ⟨kl,hkl⟩:=a2i x hx;obtain ⟨w',hrun,ho,ht⟩:=h1.drop Qk Tryz.underlying161 hkl ty
 have hsz:Maps.size (D.del kl)=(Il m x).length:=by
  have e1:=Maps.size_del (k:=kl) h2;have e2:=I5 h0 x;rw [h4 x kl hkl,h3] at e1;omega
 refine ⟨w',hrun,⟨NQ h0 x,_,?_,h2.del _,hsz,?_,?_⟩,VQ ht.grown⟩
 ·obtain ⟨es,clock,hb,F,_,hD⟩:=ho;refine ⟨es,clock,hb,F,?_,hD⟩
  rw [<-hsz,hD];simp [Maps.size,length_sorted]
 ·intro y ky hky;by_cases hy:y=x
  ·subst hy;rw [hkl] at hky
   cases hky
   rw [Maps.has_del_same,He,if_pos rfl];rfl
  ·rw [Maps.has_del_other (Xo hkl hky hy),h4 y ky hky,He,if_neg hy]
 ·intro y ky hky;by_cases hy:y=x
  ·subst hy;rw [hkl] at hky
   cases hky
   rw [Maps.atKey_del_same,He,if_pos rfl];rfl
  ·rw [Maps.atKey_del_other (Xo hkl hky hy),h5 y ky hky,He,if_neg hy]
section
variable (w:World)
end
end MBx
section
open Go.RowKit
theorem YE {w:World} {base:Nat} {A:Option Addr} {n C:Nat} {L:List Nat} (h:KU.row w base (.slice A n C) L) {k:Nat} {x:Nat} (hx:L[k]? = some x):∃g,A=some ⟨g,0,none⟩/\w.cell? ⟨g,k,none⟩=some (.int .u32 (x:Int))/\∀j,w.frozen? ⟨g,j,none⟩=false:=by
 obtain ⟨g,hg,-,ec,hf⟩:=rowAt h hx;have:=ec 0 _ rfl;exact ⟨g,hg,by simpa [KU] using this,hf⟩
theorem aQ (L:List Nat) (k x:Nat):(KU.all L).set k (.int .u32 (x:Int))=KU.all (L.set k x):=by
 have e:∀l:List Nat,KU.all l=l.map λ(x:Nat)=>(.int .u32 (x:Int):Value):=λl=>by
  induction l with
  |nil=>rfl
  |cons a l ih=>rw [List.map_cons,<-ih];rfl
 rw [e,e,List.map_set]
theorem kQ {w:World} {base g n C:Nat} {L:List Nat} (h:KU.row w base (.slice (some ⟨g,0,none⟩) n C) L) (hn:L.length=n) (k x:Nat):KU.row (w.setCell ⟨g,k,none⟩ (.int .u32 (x:Int))) base (.slice (some ⟨g,0,none⟩) n C) (L.set k x):=by
 unfold Kind.row at h |-;rw [hn] at h;rw [List.length_set,hn,<-aQ];exact (World.ownsRow.stored h k _).1
end
namespace LQ
open Go.RowKit
def aS (w:World) (l:List Nat) (P:Nat->Bool) (e:Ending) (w':World):Prop:=
 Bj [] w w'/\(((∀y∈l,P y=false)/\e=.returned (.int .i64 (-1)))\/∃(k:Nat) (x:Nat),l[k]? = some x/\P x=true/\(∀y∈l.take k,P y=false)/\e=.returned (k:Int))
theorem zx (v:Value) (l:List Nat) (P:Nat->Bool) (c1 c2 c3:Value) (w:World) (hs:See KU w v l) (hb:l.length<1000000)
 (hg:∀w',Bj [] w w'->∀y∈l,Calls Tryz.prog 65 #[.int .u32 (y:Int),c1,c2,c3] w' λe w''=>e=.returned (.bool (P y))/\Bj [] w' w'') :
 Calls Tryz.prog 118 #[v,.func (.func 65) #[] #[c1,c2,c3]] w (aS w l P):=by
 obtain ⟨A,C,rfl⟩:=hs.form;obtain ⟨N,hN⟩:=AU l.length;rw [hN] at hs hb |-;have H:=AX hs;have HN:=AX hN;have HG:=AX hg;clear hs hN hg;go_enter Tryz.func118,Tryz.ntmps118
 go_wp2_with fail
 go_loopg [8] N (λm s8 wr=>∃k:Nat,m+k=N/\s8=.int .i64 (k:Int)/\(∀y∈l.take k,P y=false)/\Bj [] w wr)
 case atStart=>exact ⟨0,rfl,rfl,by simp,Bj.refl _ _⟩
 case round=>
  obtain ⟨k,hk,rfl,hno,hup⟩:=hrel;have k0:(0:Int)<=(k:Int):=AY _;have hkN:k<=N:=by omega
  have HK:=Aq hk hno hup;by_cases hlt:k<N
  ·obtain ⟨x,hx⟩:∃x,l[k]? = some x:=⟨_,Ba (by rw [HN.out];exact hlt)⟩;obtain ⟨g,o,hA,-,-,ex⟩:=KU.atS (H.out.BF hup) hx;subst hA;have b1:(k:Int)<(N:Int):=by omega
   have hc:=HG.out wr hup x (List.mem_of_getElem? hx);have HS:=AX hx;clear hx hk hno hup
   cases hp:P x
   ·rw [hp] at hc;have HC:=Ap hc hp;clear hc hp;go_wp2_with fail
    go_fit HC.1
    rintro e w2 ⟨rfl,u2⟩;have HU:=AX u2;clear u2 ex;go_wp2_with fail
    go_roundg (N - (k+1))
    case measure=>have:=HK.1;omega
    case rel=>
     refine ⟨k+1,Ac HK.1,by go_num,?_,HK.2.2.trans HU.out⟩
     obtain ⟨h1,h2⟩:=AZ HS.out;rw [Bd h1,h2];intro y hy;rcases List.mem_append.1 hy with hc | hc
     ·exact HK.2.1 y hc
     ·simp at hc;rw [hc];exact HC.2
   ·rw [hp] at hc;have HC:=Ap hc hp;clear hc hp;go_wp2_with fail
    go_fit HC.1
    rintro e w2 ⟨rfl,u2⟩;have HU:=AX u2;clear u2;go_wp2_with fail
    go_ret
    exact ⟨HK.2.2.trans HU.out,.inr ⟨k,x,HS.out,HC.2,HK.2.1,rfl⟩⟩
  ·have hkn:k=N:=by omega
   rw [hkn,<-HN.out,List.take_length] at hno;have nX:=AX hno;clear hno hkn hk hup;go_wp2_with fail
   go_ret
   exact ⟨HK.2.2,.inl ⟨nX.out,rfl⟩⟩
def rO (w:World) (base:Nat) (v:Value) (l:List Nat) (P:Nat->Bool) (e:Ending) (w':World):Prop:=
 ∃vn,e=.returned vn/\KU.row w' base vn (l.filter λy=>!P y)/\Bj (blk v) w w'
theorem rP:∀w,(zeroValue 26).run Tryz.prog w=.ok (.int .u32 0) w:=λw=>(by kernel_rfl)
theorem filter_none {l:List Nat} {P:Nat->Bool} (h:∀y∈l,P y=false):(l.filter λy=>!P y)=l:=by
 rw [List.filter_eq_self];intro y hy;rw [h y hy];rfl
theorem a4z (base:Nat) (v:Value) (l:List Nat) (P:Nat->Bool) (c1 c2 c3:Value) (w:World) (h:KU.row w base v l) (hb:l.length<1000000)
 (hg:∀w',Bj (blk v) w w'->∀y∈l,Calls Tryz.prog 65 #[.int .u32 (y:Int),c1,c2,c3] w' λe w''=>e=.returned (.bool (P y))/\Bj [] w' w'') :
 Calls Tryz.prog 64 #[v,.func (.func 65) #[] #[c1,c2,c3]] w (rO w base v l P):=by
 obtain ⟨i1,hi1,hy0,hy1,hy2⟩:=info_parts TN;have hix:=zx v l P c1 c2 c3 w (See.BU h) hb (λw' hu=>hg w' (hu.mono (by simp)));obtain ⟨Av,Cv,hv⟩:=BD h;subst hv;obtain ⟨n,hn⟩:=AU l.length;rw [hn] at h hb hg hix |-;have H:=AX h;have fE:=AX hix;have HN:=AX hn;have HG:=AX hg;have n0:(0:Int)<=(n:Int):=AY _;have n1:(n:Int)<1000000:=by omega
 clear h hix hn hg;go_enter Tryz.func64,Tryz.ntmps64
 go_wp2_with fail
 go_fit fE.out
 rintro e w1 ⟨u1,(⟨hc,rfl⟩ | ⟨k,x,hk,hpx,hno,rfl⟩)⟩
 ·have HU:=AX u1;have HC:=AX hc;clear u1 hc;go_wp2_with fail
  go_ret
  exact ⟨_,rfl,by rw [filter_none HC.out];exact Bl H.out HU.out (by simp),HU.out.mono (by simp)⟩
 have hkn:k<n:=by rw [<-HN.out];exact (AZ hk).1
 have hr0:=H.out;rcases hr0.2 with ⟨hz,hn0⟩ | ⟨g,C,cur,hcut,-⟩
 ·rw [HN.out] at hn0;omega
 injection hcut with hA1 hA2 hA3;subst hA1 hA3;clear hA2
 have hown:w.ownsRow base 26 1 (.slice (some ⟨g,0,none⟩) n Cv) n (KU.all l):=by
  have:=H.out;unfold Kind.row at this;rwa [HN.out] at this
 have Xg:=MS hown;have k0:(0:Int)<=(k:Int):=AY _;have k1:(k:Int)<(n:Int):=by omega
 have hkq:((k:Int) == -1)=false:=by rw [beq_eq_false_iff_ne];omega
 have DJ:=AX u1
 have a4A:(l.take k)=(l.take (k+1)).filter λy=>!P y:=by
  obtain ⟨h1,h2⟩:=AZ hk;rw [Bd h1,h2,List.filter_append,filter_none hno,List.filter_cons,if_neg (by simp [hpx])];simp
 have HK:=Aq hkn Xg a4A;clear u1 hk hkn hpx hno hr0 hown Xg a4A;go_wp2_with fail
 clear hkq;go_loopg [5,6] n (λm s5 s6 wr=>∃(i j:Nat) (c:List Nat),(m+j=n+(k+1)/\j<=n)/\i<j/\s5=.int .i64 (i:Int)/\s6=.int .i64 (j:Int)/\KU.row wr base (.slice (some ⟨g,0,none⟩) n Cv) c/\c.length=n/\c.take i=((l.take j).filter λy=>!P y)/\(∀p,j<=p->c[p]? = l[p]?)/\Bj [g] w wr)
 case atStart=>
  exact ⟨k,k+1,l,by have:=HK.1;exact ⟨rfl,by omega⟩,Nat.lt_succ_self k,rfl,by go_num,Bl H.out DJ.out (by simp),HN.out,HK.2.2,λp _=>rfl,DJ.out.mono (by simp)⟩
 case round=>
  obtain ⟨i,j,c,hj,hij,rfl,rfl,hrow,hcl,htk,hcp,hup⟩:=hrel;have i0:(0:Int)<=(i:Int):=AY _;have j0:(0:Int)<=(j:Int):=AY _;have hjn:(j:Int)<=(n:Int):=by omega
  have hin:(i:Int)<(n:Int):=by omega
  by_cases hlt:j<n
  ·obtain ⟨s,hs⟩:∃s,l[j]? = some s:=⟨_,Ba (by rw [HN.out];exact hlt)⟩;have hcs:c[j]? = some s:=by rw [hcp j (Nat.le_refl _)];exact hs
   obtain ⟨g',hA,ey,hfz⟩:=YE hrow hcs;injection hA with hA;injection hA with hA1 hA2 hA3;subst hA1;have b1:(j:Int)<(n:Int):=by omega
   have hlj:l.take (j+1)=l.take j++[s]:=by
    obtain ⟨h1,h2⟩:=AZ hs;rw [Bd h1,h2]
   have hc:=HG.out wr (by simpa [blk] using hup) s (List.mem_of_getElem? hs);have HJ:=AO hj hij hrow hcl htk hcp hup hlj hs;obtain ⟨wl,hwl⟩:∃wl:World,wl=wr:=⟨_,rfl⟩;subst hwl;clear hs hcs hj hij hrow hcl htk hcp hup hlj
   cases hp:P s
   ·rw [hp] at hc;have HC:=Ap hc hp;clear hc hp;go_wp2_with fail
    go_fit HC.1
    rintro e w3 ⟨rfl,u3⟩;clear ey hfz;obtain ⟨h1,h2,h3,h4,h5,h6,h7,h8,h9⟩:=HJ.out;have hr3:=Bl h3 u3 (by simp);obtain ⟨si,hsi⟩:∃z,c[i]? = some z:=⟨_,Ba (by omega)⟩;obtain ⟨g',hA,ei,hfi⟩:=YE hr3 hsi;injection hA with hA;injection hA with hA1 hA2 hA3;subst hA1;have a8B:=hfi i;have hput:=kQ hr3 h4 i s;have qR:Bj [g] w (w3.setCell ⟨g,i,none⟩ (.int .u32 (s:Int))):=(h7.trans (u3.mono (by simp))).setCell (.inl (by simp)) _;have Xj:=Ap hput qR;clear u3 hr3 hput qR h1 h2 h3 h4 h5 h6 h7 h8 h9 hsi;go_wp2_with fail
    go_roundg (n+(k+1) - (j+1))
    case measure=>have:=HJ.1;omega
    case rel=>
     obtain ⟨h1,h2,h3,h4,h5,h6,h7,h8,h9⟩:=HJ.out;refine ⟨i+1,j+1,c.set i s,by omega,by omega,by go_num,by go_num,Xj.1,by rw [List.length_set];exact h4,?_,λp hp=>?_,Xj.2⟩
     ·rw [h8,List.filter_append,List.filter_cons,if_pos (by rw [HC.2];rfl),List.filter_nil,<-h5];have h10:i<(c.set i s).length:=by rw [List.length_set,h4];omega
      rw [Bd h10,List.getElem_set_self,List.take_set_of_le (Nat.le_refl _)]
     ·rw [List.getElem?_set_ne (by omega)];exact h6 p (by omega)
   ·rw [hp] at hc;have HC:=Ap hc hp;clear hc hp;go_wp2_with fail
    go_fit HC.1
    rintro e w3 ⟨rfl,u3⟩;have EJ:=AX u3;clear u3 ey hfz;go_wp2_with fail
    go_roundg (n+(k+1) - (j+1))
    case measure=>have:=HJ.1;omega
    case rel=>
     obtain ⟨h1,h2,h3,h4,h5,h6,h7,h8,h9⟩:=HJ.out;refine ⟨i,j+1,c,by omega,by omega,rfl,by go_num,Bl h3 EJ.out (by simp),h4,?_,λp hp=>h6 p (by omega),h7.trans (EJ.out.mono (by simp))⟩
     rw [h8,List.filter_append,List.filter_cons,if_neg (by rw [HC.2];simp),List.filter_nil,List.append_nil];exact h5
  ·have TU:j=n:=by omega
   have hcut:c.take i=l.filter λy=>!P y:=by
    rw [htk,List.take_of_length_le];rw [HN.out];omega
   have hrow':wr.ownsRow base 26 1 (.slice (some ⟨g,0,none⟩) n Cv) n (KU.all c):=by
    have:=hrow;unfold Kind.row at this;rwa [hcl] at this
   have hin2:i<n:=by omega
   have Xg:=HK.2.1;have ct:=λw'=>Yw (P:=Tryz.prog) (t:=35) Tryz.underlying35 hi1 hy1 g n Cv i hin2 Xg w'
   rw [Nat.mul_one] at ct;have chd:=λw'=>Tc (P:=Tryz.prog) (t:=35) Tryz.underlying35 hi1 g n Cv i (by omega) w'
   obtain ⟨r,hr⟩:=AU (n - i);rw [hr] at ct
   have kF:∀ty,(Builtin.clear_ #[35] ty #[.slice (some ⟨g,i,none⟩) r (Cv - i)]).run Tryz.prog wr=.ok (.tuple #[]) (wr.setCells g i (Builtin.zeroCells (Value.int .u32 0).cells r).toList):=λty=>
    Jl (size:=1) wr _ 26 ty _ Tryz.underlying35 rP rfl (by simp [Value.oneCell',Value.cells]) (by decide) g _ r _ (by omega)
     (λp hp=>(Gx hrow' (i+p) (by omega)).1) (λp hp=>(Gx hrow' (i+p) (by omega)).2)
   obtain ⟨LL,QT⟩:=AU ((Builtin.zeroCells (Value.int .u32 0).cells r).toList);rw [QT] at kF;have hown2:=F5 LL wr i (S9 hrow' i (by omega)) (by omega);have hci:(c.take i).length=i:=by rw [Bf,hcl];omega
   have Yx:KU.row (wr.setCells g i LL) base (.slice (some ⟨g,0,none⟩) i Cv) (l.filter λy=>!P y):=by
    rw [<-hcut];unfold Kind.row;rw [hci,Kind.Iw];exact hown2
   have HE:=Ap Yx (hup.trans (LW (g:=g) LL wr i));clear QT hrow hrow' hown2 hci Yx hcut htk hcp hcl hup hj hij TU Xg hin2 hr;go_wp2_with fail
   go_ret
   exact ⟨_,rfl,HE.1,by simpa [blk] using HE.2⟩
end LQ
section
open Go.RowKit
theorem zy (va vb:Value) (la lb:List Nat) (w:World) (ha:See KU w va la) (hb:See KU w vb lb) (hl:la.length<1000000000000) (hl2:lb.length<1000000000000) :
 Calls Tryz.prog 49 #[va,vb] w λe w'=>e=.returned (.bool (decide (la=lb)))/\Bj [] w w':=by
 obtain ⟨A,C,rfl⟩:=ha.form;obtain ⟨B,D,rfl⟩:=hb.form;obtain ⟨r,hr⟩:∃r,decide (la=lb)=r:=⟨_,rfl⟩;obtain ⟨n,hn⟩:=AU la.length;obtain ⟨m,hm⟩:=AU lb.length;rw [hn] at ha hl;rw [hm] at hb hl2;rw [hr,hn,hm];have HA:=Ap ha hb;have HN:=Aq hn hm hr;have n0:(0:Int)<=(n:Int):=AY _;have m0:(0:Int)<=(m:Int):=AY _;have n1:(n:Int)<1000000000000:=by omega
 clear ha hb hr hn hm;by_cases hnm:n=m
 ·subst hnm;have hne:((n:Int) != (n:Int))=false:=by simp
  go_enter Tryz.func49,Tryz.ntmps49
  go_wp2_with fail
  go_loopg [13] n (λm s13 wr=>∃k:Nat,m+k=n/\s13=.int .i64 (k:Int)/\la.take k=lb.take k/\Bj [] w wr)
  case atStart=>exact ⟨0,rfl,rfl,by simp,Bj.refl _ _⟩
  case round=>
   obtain ⟨k,hk,rfl,htk,hup⟩:=hrel;have k0:(0:Int)<=(k:Int):=AY _;have hkn:k<=n:=by omega
   have HK:=Aq hk htk hup;clear hk htk hup;by_cases hlt:k<n
   ·obtain ⟨x,hx⟩:∃x,la[k]? = some x:=⟨_,Ba (by rw [HN.1];exact hlt)⟩;obtain ⟨y,hy⟩:∃y,lb[k]? = some y:=⟨_,Ba (by rw [HN.2.1];exact hlt)⟩;obtain ⟨g1,o1,hA,-,-,hc1⟩:=KU.atS (HA.1.BF HK.2.2) hx;obtain ⟨g2,o2,hB,-,-,hc2⟩:=KU.atS (HA.2.BF HK.2.2) hy;subst hA hB;have HX:=Ap hx hy;have b1:(k:Int)<(n:Int):=by omega
    clear hx hy;by_cases hxy:x=y
    ·have hq:((x:Int) != (y:Int))=false:=by simp [hxy]
     have HXY:=AX hxy;clear hxy;go_wp2_with fail
     go_quiet (fail)
     go_wp2_with fail
     go_roundg (n - (k+1))
     case measure=>have:=HK.1;omega
     case rel=>
      refine ⟨k+1,Ac HK.1,by go_num,?_,HK.2.2.drewN _⟩
      obtain ⟨h1,h2⟩:=AZ HX.1;obtain ⟨h3,h4⟩:=AZ HX.2;rw [Bd h1,Bd h3,HK.2.1,h2,h4,HXY.out]
    ·have hq:((x:Int) != (y:Int))=true:=by simp;omega
     have hd:r=false:=by
      rw [<-HN.2.2,decide_eq_false_iff_not];intro e;have h1:=HX.1;rw [e,HX.2] at h1;injection h1 with h1;exact hxy h1.symm
     have HD:=AX hd;clear hxy hd;go_wp2_with fail
     go_quiet (fail)
     go_wp2_with fail
     go_ret
     exact ⟨by rw [HD.out];rfl,HK.2.2.drewN _⟩
   ·have hkn2:k=n:=by omega
    have hd:r=true:=by
     rw [<-HN.2.2,decide_eq_true_iff];have h1:=HK.2.1;rw [hkn2,List.take_of_length_le (by rw [HN.1];exact Nat.le_refl _),List.take_of_length_le (by rw [HN.2.1];exact Nat.le_refl _)] at h1;exact h1
    have HD:=AX hd;clear hd hkn2;go_wp2_with fail
    go_ret
    exact ⟨by rw [HD.out];rfl,HK.2.2⟩
 ·have hne:((n:Int) != (m:Int))=true:=by simp;omega
  have hd:r=false:=by
   rw [<-HN.2.2,decide_eq_false_iff_not];intro e;exact hnm (by rw [<-HN.1,<-HN.2.1,e])
  have HD:=AX hd;clear hnm hd;go_enter Tryz.func49,Tryz.ntmps49
  go_wp2_with fail
  go_ret
  exact ⟨by rw [HD.out];rfl,Bj.refl _ _⟩
