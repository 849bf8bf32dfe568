/- gridironlaw25.within; an array of four that came in; a box with its name. -/
import Derived.Test.YtkbaaonchdeneaaGreatPb55
set_option maxHeartbeats 4000000
set_option maxRecDepth 100000
namespace Go.Proofs.YtkbaaonchdeneaaGreat
open Go.RowKit Go.ChangeShapes Go.WideShapes
theorem Wv {x:Int} (h:(Lit.int .u8 x).wf=true):∃n:Nat,x=(n:Int)∧n<256:=by
 simp [Lit.wf,IntKind.min,IntKind.max,IntKind.signed,IntKind.bits] at h;exact ⟨x.toNat,by omega,by omega⟩
theorem aT {P:Program} {w:World} {r:Reach} {base:Nat} {t e:TypeId} {n:Nat} {v:Value} (ht:P.underlying t=some (.array n e)) (h:Value.okWide P w r base t v):∃cs,v=.agg cs∧cs.size=P.cellsOf t:=by
 simp only [Value.okWide,ht] at h;obtain ⟨cs,h1,h2,_⟩:=h;exact ⟨cs,h1,h2⟩
theorem lF {H:Type} {enc:TypeId×Value→H} {w:World} {base:Nat} {spare:Nat→Bool} {held:Bool} {r:Reach} {b0:Nat} {v:Value} {d:DataW H} {p:List MemPlace}
 (hv:Value.okWide Tryz.prog w r b0 87 v) (h:DataW.Trod enc Tryz.prog w base spare held 87 v d p):∃a b c e:Nat,v=.agg #[.int .u8 (a:Int),.int .u8 (b:Int),.int .u8 (c:Int),.int .u8 (e:Int)]∧a<256∧c<256:=by
 obtain ⟨cs,rfl,hsz⟩:=aT Tryz.underlying87 hv;obtain ⟨l⟩:=cs;obtain ⟨fuel,hf⟩:=h;have hl:l.length=4:=hsz.trans (by kernel_rfl);match l,hl with
 | [c0,c1,c2,c3],_=>
  obtain ⟨y0,y1,y2,y3,n,-,t0,t1,t2,t3⟩:=trod_array4 Tryz.underlying87 (by kernel_rfl) (by simpa [Value.cells] using hf);obtain ⟨a0,e0,_,w0⟩:=DataW.trod_int Tryz.underlying5 t0;obtain ⟨a1,e1,_,w1⟩:=DataW.trod_int Tryz.underlying5 t1;obtain ⟨a2,e2,_,w2⟩:=DataW.trod_int Tryz.underlying5 t2;obtain ⟨a3,e3,_,w3⟩:=DataW.trod_int Tryz.underlying5 t3;injection e0 with e0 _;injection e1 with e1 _;injection e2 with e2 _;injection e3 with e3 _;subst e0 e1 e2 e3;obtain ⟨n0,rfl,h0⟩:=Wv w0;obtain ⟨n1,rfl,h1⟩:=Wv w1;obtain ⟨n2,rfl,h2⟩:=Wv w2;obtain ⟨n3,rfl,h3⟩:=Wv w3;exact ⟨n0,n1,n2,n3,rfl,h0,h2⟩
theorem gZ {H:Type} {enc:TypeId×Value→H} {w:World} {base:Nat} {spare:Nat→Bool} {held:Bool} {r:Reach} {b0:Nat} {v:Value} {d:DataW H} {p:List MemPlace}
 (hv:Value.okWide Tryz.prog w r b0 28 v) (h:DataW.Trod enc Tryz.prog w base spare held 28 v d p):∃b:Bx,v=L8 b∧b.BO∧b.id<4294967296:=by
 obtain ⟨b,e,hb⟩:=Ye hv h;refine ⟨b,e,hb,?_⟩
 obtain ⟨cs,e2,hl,hf⟩:=Rx Tryz.underlying28 (by kernel_rfl) (by kernel_rfl) hv h;obtain ⟨u4,y4,n4,g4,t4⟩:=hf 4 _ rfl;obtain ⟨a4,e4,_,w4⟩:=DataW.trod_int Tryz.underlying26 t4;injection e4 with e4 _;subst e4;obtain ⟨n,rfl,hn⟩:=nV w4;rw [e] at e2;unfold L8 at e2;injection e2 with e2;have e3:[.int .i64 b.x1,.int .i64 b.x2,.int .i64 b.y1,.int .i64 b.y2,.int .u32 (b.id:Int)]=cs:=congrArg Array.toList e2;rw [←e3] at g4;have g5:some (Value.int .u32 (b.id:Int))=some (Value.int .u32 (n:Int)):=g4;injection g5 with g5;injection g5 with _ g5;omega
theorem nY (lo hi:Int) (n:Nat) (hn:n<256) (h:lo≤hi) (h1 : -9223372036854775808≤lo) (h2:hi≤9223372036854775807) (w:World) :
 Calls Tryz.prog 46 #[.int .i64 lo,.int .i64 hi,.int .u8 (n:Int)] w fun e w'=>∃x:Int,e=.returned (.int .i64 x)∧(lo≤x∧x≤hi)∧w=w':=by
 have n0:(0:Int)≤(n:Int):=AU _;have n1:(n:Int)<256:=by omega
 go_enter Tryz.func46,Tryz.ntmps46
 go_wp2_with fail
 go_loopg [0,8] n (fun m s0 s8 wr=>∃(k:Nat) (x:Int),m+k=n∧s8=.int .u8 (k:Int)∧s0=.int .i64 x∧lo≤x∧x≤hi∧wr=w)
 case atStart=>exact ⟨0,lo,rfl,rfl,rfl,Int.le_refl _,h,rfl⟩
 case round=>
  obtain ⟨k,x,hk,rfl,rfl,hx1,hx2,rfl⟩:=hrel;have k0:(0:Int)≤(k:Int):=AU _;by_cases hlt:k<n
  ·have hlt2:(k:Int)<(n:Int):=by omega
   by_cases he:x=hi
   ·have hq:(x==hi)=true:=by simpa using he
    have HX:=Ai hx1 hx2;clear he hx1 hx2;go_wp2_with fail
    go_ret
    exact ⟨x,rfl,HX.out,rfl⟩
   ·have hq:(x==hi)=false:=by simpa using he
    have hx3:x+1≤9223372036854775807:=by omega
    have hx4 : -9223372036854775808≤x+1:=by omega
    have hk3:(k:Int)+1<256:=by omega
    have HX:=Ai hk (show lo≤x+1∧x+1≤hi by omega);clear he hx1 hx2 hk;go_wp2_with fail
    go_roundg (n - (k+1))
    case measure=>have:=HX.1;omega
    case rel=>exact ⟨k+1,x+1,Ac HX.1,by go_num,by go_num,HX.2.1,HX.2.2,rfl⟩
  ·have HX:=Ai hx1 hx2;clear hk hx1 hx2;go_wp2_with fail
   go_ret
   exact ⟨x,rfl,HX.out,rfl⟩
