/- Maps from spans to numbers: what a block of such a map has, as a list of pairs. Printed by mkmaps.py. -/
import Derived.Maps.OwnSet
import Derived.WideKeyEntry
import Derived.DeepKeys4
import Derived.Test.YtkbaaonchdeneaaGreatPk6
import Derived.Test.YtkbaaonchdeneaaGreatPk24
set_option maxRecDepth 100000
namespace Go.Proofs.YtkbaaonchdeneaaGreat.MSp
open Go.RowKit
open Go.Maps (Keyed Tidy IsMap)
def kv (x:Sp):Value:=.agg #[.int .i64 x.lo,.int .i64 x.hi,.int .u32 (x.id:Int)]
theorem kv_inj {x y:Sp} (h:kv x=kv y):x=y:=by
 cases x;cases y
 simp [kv] at h
 simp only [Sp.mk.injEq]
 omega
theorem kWide:(match Tryz.prog.underlying 62 with | some (.array _ _) | some (.struct _)=>true | _=>false)=true:=by rw [Tryz.underlying62]
theorem kLaid:laidOutB Tryz.prog=true:=by kernel_rfl
theorem kRow:(62:TypeId)<Tryz.prog.types.size:=of_decide_eq_true (by kernel_rfl)
theorem kLaw:WideMaps.KeyLaw Tryz.prog 62:=deep_law_laid kLaid (m:=2) (by omega) kRow (by kernel_rfl) kWide
theorem kKeyed:Keyed Tryz.prog 62:=Keyed.of_law kLaw
theorem kRow1:(62:Nat)<Tryz.prog.types.size:=kRow
theorem kCells:Tryz.prog.cellsOf 62=3:=by kernel_rfl
theorem kCellsI:Tryz.prog.cellsOf 2=1:=by kernel_rfl
theorem kCellsU:Tryz.prog.cellsOf 26=1:=by kernel_rfl
theorem kType:Tryz.prog.keyType 62=true:=by kernel_rfl
theorem kkey (x:Sp) (hx:x.in64):∃kl,keyOf Tryz.prog 62 (kv x)=some kl:=by
 obtain ⟨⟨a0,a1⟩,⟨b0,b1⟩,c1⟩:=hx
 have w0:(Lit.int .i64 x.lo).wf=true:=by simp [Lit.wf,IntKind.min,IntKind.max,IntKind.signed,IntKind.bits];omega
 have w1:(Lit.int .i64 x.hi).wf=true:=by simp [Lit.wf,IntKind.min,IntKind.max,IntKind.signed,IntKind.bits];omega
 have w2:(Lit.int .u32 (x.id:Int)).wf=true:=by simp [Lit.wf,IntKind.min,IntKind.max,IntKind.signed,IntKind.bits];omega
 obtain ⟨d,hd⟩:∃d,Tryz.prog.types.size+1=d+1+1:=⟨Tryz.prog.types.size - 1,by have:=kRow1;omega⟩
 have hl:∃L,Tryz.prog.keyLits (Tryz.prog.types.size+1) 62 [.int .i64 x.lo,.int .i64 x.hi,.int .u32 (x.id:Int)]=some L:=by
  rw [hd]
  refine ⟨[.int .i64 x.lo,.int .i64 x.hi,.int .u32 (x.id:Int)],?_⟩
  unfold Program.keyLits
  rw [Tryz.underlying62]
  simp only [kCells,List.length_cons,List.length_nil]
  simp [Program.keyLits,Tryz.underlying2,Tryz.underlying26,kCellsI,kCellsU,w0,w1,w2]
 obtain ⟨L,hL⟩:=hl
 refine ⟨.string (keyBytes L),?_⟩
 unfold keyOf
 rw [Tryz.underlying62]
 simp only [kType,Bool.true_and]
 have hfm:(kv x).formed Tryz.prog 62=true:=by simp [kv,Value.formed,Tryz.underlying62,kCells]
 rw [if_pos hfm]
 have hcs:(kv x).cells.toList = [.int .i64 x.lo,.int .i64 x.hi,.int .u32 (x.id:Int)]:=rfl
 rw [hcs,hL]
 rfl
def MapAt (w:World) (b:Nat) (m:List (Sp×Int)):Prop:=
 (m.map (·.1)).Nodup∧∃D:DataW Nat,w.ownsMap Tryz.prog 62 (plainElem Tryz.prog 3) b m.length D∧Tidy D∧Maps.size D=m.length∧
  (∀x kl,keyOf Tryz.prog 62 (kv x)=some kl→Maps.has D kl=(m.lookup x).isSome)∧∀x kl,keyOf Tryz.prog 62 (kv x)=some kl→D.atKey kl (.lit (.int .i64 0))=.lit (.int .i64 ((m.lookup x).getD 0))
theorem MapAt.lt {w:World} {b:Nat} {m:List (Sp×Int)} (h:MapAt w b m):b<w.heap.size:=by
 obtain ⟨_,D,h1,_⟩:=h
 exact h1.lt
theorem MapAt.upd {F:List Nat} {w w':World} {b:Nat} {m:List (Sp×Int)} (h:MapAt w b m) (hu:Upd F w w') (hb:b∉F):MapAt w' b m:=by
 obtain ⟨h0,D,h1,h2⟩:=h
 have hlt:=h1.lt
 obtain ⟨es,clock,hb',hr⟩:=h1
 exact ⟨h0,D,⟨es,clock,(hu.block b hlt hb).trans hb',hr⟩,h2⟩
theorem MapAt.made (w:World):MapAt (w.alloc (.map #[] 0)) w.heap.size []:=
 ⟨List.nodup_nil,.map [],World.ownsMap_made _ _ _ _,Maps.tidy_empty,rfl,fun x kl _=>by simp [Maps.has],fun x kl _=>by simp [DataW.atKey]⟩
theorem MapAt.drew {w:World} {b:Nat} {m:List (Sp×Int)} (h:MapAt w b m):MapAt w.drew b m:=h
theorem MapAt.look {w:World} {b:Nat} {m:List (Sp×Int)} (h:MapAt w b m) {x:Sp} (hx:x.in64) :
 (Instr.lookup 201 (.map (some b)) (.agg #[.int .i64 x.lo,.int .i64 x.hi,.int .u32 (x.id:Int)]) true).run Tryz.prog w=.ok (.tuple #[.int .i64 ((m.lookup x).getD 0),.bool (m.lookup x).isSome]) w:=by
 obtain ⟨_,D,h1,h2,h3,h4,h5⟩:=h
 obtain ⟨kl,hkl⟩:=kkey x hx
 obtain ⟨v,ps,hrun,hv⟩:=h1.look_ok kKeyed Tryz.underlying201 (z:=.int .i64 0) (by kernel_rfl) (plainElem_int (H:=Nat) Tryz.underlying3 (by decide)) hkl
 rw [h5 x kl hkl] at hv
 obtain ⟨a,rfl,hz,_⟩:=plainElem_int_inv Tryz.underlying3 hv
 simp only [Prod.mk.injEq,DataW.lit.injEq,Lit.int.injEq,true_and] at hz
 refine hrun.trans ?_
 rw [h4 x kl hkl,hz.1]
theorem MapAt.len {w:World} {b:Nat} {m:List (Sp×Int)} (h:MapAt w b m) (ty:TypeId):(Builtin.len_ #[201] ty #[.map (some b)]).run Tryz.prog w=.ok (.int .i64 m.length) w:=by
 obtain ⟨_,D,h1,h2,h3,h4,h5⟩:=h
 rw [h1.len Tryz.underlying201 ty,h3]
theorem grown_upd {w w':World} {b:Nat} (h:w.grownBy w' (some b)):Upd [b] w w':=(Upd.refl _ _).grown h fun k hk=>.inl (by simpa using hk.symm)
theorem key_ne {x y:Sp} {kx ky:Lit} (hx:keyOf Tryz.prog 62 (kv x)=some kx) (hy:keyOf Tryz.prog 62 (kv y)=some ky) (h:y≠x):ky≠kx:=fun e=>h (kv_inj (kLaw.inj (by rw [hy,e]) hx))
theorem MapAt.put {w:World} {b:Nat} {m:List (Sp×Int)} (h:MapAt w b m) {x:Sp} {v:Int} (hx:x.in64) (hv:(Lit.int .i64 v).wf=true) (hn:m.length<maxLen) :
 ∃w',(Instr.mapUpdate 201 (.map (some b)) (.agg #[.int .i64 x.lo,.int .i64 x.hi,.int .u32 (x.id:Int)]) (.int .i64 v)).run Tryz.prog w=.ok () w'∧MapAt w' b (mput m x v)∧Upd [b] w w':=by
 obtain ⟨h0,D,h1,h2,h3,h4,h5⟩:=h
 obtain ⟨kl,hkl⟩:=kkey x hx
 obtain ⟨w',hrun,ho,ht⟩:=h1.store kKeyed Tryz.underlying201 hn hkl (plainElem_int (H:=Nat) Tryz.underlying3 hv)
 have hsz:Maps.size (D.put kl (.lit (.int .i64 v)))=(mput m x v).length:=by
  rw [Maps.size_put h2,h4 x kl hkl,h3,length_mput h0]
 refine ⟨w',hrun,⟨nodup_mput h0 x v,_,?_,h2.put (kKeyed.key hkl) _,hsz,?_,?_⟩,grown_upd ht.grown⟩
 ·obtain ⟨es,clock,hb,F,_,hD⟩:=ho
  refine ⟨es,clock,hb,F,?_,hD⟩
  rw [←hsz,hD]
  simp [Maps.size,length_sorted]
 ·intro y ky hky
  by_cases hy:y=x
  ·subst hy
   rw [hkl] at hky
   cases hky
   rw [Maps.has_put_same h2.isMap (kKeyed.key hkl),lookup_mput,if_pos rfl];rfl
  ·rw [Maps.has_put_other (key_ne hkl hky hy),h4 y ky hky,lookup_mput,if_neg hy]
 ·intro y ky hky
  by_cases hy:y=x
  ·subst hy
   rw [hkl] at hky
   cases hky
   rw [Maps.atKey_put_same h2.isMap (kKeyed.key hkl),lookup_mput,if_pos rfl];rfl
  ·rw [Maps.atKey_put_other (key_ne hkl hky hy),h5 y ky hky,lookup_mput,if_neg hy]
theorem MapAt.del {w:World} {b:Nat} {m:List (Sp×Int)} (h:MapAt w b m) {x:Sp} (hx:x.in64) (ty:TypeId) :
 ∃w',(Builtin.delete_ #[201,62] ty #[.map (some b),.agg #[.int .i64 x.lo,.int .i64 x.hi,.int .u32 (x.id:Int)]]).run Tryz.prog w=.ok (.tuple #[]) w'∧MapAt w' b (mdel m x)∧Upd [b] w w':=by
 obtain ⟨h0,D,h1,h2,h3,h4,h5⟩:=h
 obtain ⟨kl,hkl⟩:=kkey x hx
 obtain ⟨w',hrun,ho,ht⟩:=h1.drop kKeyed Tryz.underlying201 hkl ty
 have hsz:Maps.size (D.del kl)=(mdel m x).length:=by
  have e1:=Maps.size_del (k:=kl) h2
  have e2:=length_mdel h0 x
  rw [h4 x kl hkl,h3] at e1
  omega
 refine ⟨w',hrun,⟨nodup_mdel h0 x,_,?_,h2.del _,hsz,?_,?_⟩,grown_upd ht.grown⟩
 ·obtain ⟨es,clock,hb,F,_,hD⟩:=ho
  refine ⟨es,clock,hb,F,?_,hD⟩
  rw [←hsz,hD]
  simp [Maps.size,length_sorted]
 ·intro y ky hky
  by_cases hy:y=x
  ·subst hy
   rw [hkl] at hky
   cases hky
   rw [Maps.has_del_same,lookup_mdel,if_pos rfl];rfl
  ·rw [Maps.has_del_other (key_ne hkl hky hy),h4 y ky hky,lookup_mdel,if_neg hy]
 ·intro y ky hky
  by_cases hy:y=x
  ·subst hy
   rw [hkl] at hky
   cases hky
   rw [Maps.atKey_del_same,lookup_mdel,if_pos rfl];rfl
  ·rw [Maps.atKey_del_other (key_ne hkl hky hy),h5 y ky hky,lookup_mdel,if_neg hy]
section
variable (w:World)
end
end Go.Proofs.YtkbaaonchdeneaaGreat.MSp
