/- gridironlaw26.after: a model behind some operations. gridironlaw26.awake: the chapter's examples. Printed by mkawkm.py. The document's model: where it lies; wrong, place, names. Printed by mkrefmk.py. Where a name stands among rising ones: what comes and goes there. No program. -/
import Derived.Test.YtkmnbodlciepaaaGreatPk26
import Derived.Test.YtkmnbodlciepaaaGreatPk20
import Derived.Test.YtkmnbodlciepaaaGreatPk16
import Derived.Test.YtkmnbodlciepaaaGreatPk15
set_option maxHeartbeats 8000000
set_option maxRecDepth 100000
namespace Go.Proofs.YtkmnbodlciepaaaGreat
open Go.RowKit
def KOp:Kind OpP:={ T:=0,sT:=22,eT:=43,sz:=6,enc:=fun o=>[.int .u8 (o.code:Int),.int .i64 o.a,.int .i64 o.b,.int .i64 o.c,.int .i64 o.d,.int .u32 (o.id:Int)],len:=fun _=>rfl,one:=fun b u hu=>by simp at hu;rcases hu with rfl | rfl | rfl | rfl | rfl | rfl<;>rfl }
theorem KOp.at {w:World} {A:Option Addr} {n C:Nat} {l:List OpP} (h:See KOp w (.slice A n C) l) {k:Nat} {x:OpP} (hx:l[k]? = some x) :
 ∃b o,A=some ⟨b,o,none⟩∧n≤C∧C≤maxLen∧w.cell? ⟨b,o+k*6,none⟩=some (.int .u8 (x.code:Int))∧w.cell? ⟨b,o+k*6+1,none⟩=some (.int .i64 x.a)∧w.cell? ⟨b,o+k*6+2,none⟩=some (.int .i64 x.b)∧w.cell? ⟨b,o+k*6+3,none⟩=some (.int .i64 x.c)∧w.cell? ⟨b,o+k*6+4,none⟩=some (.int .i64 x.d)∧w.cell? ⟨b,o+k*6+5,none⟩=some (.int .u32 (x.id:Int)):=by
 obtain ⟨b,o,h1,h2,h3,h4⟩:=See.at h hx
 exact ⟨b,o,h1,h2,h3,h4 0 _ rfl,h4 1 _ rfl,h4 2 _ rfl,h4 3 _ rfl,h4 4 _ rfl,h4 5 _ rfl⟩
def runM (A R:List Bx→Nat) (m:Md) (l:List OpP):Md:=l.foldl (fun m o=>(doM A R m o).1) m
theorem runM_step {A R:List Bx→Nat} {m:Md} {l:List OpP} {k:Nat} {o:OpP} (h:l[k]? = some o):runM A R m (l.take (k+1))=(doM A R (runM A R m (l.take k)) o).1:=by
 obtain ⟨h1,h2⟩:=List.getElem?_eq_some_iff.1 h
 unfold runM
 rw [List.take_succ_eq_append_getElem h1,h2,List.foldl_append]
 rfl
theorem tolT {A R:List Bx→Nat} (ar:AR A R) {w:World} {h p s x N:Nat} {m:Md} (g:MM w h p s x m N) (hN:N<1000000) (o:OpP) (ho:o.in64) (e cnt:Nat) (v:Value) (L:List Nat) (hv:See KU w v L) (hL:L.length<1000000) (m':Md) (hd:doM A R m o=(m',⟨e,L,cnt,false,0⟩)) :
 Calls Tryz.prog 24 #[.pointer (some ⟨h,0,none⟩),opV o,.int .i64 (e:Int),.int .i64 (cnt:Int),v] w fun e' w'=>e'=.returned (.bool true)∧MM w' h p s x m' (N+1)∧Upd [p,s,x] w w':=by
 refine (toldC ar g hN o ho e cnt v L hv hL).mono fun e' w' ⟨b,h1,h2,h3,h4⟩=>?_
 rw [hd] at h2 h3
 have:b=true:=h2.2 rfl
 subst this
 exact ⟨h1,h3,h4⟩
theorem KU_new (w:World) (l:List Nat) (n:Nat) (hn:n=l.length) (hm:n≤maxLen):See KU (w.alloc (.cells (l.map fun (x:Nat)=>(Value.int .u32 (x:Int))).toArray 41)) (.slice (some ⟨w.heap.size,0,none⟩) n n) l:=by
 subst hn
 have:=sees_lit w (l.map fun (x:Nat)=>(Value.int .u32 (x:Int))).toArray 41 1 l.length (by simp) hm
 have e:∀l:List Nat,KU.all l=l.map fun (x:Nat)=>(Value.int .u32 (x:Int)):=by
  intro l
  induction l with
  |nil=>rfl
  |cons a l ih=>rw [List.map_cons,←ih];rfl
 unfold See
 rw [e]
 exact this
instance (x:Int):Decidable (z64 x):=inferInstanceAs (Decidable (_∧_))
theorem op_new (w:World) (o:Array Value):CelB (w.alloc (.cells o 43)) w.heap.size o.toList:=CelB.of_heap (heap_alloc_new w _)
theorem tol1 {A R:List Bx→Nat} (ar:AR A R) {w:World} {h p s x N:Nat} (g:MM w h p s x ⟨2,[],[],[]⟩ N) (hN:N<1000000) :
 Calls Tryz.prog 24 #[.pointer (some ⟨h,0,none⟩),.agg #[.int .u8 1,.int .i64 3,.int .i64 4,.int .i64 0,.int .i64 0,.int .u32 7],.int .i64 0,.int .i64 1,.slice none 0 0] w fun e' w'=>e'=.returned (.bool true)∧MM w' h p s x ⟨2,[⟨3,4,7⟩],[],[]⟩ (N+1)∧Upd [p,s,x] w w':=
 tolT ar g hN (⟨1,3,4,0,0,7⟩:OpP) ⟨⟨by decide,by decide,by decide,by decide⟩,by decide,by decide⟩ 0 1 _ [] (See.nil _ _) (by decide) ⟨2,[⟨3,4,7⟩],[],[]⟩ rfl
theorem tol2 {A R:List Bx→Nat} (ar:AR A R) {w:World} {h p s x N:Nat} (g:MM w h p s x ⟨2,[⟨3,4,7⟩],[],[]⟩ N) (hN:N<1000000) :
 Calls Tryz.prog 24 #[.pointer (some ⟨h,0,none⟩),.agg #[.int .u8 1,.int .i64 3,.int .i64 4,.int .i64 0,.int .i64 0,.int .u32 7],.int .i64 262,.int .i64 0,.slice none 0 0] w fun e' w'=>e'=.returned (.bool true)∧MM w' h p s x ⟨2,[⟨3,4,7⟩],[],[]⟩ (N+1)∧Upd [p,s,x] w w':=
 tolT ar g hN (⟨1,3,4,0,0,7⟩:OpP) ⟨⟨by decide,by decide,by decide,by decide⟩,by decide,by decide⟩ 262 0 _ [] (See.nil _ _) (by decide) ⟨2,[⟨3,4,7⟩],[],[]⟩ rfl
theorem tol3 {A R:List Bx→Nat} (ar:AR A R) {w:World} {h p s x N:Nat} (g:MM w h p s x ⟨2,[⟨3,4,7⟩],[],[]⟩ N) (hN:N<1000000) :
 Calls Tryz.prog 24 #[.pointer (some ⟨h,0,none⟩),.agg #[.int .u8 1,.int .i64 5,.int .i64 1,.int .i64 0,.int .i64 0,.int .u32 0],.int .i64 0,.int .i64 2,.slice none 0 0] w fun e' w'=>e'=.returned (.bool true)∧MM w' h p s x ⟨2,[⟨5,1,0⟩,⟨3,4,7⟩],[],[]⟩ (N+1)∧Upd [p,s,x] w w':=
 tolT ar g hN (⟨1,5,1,0,0,0⟩:OpP) ⟨⟨by decide,by decide,by decide,by decide⟩,by decide,by decide⟩ 0 2 _ [] (See.nil _ _) (by decide) ⟨2,[⟨5,1,0⟩,⟨3,4,7⟩],[],[]⟩ rfl
theorem tol4 {A R:List Bx→Nat} (ar:AR A R) {w:World} {h p s x N:Nat} (g:MM w h p s x ⟨2,[⟨5,1,0⟩,⟨3,4,7⟩],[],[]⟩ N) (hN:N<1000000) :
 Calls Tryz.prog 24 #[.pointer (some ⟨h,0,none⟩),.agg #[.int .u8 1,.int .i64 0,.int .i64 0,.int .i64 0,.int .i64 0,.int .u32 1],.int .i64 5,.int .i64 0,.slice none 0 0] w fun e' w'=>e'=.returned (.bool true)∧MM w' h p s x ⟨2,[⟨5,1,0⟩,⟨3,4,7⟩],[],[]⟩ (N+1)∧Upd [p,s,x] w w':=
 tolT ar g hN (⟨1,0,0,0,0,1⟩:OpP) ⟨⟨by decide,by decide,by decide,by decide⟩,by decide,by decide⟩ 5 0 _ [] (See.nil _ _) (by decide) ⟨2,[⟨5,1,0⟩,⟨3,4,7⟩],[],[]⟩ rfl
theorem tol5 {A R:List Bx→Nat} (ar:AR A R) {w:World} {h p s x N:Nat} {q:Nat} (g:MM w h p s x ⟨2,[⟨5,1,0⟩,⟨3,4,7⟩],[],[]⟩ N) (hN:N<1000000) (hv:See KU w (.slice (some ⟨q,0,none⟩) 1 1) [0]) :
 Calls Tryz.prog 24 #[.pointer (some ⟨h,0,none⟩),.agg #[.int .u8 7,.int .i64 0,.int .i64 9,.int .i64 0,.int .i64 3,.int .u32 0],.int .i64 0,.int .i64 0,.slice (some ⟨q,0,none⟩) 1 1] w fun e' w'=>e'=.returned (.bool true)∧MM w' h p s x ⟨2,[⟨5,1,0⟩,⟨3,4,7⟩],[],[]⟩ (N+1)∧Upd [p,s,x] w w':=
 tolT ar g hN (⟨7,0,9,0,3,0⟩:OpP) ⟨⟨by decide,by decide,by decide,by decide⟩,by decide,by decide⟩ 0 0 _ [0] hv (by decide) ⟨2,[⟨5,1,0⟩,⟨3,4,7⟩],[],[]⟩ rfl
theorem tol6 {A R:List Bx→Nat} (ar:AR A R) {w:World} {h p s x N:Nat} {q:Nat} (g:MM w h p s x ⟨2,[⟨5,1,0⟩,⟨3,4,7⟩],[],[]⟩ N) (hN:N<1000000) (hv:See KU w (.slice (some ⟨q,0,none⟩) 2 2) [0,7]) :
 Calls Tryz.prog 24 #[.pointer (some ⟨h,0,none⟩),.agg #[.int .u8 11,.int .i64 3,.int .i64 1,.int .i64 3,.int .i64 0,.int .u32 0],.int .i64 0,.int .i64 0,.slice (some ⟨q,0,none⟩) 2 2] w fun e' w'=>e'=.returned (.bool true)∧MM w' h p s x ⟨2,[⟨5,1,0⟩,⟨3,4,7⟩],[],[]⟩ (N+1)∧Upd [p,s,x] w w':=
 tolT ar g hN (⟨11,3,1,3,0,0⟩:OpP) ⟨⟨by decide,by decide,by decide,by decide⟩,by decide,by decide⟩ 0 0 _ [0,7] hv (by decide) ⟨2,[⟨5,1,0⟩,⟨3,4,7⟩],[],[]⟩ rfl
theorem tol7 {A R:List Bx→Nat} (ar:AR A R) {w:World} {h p s x N:Nat} {q:Nat} (g:MM w h p s x ⟨2,[⟨5,1,0⟩,⟨3,4,7⟩],[],[]⟩ N) (hN:N<1000000) (hv:See KU w (.slice (some ⟨q,0,none⟩) 1 1) [7]) :
 Calls Tryz.prog 24 #[.pointer (some ⟨h,0,none⟩),.agg #[.int .u8 13,.int .i64 0,.int .i64 4,.int .i64 0,.int .i64 0,.int .u32 0],.int .i64 0,.int .i64 0,.slice (some ⟨q,0,none⟩) 1 1] w fun e' w'=>e'=.returned (.bool true)∧MM w' h p s x ⟨2,[⟨5,1,0⟩,⟨3,4,7⟩],[],[]⟩ (N+1)∧Upd [p,s,x] w w':=
 tolT ar g hN (⟨13,0,4,0,0,0⟩:OpP) ⟨⟨by decide,by decide,by decide,by decide⟩,by decide,by decide⟩ 0 0 _ [7] hv (by decide) ⟨2,[⟨5,1,0⟩,⟨3,4,7⟩],[],[]⟩ rfl
theorem tol8 {A R:List Bx→Nat} (ar:AR A R) {w:World} {h p s x N:Nat} (g:MM w h p s x ⟨2,[⟨5,1,0⟩,⟨3,4,7⟩],[],[]⟩ N) (hN:N<1000000) :
 Calls Tryz.prog 24 #[.pointer (some ⟨h,0,none⟩),.agg #[.int .u8 13,.int .i64 6,.int .i64 9,.int .i64 0,.int .i64 0,.int .u32 0],.int .i64 0,.int .i64 0,.slice none 0 0] w fun e' w'=>e'=.returned (.bool true)∧MM w' h p s x ⟨2,[⟨5,1,0⟩,⟨3,4,7⟩],[],[]⟩ (N+1)∧Upd [p,s,x] w w':=
 tolT ar g hN (⟨13,6,9,0,0,0⟩:OpP) ⟨⟨by decide,by decide,by decide,by decide⟩,by decide,by decide⟩ 0 0 _ [] (See.nil _ _) (by decide) ⟨2,[⟨5,1,0⟩,⟨3,4,7⟩],[],[]⟩ rfl
theorem tol9 {A R:List Bx→Nat} (ar:AR A R) {w:World} {h p s x N:Nat} {q:Nat} (g:MM w h p s x ⟨2,[⟨5,1,0⟩,⟨3,4,7⟩],[],[]⟩ N) (hN:N<1000000) (hv:See KU w (.slice (some ⟨q,0,none⟩) 2 2) [0,7]) :
 Calls Tryz.prog 24 #[.pointer (some ⟨h,0,none⟩),.agg #[.int .u8 14,.int .i64 0,.int .i64 0,.int .i64 0,.int .i64 0,.int .u32 0],.int .i64 0,.int .i64 0,.slice (some ⟨q,0,none⟩) 2 2] w fun e' w'=>e'=.returned (.bool true)∧MM w' h p s x ⟨2,[⟨5,1,0⟩,⟨3,4,7⟩],[],[]⟩ (N+1)∧Upd [p,s,x] w w':=
 tolT ar g hN (⟨14,0,0,0,0,0⟩:OpP) ⟨⟨by decide,by decide,by decide,by decide⟩,by decide,by decide⟩ 0 0 _ [0,7] hv (by decide) ⟨2,[⟨5,1,0⟩,⟨3,4,7⟩],[],[]⟩ rfl
theorem tol10 {A R:List Bx→Nat} (ar:AR A R) {w:World} {h p s x N:Nat} (g:MM w h p s x ⟨2,[⟨5,1,0⟩,⟨3,4,7⟩],[],[]⟩ N) (hN:N<1000000) :
 Calls Tryz.prog 24 #[.pointer (some ⟨h,0,none⟩),.agg #[.int .u8 2,.int .i64 5,.int .i64 4,.int .i64 0,.int .i64 0,.int .u32 0],.int .i64 261,.int .i64 0,.slice none 0 0] w fun e' w'=>e'=.returned (.bool true)∧MM w' h p s x ⟨2,[⟨5,1,0⟩,⟨3,4,7⟩],[],[]⟩ (N+1)∧Upd [p,s,x] w w':=
 tolT ar g hN (⟨2,5,4,0,0,0⟩:OpP) ⟨⟨by decide,by decide,by decide,by decide⟩,by decide,by decide⟩ 261 0 _ [] (See.nil _ _) (by decide) ⟨2,[⟨5,1,0⟩,⟨3,4,7⟩],[],[]⟩ rfl
theorem tol11 {A R:List Bx→Nat} (ar:AR A R) {w:World} {h p s x N:Nat} (g:MM w h p s x ⟨2,[⟨5,1,0⟩,⟨3,4,7⟩],[],[]⟩ N) (hN:N<1000000) :
 Calls Tryz.prog 24 #[.pointer (some ⟨h,0,none⟩),.agg #[.int .u8 4,.int .i64 0,.int .i64 0,.int .i64 0,.int .i64 0,.int .u32 7],.int .i64 0,.int .i64 1,.slice none 0 0] w fun e' w'=>e'=.returned (.bool true)∧MM w' h p s x ⟨2,[⟨5,1,0⟩],[],[]⟩ (N+1)∧Upd [p,s,x] w w':=
 tolT ar g hN (⟨4,0,0,0,0,7⟩:OpP) ⟨⟨by decide,by decide,by decide,by decide⟩,by decide,by decide⟩ 0 1 _ [] (See.nil _ _) (by decide) ⟨2,[⟨5,1,0⟩],[],[]⟩ rfl
theorem tol12 {A R:List Bx→Nat} (ar:AR A R) {w:World} {h p s x N:Nat} (g:MM w h p s x ⟨2,[⟨5,1,0⟩],[],[]⟩ N) (hN:N<1000000) :
 Calls Tryz.prog 24 #[.pointer (some ⟨h,0,none⟩),.agg #[.int .u8 4,.int .i64 0,.int .i64 0,.int .i64 0,.int .i64 0,.int .u32 7],.int .i64 263,.int .i64 0,.slice none 0 0] w fun e' w'=>e'=.returned (.bool true)∧MM w' h p s x ⟨2,[⟨5,1,0⟩],[],[]⟩ (N+1)∧Upd [p,s,x] w w':=
 tolT ar g hN (⟨4,0,0,0,0,7⟩:OpP) ⟨⟨by decide,by decide,by decide,by decide⟩,by decide,by decide⟩ 263 0 _ [] (See.nil _ _) (by decide) ⟨2,[⟨5,1,0⟩],[],[]⟩ rfl
theorem tol13 {A R:List Bx→Nat} (ar:AR A R) {w:World} {h p s x N:Nat} (g:MM w h p s x ⟨2,[⟨5,1,0⟩],[],[]⟩ N) (hN:N<1000000) :
 Calls Tryz.prog 24 #[.pointer (some ⟨h,0,none⟩),.agg #[.int .u8 0,.int .i64 0,.int .i64 0,.int .i64 0,.int .i64 0,.int .u32 0],.int .i64 260,.int .i64 0,.slice none 0 0] w fun e' w'=>e'=.returned (.bool true)∧MM w' h p s x ⟨2,[⟨5,1,0⟩],[],[]⟩ (N+1)∧Upd [p,s,x] w w':=
 tolT ar g hN (⟨0,0,0,0,0,0⟩:OpP) ⟨⟨by decide,by decide,by decide,by decide⟩,by decide,by decide⟩ 260 0 _ [] (See.nil _ _) (by decide) ⟨2,[⟨5,1,0⟩],[],[]⟩ rfl
theorem tol14 {A R:List Bx→Nat} (ar:AR A R) {w:World} {h p s x N:Nat} (g:MM w h p s x ⟨2,[⟨5,1,0⟩],[],[]⟩ N) (hN:N<1000000) :
 Calls Tryz.prog 24 #[.pointer (some ⟨h,0,none⟩),.agg #[.int .u8 21,.int .i64 0,.int .i64 0,.int .i64 0,.int .i64 0,.int .u32 0],.int .i64 260,.int .i64 0,.slice none 0 0] w fun e' w'=>e'=.returned (.bool true)∧MM w' h p s x ⟨2,[⟨5,1,0⟩],[],[]⟩ (N+1)∧Upd [p,s,x] w w':=
 tolT ar g hN (⟨21,0,0,0,0,0⟩:OpP) ⟨⟨by decide,by decide,by decide,by decide⟩,by decide,by decide⟩ 260 0 _ [] (See.nil _ _) (by decide) ⟨2,[⟨5,1,0⟩],[],[]⟩ rfl
theorem tol15 {A R:List Bx→Nat} (ar:AR A R) {w:World} {h p s x N:Nat} (g:MM w h p s x ⟨2,[⟨5,1,0⟩],[],[]⟩ N) (hN:N<1000000) :
 Calls Tryz.prog 24 #[.pointer (some ⟨h,0,none⟩),.agg #[.int .u8 18,.int .i64 0,.int .i64 0,.int .i64 0,.int .i64 0,.int .u32 0],.int .i64 0,.int .i64 0,.slice none 0 0] w fun e' w'=>e'=.returned (.bool true)∧MM w' h p s x ⟨2,[⟨5,1,0⟩],[],[]⟩ (N+1)∧Upd [p,s,x] w w':=
 tolT ar g hN (⟨18,0,0,0,0,0⟩:OpP) ⟨⟨by decide,by decide,by decide,by decide⟩,by decide,by decide⟩ 0 0 _ [] (See.nil _ _) (by decide) ⟨2,[⟨5,1,0⟩],[],[]⟩ (by have e:doM A R ⟨2,[⟨5,1,0⟩],[],[]⟩ (⟨18,0,0,0,0,0⟩:OpP)=(⟨2,[⟨5,1,0⟩],[],[]⟩,wideR (A [])):=rfl;rw [e,ar.a0];rfl)
theorem awake26 {A R:List Bx→Nat} (ar:AR A R) (w:World):Calls Tryz.prog 6 #[] w fun e w'=>e=.returned (.bool true)∧Upd [] w w':=by
 go_enter Tryz.func6,Tryz.ntmps6
 go_wp2_with fail
 (with_reducible refine (newMC 2 _).mono ?_)
 rintro e w0 ⟨hu,hnew⟩
 rw [if_pos (by omega)] at hnew
 obtain ⟨h,p,s,x,rfl,hmd,g1,g2,g3,g4⟩:=hnew
 have G0:MM w0 h p s x ⟨2,[],[],[]⟩ 0:=⟨hmd,in64_nil _,Nat.le_refl _,Nat.le_refl _,Nat.le_refl _⟩
 have HN:=Lib.hid (And.intro hu (And.intro g1 (And.intro g2 (And.intro g3 g4))))
 have HL:=Lib.hid (And.intro hmd.ps.lt (And.intro hmd.ss.lt hmd.bs.lt))
 clear hu hmd g1 g2 g3 g4
 have HG0:=Lib.hid G0
 clear G0
 go_upto_region 5 with fail
 have HC:=Lib.hid (op_new w0 #[.int .u8 1,.int .i64 3,.int .i64 4,.int .i64 0,.int .i64 0,.int .u32 7])
 have HU0:=Lib.hid ((Upd.refl [p,s,x] w0).alloc (.cells #[.int .u8 1,.int .i64 3,.int .i64 4,.int .i64 0,.int .i64 0,.int .u32 7] 43))
 have HM0:=Lib.hid (HG0.out.upd0 ((Upd.refl [] w0).alloc (.cells #[.int .u8 1,.int .i64 3,.int .i64 4,.int .i64 0,.int .i64 0,.int .u32 7] 43)))
 have HB:=Lib.hid (show w0.heap.size∉[p,s,x] by have:=HL.out;simp only [List.mem_cons,List.not_mem_nil,or_false];omega)
 clear HG0
 generalize hb1:w0.heap.size=b1 at HC HB ⊢
 have HB1:=Lib.hid hb1
 clear hb1
 generalize (w0.alloc (.cells #[.int .u8 1,.int .i64 3,.int .i64 4,.int .i64 0,.int .i64 0,.int .u32 7] 43))=u0 at HC HU0 HM0 ⊢
 have o0:=HC.out 0 _ rfl
 have o1:=HC.out 1 _ rfl
 have o2:=HC.out 2 _ rfl
 have o3:=HC.out 3 _ rfl
 have o4:=HC.out 4 _ rfl
 have o5:=HC.out 5 _ rfl
 go_wp2_with fail
 (with_reducible refine (tol1 ar HM0.out (by decide)).mono ?_)
 rintro e u1 ⟨rfl,hm,hu⟩
 have HM1:=Lib.hid hm
 have HU1:=Lib.hid (HU0.out.trans hu)
 have HCn:=Lib.hid (HC.out.upd hu HB.out)
 clear HC
 have HC:=HCn
 clear HCn
 clear hm hu HM0
 clear o0 o1 o2 o3 o4 o5
 have o0:=HC.out 0 _ rfl
 have o1:=HC.out 1 _ rfl
 have o2:=HC.out 2 _ rfl
 have o3:=HC.out 3 _ rfl
 have o4:=HC.out 4 _ rfl
 have o5:=HC.out 5 _ rfl
 go_wp2_with fail
 (with_reducible refine (tol2 ar HM1.out (by decide)).mono ?_)
 rintro e u2 ⟨rfl,hm,hu⟩
 have HM2:=Lib.hid hm
 have HU2:=Lib.hid (HU1.out.trans hu)
 have HCn:=Lib.hid (HC.out.upd hu HB.out)
 clear HC
 have HC:=HCn
 clear HCn
 clear hm hu HM1
 clear o0 o1 o2 o3 o4 o5
 go_wp2_with fail
 (with_reducible refine (tol3 ar HM2.out (by decide)).mono ?_)
 rintro e u3 ⟨rfl,hm,hu⟩
 have HM3:=Lib.hid hm
 have HU3:=Lib.hid (HU2.out.trans hu)
 clear hm hu HM2
 go_wp2_with fail
 (with_reducible refine (tol4 ar HM3.out (by decide)).mono ?_)
 rintro e u4 ⟨rfl,hm,hu⟩
 have HM4:=Lib.hid hm
 have HU4:=Lib.hid (HU3.out.trans hu)
 clear hm hu HM3
 go_upto_region 7 with fail
 have HS4:=Lib.hid (show See KU (u4.alloc (.cells #[.int .u32 0] 41)) (.slice (some ⟨u4.heap.size,0,none⟩) 1 1) [0] from KU_new u4 [0] 1 rfl (by decide))
 have HMl:=Lib.hid (HM4.out.upd0 ((Upd.refl [] u4).alloc (.cells #[.int .u32 0] 41)))
 have HUl:=Lib.hid (HU4.out.alloc (.cells #[.int .u32 0] 41))
 go_wp2_with fail
 (with_reducible refine (tol5 ar HMl.out (by decide) HS4.out).mono ?_)
 rintro e u5 ⟨rfl,hm,hu⟩
 have HM5:=Lib.hid hm
 have HU5:=Lib.hid (HUl.out.trans hu)
 clear hm hu HM4 HMl HUl HS4
 have HS5:=Lib.hid (show See KU (u5.alloc (.cells #[.int .u32 0,.int .u32 7] 41)) (.slice (some ⟨u5.heap.size,0,none⟩) 2 2) [0,7] from KU_new u5 [0,7] 2 rfl (by decide))
 have HMl:=Lib.hid (HM5.out.upd0 ((Upd.refl [] u5).alloc (.cells #[.int .u32 0,.int .u32 7] 41)))
 have HUl:=Lib.hid (HU5.out.alloc (.cells #[.int .u32 0,.int .u32 7] 41))
 go_wp2_with fail
 (with_reducible refine (tol6 ar HMl.out (by decide) HS5.out).mono ?_)
 rintro e u6 ⟨rfl,hm,hu⟩
 have HM6:=Lib.hid hm
 have HU6:=Lib.hid (HUl.out.trans hu)
 clear hm hu HM5 HMl HUl HS5
 have HS6:=Lib.hid (show See KU (u6.alloc (.cells #[.int .u32 7] 41)) (.slice (some ⟨u6.heap.size,0,none⟩) 1 1) [7] from KU_new u6 [7] 1 rfl (by decide))
 have HMl:=Lib.hid (HM6.out.upd0 ((Upd.refl [] u6).alloc (.cells #[.int .u32 7] 41)))
 have HUl:=Lib.hid (HU6.out.alloc (.cells #[.int .u32 7] 41))
 go_wp2_with fail
 (with_reducible refine (tol7 ar HMl.out (by decide) HS6.out).mono ?_)
 rintro e u7 ⟨rfl,hm,hu⟩
 have HM7:=Lib.hid hm
 have HU7:=Lib.hid (HUl.out.trans hu)
 clear hm hu HM6 HMl HUl HS6
 go_wp2_with fail
 (with_reducible refine (tol8 ar HM7.out (by decide)).mono ?_)
 rintro e u8 ⟨rfl,hm,hu⟩
 have HM8:=Lib.hid hm
 have HU8:=Lib.hid (HU7.out.trans hu)
 clear hm hu HM7
 have HS8:=Lib.hid (show See KU (u8.alloc (.cells #[.int .u32 0,.int .u32 7] 41)) (.slice (some ⟨u8.heap.size,0,none⟩) 2 2) [0,7] from KU_new u8 [0,7] 2 rfl (by decide))
 have HMl:=Lib.hid (HM8.out.upd0 ((Upd.refl [] u8).alloc (.cells #[.int .u32 0,.int .u32 7] 41)))
 have HUl:=Lib.hid (HU8.out.alloc (.cells #[.int .u32 0,.int .u32 7] 41))
 go_wp2_with fail
 (with_reducible refine (tol9 ar HMl.out (by decide) HS8.out).mono ?_)
 rintro e u9 ⟨rfl,hm,hu⟩
 have HM9:=Lib.hid hm
 have HU9:=Lib.hid (HUl.out.trans hu)
 clear hm hu HM8 HMl HUl HS8
 go_upto_region 10 with fail
 have HD:=Lib.hid (op_new u9 #[.int .u8 4,.int .i64 0,.int .i64 0,.int .i64 0,.int .i64 0,.int .u32 7])
 have HM:=Lib.hid (HM9.out.upd0 ((Upd.refl [] u9).alloc (.cells #[.int .u8 4,.int .i64 0,.int .i64 0,.int .i64 0,.int .i64 0,.int .u32 7] 43)))
 have HU:=Lib.hid (HU9.out.alloc (.cells #[.int .u8 4,.int .i64 0,.int .i64 0,.int .i64 0,.int .i64 0,.int .u32 7] 43))
 have HE:=Lib.hid (show u9.heap.size∉[p,s,x] by have:=HL.out;have:=HU9.out.size;simp only [List.mem_cons,List.not_mem_nil,or_false];omega)
 clear HM9 HU9
 generalize u9.heap.size=b2 at HD HE ⊢
 generalize (u9.alloc (.cells #[.int .u8 4,.int .i64 0,.int .i64 0,.int .i64 0,.int .i64 0,.int .u32 7] 43))=v9 at HD HM HU ⊢
 have HM9:=HM
 have HU9:=HU
 clear HM HU
 go_wp2_with fail
 (with_reducible refine (tol10 ar HM9.out (by decide)).mono ?_)
 rintro e u10 ⟨rfl,hm,hu⟩
 have HM10:=Lib.hid hm
 have HU10:=Lib.hid (HU9.out.trans hu)
 have HDn:=Lib.hid (HD.out.upd hu HE.out)
 clear HD
 have HD:=HDn
 clear HDn
 clear hm hu HM9
 have o0:=HD.out 0 _ rfl
 have o1:=HD.out 1 _ rfl
 have o2:=HD.out 2 _ rfl
 have o3:=HD.out 3 _ rfl
 have o4:=HD.out 4 _ rfl
 have o5:=HD.out 5 _ rfl
 go_wp2_with fail
 (with_reducible refine (tol11 ar HM10.out (by decide)).mono ?_)
 rintro e u11 ⟨rfl,hm,hu⟩
 have HM11:=Lib.hid hm
 have HU11:=Lib.hid (HU10.out.trans hu)
 have HDn:=Lib.hid (HD.out.upd hu HE.out)
 clear HD
 have HD:=HDn
 clear HDn
 clear hm hu HM10
 clear o0 o1 o2 o3 o4 o5
 have o0:=HD.out 0 _ rfl
 have o1:=HD.out 1 _ rfl
 have o2:=HD.out 2 _ rfl
 have o3:=HD.out 3 _ rfl
 have o4:=HD.out 4 _ rfl
 have o5:=HD.out 5 _ rfl
 go_wp2_with fail
 (with_reducible refine (tol12 ar HM11.out (by decide)).mono ?_)
 rintro e u12 ⟨rfl,hm,hu⟩
 have HM12:=Lib.hid hm
 have HU12:=Lib.hid (HU11.out.trans hu)
 have HDn:=Lib.hid (HD.out.upd hu HE.out)
 clear HD
 have HD:=HDn
 clear HDn
 clear hm hu HM11
 clear o0 o1 o2 o3 o4 o5
 go_wp2_with fail
 (with_reducible refine (tol13 ar HM12.out (by decide)).mono ?_)
 rintro e u13 ⟨rfl,hm,hu⟩
 have HM13:=Lib.hid hm
 have HU13:=Lib.hid (HU12.out.trans hu)
 clear hm hu HM12
 go_wp2_with fail
 (with_reducible refine (tol14 ar HM13.out (by decide)).mono ?_)
 rintro e u14 ⟨rfl,hm,hu⟩
 have HM14:=Lib.hid hm
 have HU14:=Lib.hid (HU13.out.trans hu)
 clear hm hu HM13
 go_wp2_with fail
 (with_reducible refine (tol15 ar HM14.out (by decide)).mono ?_)
 rintro e u15 ⟨rfl,hm,hu⟩
 have HM15:=Lib.hid hm
 have HU15:=Lib.hid (HU14.out.trans hu)
 clear hm hu HM14
 go_wp2_with fail
 go_ret
 refine ⟨rfl,HN.out.1.trans' HU15.out (fun y hy=>.inr ?_)⟩
 simp only [List.mem_cons,List.not_mem_nil,or_false] at hy
 have:=HN.out
 omega
structure RMd (w:World) (r:Nat) (m:Md) (AP:Option Addr) (CP:Nat) (AS:Option Addr) (CS:Nat) (AB:Option Addr) (CB:Nat):Prop where
 head:HpC w r #[.int .i64 (m.room:Int),.slice AP m.ps.length CP,.slice AS m.ss.length CS,.slice AB m.bs.length CB] 33
 ps:See KPt w (.slice AP m.ps.length CP) m.ps
 ss:See KSp w (.slice AS m.ss.length CS) m.ss
 bs:See KBx w (.slice AB m.bs.length CB) m.bs
 np:r∉blk (.slice AP m.ps.length CP)
 ns:r∉blk (.slice AS m.ss.length CS)
 nb:r∉blk (.slice AB m.bs.length CB)
theorem RMd.upd0 {w w':World} {r:Nat} {m:Md} {AP AS AB:Option Addr} {CP CS CB:Nat} (h:RMd w r m AP CP AS CS AB CB) (hu:Upd [] w w'):RMd w' r m AP CP AS CS AB CB:=
 ⟨h.head.upd hu (by simp),h.ps.upd0 hu,h.ss.upd0 hu,h.bs.upd0 hu,h.np,h.ns,h.nb⟩
theorem RMd.cells {w:World} {r:Nat} {m:Md} {AP AS AB:Option Addr} {CP CS CB:Nat} (h:RMd w r m AP CP AS CS AB CB) :
 w.cell? ⟨r,0,none⟩=some (.int .i64 (m.room:Int))∧w.cell? ⟨r,1,none⟩=some (.slice AP m.ps.length CP)∧w.cell? ⟨r,2,none⟩=some (.slice AS m.ss.length CS)∧w.cell? ⟨r,3,none⟩=some (.slice AB m.bs.length CB):=
 ⟨h.head.cell 0,h.head.cell 1,h.head.cell 2,h.head.cell 3⟩
theorem rwrong (e:Int) (w:World):Calls Tryz.prog 25 #[.int .i64 e] w fun x w'=>x=.returned (.agg #[.int .i64 e,.slice none 0 0,.int .i64 0,.bool false,.int .u64 0,.int .u64 0])∧Upd [] w w':=by
 go_enter Tryz.func25,Tryz.ntmps25
 go_wp2_with fail
 have hz:HpC (w.alloc (.cells #[.int .i64 e,.slice none 0 0,.int .i64 0,.bool false,.int .u64 0,.int .u64 0] 39)) w.heap.size #[.int .i64 e,.slice none 0 0,.int .i64 0,.bool false,.int .u64 0,.int .u64 0] 39:=heap_alloc_new w _
 have z0:=hz.cell 0
 have z1:=hz.cell 1
 have z2:=hz.cell 2
 have z3:=hz.cell 3
 have z4:=hz.cell 4
 have z5:=hz.cell 5
 simp only [List.getElem?_toArray,List.getElem?_cons_zero,List.getElem?_cons_succ] at z0 z1 z2 z3 z4 z5
 exact bodyPost_ret (v:=.agg #[.int .i64 e,.slice none 0 0,.int .i64 0,.bool false,.int .u64 0,.int .u64 0]) (by simp [results,Tryz.results25,go_sem,z0,z1,z2,z3,z4,z5]) rfl ⟨rfl,(Upd.refl _ _).alloc _⟩
def PlaceIs (l:List Nat) (id at':Nat) (there:Bool):Prop:=at'≤l.length∧(∀j x,j<at'→l[j]? = some x→x<id)∧(∀x,l[at']? = some x→id≤x)∧(there=true↔l[at']? = some id)
theorem rplace (v:Value) (l:List Nat) (id:Nat) (w:World) (hv:See KU w v l) (hl:l.length<1000000) :
 Calls Tryz.prog 52 #[v,.int .u32 (id:Int)] w fun e w'=>∃(k:Nat) (b:Bool),e=.returned (.tuple #[.int .i64 (k:Int),.bool b])∧PlaceIs l id k b∧Upd [] w w':=by
 obtain ⟨A,C,rfl⟩:=hv.form
 obtain ⟨n,hn⟩:∃n,l.length=n:=⟨_,rfl⟩
 rw [hn] at hv hl ⊢
 have HV:=Lib.hid (And.intro hv hn)
 have n1:(n:Int)<1000000:=by omega
 have n0:(0:Int)≤(n:Int):=Int.natCast_nonneg _
 clear hv hn hl
 go_enter Tryz.func52,Tryz.ntmps52
 go_wp2_with fail
 go_loopg [6] n (fun m s6 wr=>∃i:Nat,m+i=n∧s6=.int .i64 (i:Int)∧w=wr∧∀j x,j<i→l[j]? = some x→x<id)
 case atStart=>exact ⟨0,rfl,rfl,rfl,by intro j x hj;omega⟩
 case round=>
  obtain ⟨i,hi,rfl,rfl,hp⟩:=hrel
  have HI:=Lib.hid (And.intro hi hp)
  have i0:(0:Int)≤(i:Int):=Int.natCast_nonneg _
  have i3:(i:Int)<2000000:=by omega
  by_cases hlt:i<n
  ·have i1:(i:Int)<(n:Int):=by omega
   obtain ⟨b,hb⟩:∃b,l[i]? = some b:=⟨_,List.getElem?_eq_getElem (by rw [HV.out.2];exact hlt)⟩
   obtain ⟨g,o,hA,-,-,c0⟩:=KU.at HV.out.1 hb
   subst hA
   have HLT:=Lib.hid (And.intro hlt hb)
   clear hb hlt hi hp
   by_cases hne:b<id
   ·have e1:decide ((b:Int)<(id:Int))=true:=decide_eq_true (by omega)
    have e2:decide (b<id)=true:=decide_eq_true hne
    have HNE:=Lib.hid hne
    clear hne
    go_wp2_with fail
    go_roundg (n - (i+1))
    case measure=>have:=HI.out;have:=HLT.out;omega
    case rel=>
     refine ⟨i+1,by have:=HI.out;have:=HLT.out;omega,by go_num,rfl,fun j x hj hx=>?_⟩
     by_cases e:j=i
     ·subst e;rw [HLT.out.2] at hx;cases hx;exact HNE.out
     ·exact HI.out.2 j x (by omega) hx
   ·have e1:decide ((b:Int)<(id:Int))=false:=decide_eq_false (by omega)
    have e2:decide (b<id)=false:=decide_eq_false hne
    have HNE:=Lib.hid hne
    clear hne
    obtain ⟨t,ht⟩:∃t,(b==id)=t:=⟨_,rfl⟩
    have ht':((b:Int)==(id:Int))=t:=by rw [←ht];rw [Bool.eq_iff_iff];simp;omega
    have HT:=Lib.hid ht
    have d1:decide (i<n)=true:=decide_eq_true HLT.out.1
    clear ht
    go_wp2_with fail
    clear e1 e2
    go_quiet (fail)
    go_wp2_with fail
    refine bodyPost_ret (v:=.tuple #[.int .i64 (i:Int),.bool t]) (by simp [results,Tryz.results52,go_sem]) rfl ?_
    refine ⟨i,t,rfl,⟨by have:=HLT.out.1;have:=HV.out.2;omega,HI.out.2,fun x hx=>?_,?_⟩,(Upd.refl _ _).drewN nq⟩
    ·rw [HLT.out.2] at hx;cases hx;have:=HNE.out;omega
    ·rw [HLT.out.2,←HT.out];simp
  ·have d1:decide (i<n)=false:=decide_eq_false hlt
   have HE:=Lib.hid hlt
   clear hi hp hlt
   go_wp2_with fail
   go_quiet (fail)
   go_wp2_with fail
   refine bodyPost_ret (v:=.tuple #[.int .i64 (i:Int),.bool false]) (by simp [results,Tryz.results52,go_sem]) rfl ?_
   have hnone:l[i]? = none:=List.getElem?_eq_none (by have:=HV.out.2;have:=HE.out;omega)
   refine ⟨i,false,rfl,⟨by have:=HI.out.1;have:=HV.out.2;omega,HI.out.2,fun x hx=>?_,?_⟩,(Upd.refl _ _).drewN nq⟩
   ·rw [hnone] at hx;cases hx
   ·rw [hnone];simp
def RowPostM (w:World) (L:List Nat) (e:Ending) (w':World):Prop:=∃A C,e=.returned (.slice A L.length C)∧KU.row w' w.heap.size (.slice A L.length C) L∧Upd [] w w'
theorem rnames1 {w:World} {r:Nat} {m:Md} {AP AS AB:Option Addr} {CP CS CB:Nat} (h:RMd w r m AP CP AS CS AB CB) (hl:m.ps.length<1000000) :
 Calls Tryz.prog 51 #[.pointer (some ⟨r,0,none⟩),.int .u8 1] w (RowPostM w (m.ps.map Pt.id)):=by
 obtain ⟨i0,hi,hz0,hz1,hz2⟩:=info_parts info_u32
 unfold RowPostM
 rw [List.length_map]
 have H:=Lib.hid h
 obtain ⟨c0,c1,c2,c3⟩:=h.cells
 have HC:=Lib.hid (And.intro c0 (And.intro c1 (And.intro c2 c3)))
 clear h c0 c1 c2 c3
 obtain ⟨l,hM⟩:∃l,m.ps=l:=⟨_,rfl⟩
 obtain ⟨n1,hn⟩:∃n,m.ps.length=n:=⟨_,rfl⟩
 obtain ⟨n2,hn2⟩:∃n,m.ss.length=n:=⟨_,rfl⟩
 obtain ⟨n3,hn3⟩:∃n,m.bs.length=n:=⟨_,rfl⟩
 have HS:=Lib.hid H.out.ps
 have HCC:=Lib.hid HC.out
 rw [hn] at HS HCC hl ⊢
 rw [hn2,hn3] at HCC
 have HN:=Lib.hid hn
 have q0:(0:Int)≤(n1:Int):=Int.natCast_nonneg _
 have q1:(n1:Int)<1000000:=by omega
 have q2a:(0:Int)≤(n2:Int):=Int.natCast_nonneg _
 have q3a:(0:Int)≤(n3:Int):=Int.natCast_nonneg _
 clear hn hn2 hn3 hl H HC
 rw [hM] at HS HN ⊢
 clear hM
 obtain ⟨L,hL⟩:∃L,l.map Pt.id=L:=⟨_,rfl⟩
 have HL:=Lib.hid hL
 rw [hL]
 clear hL
 obtain ⟨c0,c1,c2,c3⟩:=HCC.out
 go_enter Tryz.func51,Tryz.ntmps51
 go_upto_region 1 with fail
 go_step
 go_step
 go_step
 go_step
 go_step
 go_step
 go_step
 go_step
 go_cut [5] (fun s5 we=>∃A C,s5=.slice A n1 C∧KU.row we w.heap.size (.slice A n1 C) L∧Upd [] w we)
 case first=>
  go_wp2_with fail
  go_loopg [5,6] n1 (fun m s5 s6 wr=>∃(i:Nat) (A:Option Addr) (C:Nat),m+i=n1∧s5=.slice A i C∧s6=.int .i64 (i:Int)∧KU.row wr w.heap.size (.slice A i C) (L.take i)∧Upd [] w wr)
  case atStart=>exact ⟨0,none,0,rfl,rfl,rfl,World.ownsRow_nil _ _ _ _,Upd.refl _ _⟩
  case round=>
   obtain ⟨i,A2,C2,hi',rfl,rfl,hrow,hup⟩:=hrel
   have i0':(0:Int)≤(i:Int):=Int.natCast_nonneg _
   have hiN:i≤n1:=by omega
   have hwz:=hup.size
   have hMl:(L.take i).length=i:=by rw [List.length_take,←HL.out,List.length_map,HN.out];omega
   obtain ⟨c0,c1,c2,c3⟩:=HCC.out
   have cx:=(hup.cell (World.block_lt_of_cell? _ _ c1) (by simp)).trans c1
   clear c0 c1 c2 c3
   by_cases hlt:i<n1
   ·obtain ⟨x,hx⟩:∃x,l[i]? = some x:=⟨_,List.getElem?_eq_getElem (by rw [HN.out];exact hlt)⟩
    obtain ⟨g,o,rfl,-,-,e0,e1,e2⟩:=KPt.at (HS.out.upd0 hup) hx
    have hrow2:=hrow
    unfold Kind.row at hrow2
    rw [hMl] at hrow2
    have b1:(i:Int)<(n1:Int):=by omega
    have b2:decide (i<n1)=true:=decide_eq_true hlt
    have hnext:L.take (i+1)=L.take i++[x.id]:=by
     have hx':L[i]? = some x.id:=by rw [←HL.out,List.getElem?_map,hx];rfl
     obtain ⟨g1,g2⟩:=List.getElem?_eq_some_iff.1 hx'
     rw [List.take_succ_eq_append_getElem g1,g2]
    have HI:=Lib.hid (And.intro hi' (And.intro hup (And.intro hrow2 (And.intro hMl hnext))))
    clear hi' hup hrow hrow2 hMl hnext hx hlt
    go_wp2_with (at_builtin;refine wpList_app _ rfl _ _ 34 rfl w.heap.size 41 i0 (.int .u32 0) 1 4 Tryz.underlying34 hi hz0 hz1 hz2 rfl (by decide) _ i (KU.all (L.take i)) rfl (own_upd HI.out.2.2.1 ((Upd.refl [] _).alloc _) (by simp)) _ 1 [.int .u32 (x.id:Int)] rfl (sees_lit wr #[.int .u32 (x.id:Int)] 41 1 1 rfl (by decide)) (by simp [Value.oneCell']) (by unfold maxLen;omega) (by omega) (by simp;omega) ?_)
    intro A3 C3 W3 HP3
    have hrow3:KU.row W3 w.heap.size (.slice A3 (i+1) C3) (L.take (i+1)):=by
     rw [HI.out.2.2.2.2]
     unfold Kind.row
     rw [List.length_append,HI.out.2.2.2.1,KU.all_app]
     exact HP3.own
    have hu3:Upd [] w W3:=(HI.out.2.1.alloc _).trans' HP3.upd (fun y hy=>.inr (own_ge HI.out.2.2.1 y hy))
    have H3:=Lib.hid (And.intro hrow3 hu3)
    clear hrow3 hu3 HP3 cx e0 e1 e2
    go_wp2_with fail
    go_roundg (n1 - (i+1))
    case measure=>have:=HI.out.1;omega
    case rel=>exact ⟨i+1,A3,C3,by have:=HI.out.1;omega,by go_num,by go_num,H3.out.1,H3.out.2⟩
   ·have hfin:L.take i=L:=by rw [List.take_of_length_le];rw [←HL.out,List.length_map,HN.out];omega
    have hin:i=n1:=by omega
    rw [hfin] at hrow
    have b2:decide (i<n1)=false:=decide_eq_false hlt
    have HF:=Lib.hid (And.intro hrow hup)
    clear hrow hup hMl hfin hi' hlt
    subst hin
    go_wp2_with fail
    go_meet
    case rel=>exact ⟨A2,C2,rfl,HF.out.1,HF.out.2⟩
 obtain ⟨Ao,Co,rfl,hro,huo⟩:=hcut
 obtain ⟨wo,rfl⟩:∃W:World,W=wc:=⟨_,rfl⟩
 have HO:=Lib.hid (And.intro hro huo)
 clear hro huo
 obtain ⟨c0,c1,c2,c3⟩:=HCC.out
 have c0:=(HO.out.2.cell (World.block_lt_of_cell? _ _ c0) (by simp)).trans c0
 have c1:=(HO.out.2.cell (World.block_lt_of_cell? _ _ c1) (by simp)).trans c1
 have c2:=(HO.out.2.cell (World.block_lt_of_cell? _ _ c2) (by simp)).trans c2
 have c3:=(HO.out.2.cell (World.block_lt_of_cell? _ _ c3) (by simp)).trans c3
 go_step
 go_step
 go_cut [5,7] (fun s5 s6 we=>s5=.slice Ao n1 Co∧wo=we)
 case first=>
  go_wp2_with fail
  go_loopg [5,7] 0 (fun m s5 s wr=>s5=.slice Ao n1 Co∧s=.int .i64 0∧wo=wr)
  case atStart=>exact ⟨rfl,rfl,rfl⟩
  case round=>
   obtain ⟨rfl,rfl,rfl⟩:=hrel
   by_cases hz:0<n2
   ·have d2:decide (0<n2)=true:=decide_eq_true hz
    go_wp2_with fail
    go_meet
    case rel=>exact ⟨rfl,rfl⟩
   ·have d2:n2=0:=by omega
    subst d2
    go_wp2_with fail
    go_meet
    case rel=>exact ⟨rfl,rfl⟩
 obtain ⟨rfl,rfl⟩:=hcut
 go_step
 go_step
 go_cut [5,8] (fun s5 s6 we=>s5=.slice Ao n1 Co∧wo=we)
 case first=>
  go_wp2_with fail
  go_loopg [5,8] 0 (fun m s5 s wr=>s5=.slice Ao n1 Co∧s=.int .i64 0∧wo=wr)
  case atStart=>exact ⟨rfl,rfl,rfl⟩
  case round=>
   obtain ⟨rfl,rfl,rfl⟩:=hrel
   by_cases hz:0<n3
   ·have d3:decide (0<n3)=true:=decide_eq_true hz
    go_wp2_with fail
    go_meet
    case rel=>exact ⟨rfl,rfl⟩
   ·have d3:n3=0:=by omega
    subst d3
    go_wp2_with fail
    go_meet
    case rel=>exact ⟨rfl,rfl⟩
 obtain ⟨rfl,rfl⟩:=hcut
 go_wp2_with fail
 go_ret
 exact ⟨Ao,Co,rfl,HO.out.1,HO.out.2⟩
theorem rnames2 {w:World} {r:Nat} {m:Md} {AP AS AB:Option Addr} {CP CS CB:Nat} (h:RMd w r m AP CP AS CS AB CB) (hl:m.ss.length<1000000) :
 Calls Tryz.prog 51 #[.pointer (some ⟨r,0,none⟩),.int .u8 2] w (RowPostM w (m.ss.map Sp.id)):=by
 obtain ⟨i0,hi,hz0,hz1,hz2⟩:=info_parts info_u32
 unfold RowPostM
 rw [List.length_map]
 have H:=Lib.hid h
 obtain ⟨c0,c1,c2,c3⟩:=h.cells
 have HC:=Lib.hid (And.intro c0 (And.intro c1 (And.intro c2 c3)))
 clear h c0 c1 c2 c3
 obtain ⟨l,hM⟩:∃l,m.ss=l:=⟨_,rfl⟩
 obtain ⟨n2,hn⟩:∃n,m.ss.length=n:=⟨_,rfl⟩
 obtain ⟨n1,hn1⟩:∃n,m.ps.length=n:=⟨_,rfl⟩
 obtain ⟨n3,hn3⟩:∃n,m.bs.length=n:=⟨_,rfl⟩
 have HS:=Lib.hid H.out.ss
 have HCC:=Lib.hid HC.out
 rw [hn] at HS HCC hl ⊢
 rw [hn1,hn3] at HCC
 have HN:=Lib.hid hn
 have q0:(0:Int)≤(n2:Int):=Int.natCast_nonneg _
 have q1:(n2:Int)<1000000:=by omega
 have q1a:(0:Int)≤(n1:Int):=Int.natCast_nonneg _
 have q3a:(0:Int)≤(n3:Int):=Int.natCast_nonneg _
 clear hn hn1 hn3 hl H HC
 rw [hM] at HS HN ⊢
 clear hM
 obtain ⟨L,hL⟩:∃L,l.map Sp.id=L:=⟨_,rfl⟩
 have HL:=Lib.hid hL
 rw [hL]
 clear hL
 obtain ⟨c0,c1,c2,c3⟩:=HCC.out
 go_enter Tryz.func51,Tryz.ntmps51
 go_upto_region 1 with fail
 go_step
 go_step
 go_step
 go_step
 go_step
 go_step
 go_step
 go_step
 go_cut [5,6] (fun s5 s6 we=>s5=.slice none 0 0∧w=we)
 case first=>
  go_wp2_with fail
  go_loopg [5,6] 0 (fun m s5 s wr=>s5=.slice none 0 0∧s=.int .i64 0∧w=wr)
  case atStart=>exact ⟨rfl,rfl,rfl⟩
  case round=>
   obtain ⟨rfl,rfl,rfl⟩:=hrel
   by_cases hz:0<n1
   ·have d1:decide (0<n1)=true:=decide_eq_true hz
    go_wp2_with fail
    go_meet
    case rel=>exact ⟨rfl,rfl⟩
   ·have d1:n1=0:=by omega
    subst d1
    go_wp2_with fail
    go_meet
    case rel=>exact ⟨rfl,rfl⟩
 obtain ⟨rfl,rfl⟩:=hcut
 go_step
 go_step
 go_cut [5] (fun s5 we=>∃A C,s5=.slice A n2 C∧KU.row we w.heap.size (.slice A n2 C) L∧Upd [] w we)
 case first=>
  go_wp2_with fail
  go_loopg [5,7] n2 (fun m s5 s6 wr=>∃(i:Nat) (A:Option Addr) (C:Nat),m+i=n2∧s5=.slice A i C∧s6=.int .i64 (i:Int)∧KU.row wr w.heap.size (.slice A i C) (L.take i)∧Upd [] w wr)
  case atStart=>exact ⟨0,none,0,rfl,rfl,rfl,World.ownsRow_nil _ _ _ _,Upd.refl _ _⟩
  case round=>
   obtain ⟨i,A2,C2,hi',rfl,rfl,hrow,hup⟩:=hrel
   have i0':(0:Int)≤(i:Int):=Int.natCast_nonneg _
   have hiN:i≤n2:=by omega
   have hwz:=hup.size
   have hMl:(L.take i).length=i:=by rw [List.length_take,←HL.out,List.length_map,HN.out];omega
   obtain ⟨c0,c1,c2,c3⟩:=HCC.out
   have cx:=(hup.cell (World.block_lt_of_cell? _ _ c2) (by simp)).trans c2
   clear c0 c1 c2 c3
   by_cases hlt:i<n2
   ·obtain ⟨x,hx⟩:∃x,l[i]? = some x:=⟨_,List.getElem?_eq_getElem (by rw [HN.out];exact hlt)⟩
    obtain ⟨g,o,rfl,-,-,e0,e1,e2⟩:=KSp.at (HS.out.upd0 hup) hx
    have hrow2:=hrow
    unfold Kind.row at hrow2
    rw [hMl] at hrow2
    have b1:(i:Int)<(n2:Int):=by omega
    have b2:decide (i<n2)=true:=decide_eq_true hlt
    have hnext:L.take (i+1)=L.take i++[x.id]:=by
     have hx':L[i]? = some x.id:=by rw [←HL.out,List.getElem?_map,hx];rfl
     obtain ⟨g1,g2⟩:=List.getElem?_eq_some_iff.1 hx'
     rw [List.take_succ_eq_append_getElem g1,g2]
    have HI:=Lib.hid (And.intro hi' (And.intro hup (And.intro hrow2 (And.intro hMl hnext))))
    clear hi' hup hrow hrow2 hMl hnext hx hlt
    go_wp2_with (at_builtin;refine wpList_app _ rfl _ _ 34 rfl w.heap.size 41 i0 (.int .u32 0) 1 4 Tryz.underlying34 hi hz0 hz1 hz2 rfl (by decide) _ i (KU.all (L.take i)) rfl (own_upd HI.out.2.2.1 ((Upd.refl [] _).alloc _) (by simp)) _ 1 [.int .u32 (x.id:Int)] rfl (sees_lit wr #[.int .u32 (x.id:Int)] 41 1 1 rfl (by decide)) (by simp [Value.oneCell']) (by unfold maxLen;omega) (by omega) (by simp;omega) ?_)
    intro A3 C3 W3 HP3
    have hrow3:KU.row W3 w.heap.size (.slice A3 (i+1) C3) (L.take (i+1)):=by
     rw [HI.out.2.2.2.2]
     unfold Kind.row
     rw [List.length_append,HI.out.2.2.2.1,KU.all_app]
     exact HP3.own
    have hu3:Upd [] w W3:=(HI.out.2.1.alloc _).trans' HP3.upd (fun y hy=>.inr (own_ge HI.out.2.2.1 y hy))
    have H3:=Lib.hid (And.intro hrow3 hu3)
    clear hrow3 hu3 HP3 cx e0 e1 e2
    go_wp2_with fail
    go_roundg (n2 - (i+1))
    case measure=>have:=HI.out.1;omega
    case rel=>exact ⟨i+1,A3,C3,by have:=HI.out.1;omega,by go_num,by go_num,H3.out.1,H3.out.2⟩
   ·have hfin:L.take i=L:=by rw [List.take_of_length_le];rw [←HL.out,List.length_map,HN.out];omega
    have hin:i=n2:=by omega
    rw [hfin] at hrow
    have b2:decide (i<n2)=false:=decide_eq_false hlt
    have HF:=Lib.hid (And.intro hrow hup)
    clear hrow hup hMl hfin hi' hlt
    subst hin
    go_wp2_with fail
    go_meet
    case rel=>exact ⟨A2,C2,rfl,HF.out.1,HF.out.2⟩
 obtain ⟨Ao,Co,rfl,hro,huo⟩:=hcut
 obtain ⟨wo,rfl⟩:∃W:World,W=wc:=⟨_,rfl⟩
 have HO:=Lib.hid (And.intro hro huo)
 clear hro huo
 obtain ⟨c0,c1,c2,c3⟩:=HCC.out
 have c0:=(HO.out.2.cell (World.block_lt_of_cell? _ _ c0) (by simp)).trans c0
 have c1:=(HO.out.2.cell (World.block_lt_of_cell? _ _ c1) (by simp)).trans c1
 have c2:=(HO.out.2.cell (World.block_lt_of_cell? _ _ c2) (by simp)).trans c2
 have c3:=(HO.out.2.cell (World.block_lt_of_cell? _ _ c3) (by simp)).trans c3
 go_step
 go_step
 go_cut [5,8] (fun s5 s6 we=>s5=.slice Ao n2 Co∧wo=we)
 case first=>
  go_wp2_with fail
  go_loopg [5,8] 0 (fun m s5 s wr=>s5=.slice Ao n2 Co∧s=.int .i64 0∧wo=wr)
  case atStart=>exact ⟨rfl,rfl,rfl⟩
  case round=>
   obtain ⟨rfl,rfl,rfl⟩:=hrel
   by_cases hz:0<n3
   ·have d3:decide (0<n3)=true:=decide_eq_true hz
    go_wp2_with fail
    go_meet
    case rel=>exact ⟨rfl,rfl⟩
   ·have d3:n3=0:=by omega
    subst d3
    go_wp2_with fail
    go_meet
    case rel=>exact ⟨rfl,rfl⟩
 obtain ⟨rfl,rfl⟩:=hcut
 go_wp2_with fail
 go_ret
 exact ⟨Ao,Co,rfl,HO.out.1,HO.out.2⟩
theorem rnames3 {w:World} {r:Nat} {m:Md} {AP AS AB:Option Addr} {CP CS CB:Nat} (h:RMd w r m AP CP AS CS AB CB) (hl:m.bs.length<1000000) :
 Calls Tryz.prog 51 #[.pointer (some ⟨r,0,none⟩),.int .u8 3] w (RowPostM w (m.bs.map Bx.id)):=by
 obtain ⟨i0,hi,hz0,hz1,hz2⟩:=info_parts info_u32
 unfold RowPostM
 rw [List.length_map]
 have H:=Lib.hid h
 obtain ⟨c0,c1,c2,c3⟩:=h.cells
 have HC:=Lib.hid (And.intro c0 (And.intro c1 (And.intro c2 c3)))
 clear h c0 c1 c2 c3
 obtain ⟨l,hM⟩:∃l,m.bs=l:=⟨_,rfl⟩
 obtain ⟨n3,hn⟩:∃n,m.bs.length=n:=⟨_,rfl⟩
 obtain ⟨n1,hn1⟩:∃n,m.ps.length=n:=⟨_,rfl⟩
 obtain ⟨n2,hn2⟩:∃n,m.ss.length=n:=⟨_,rfl⟩
 have HS:=Lib.hid H.out.bs
 have HCC:=Lib.hid HC.out
 rw [hn] at HS HCC hl ⊢
 rw [hn1,hn2] at HCC
 have HN:=Lib.hid hn
 have q0:(0:Int)≤(n3:Int):=Int.natCast_nonneg _
 have q1:(n3:Int)<1000000:=by omega
 have q1a:(0:Int)≤(n1:Int):=Int.natCast_nonneg _
 have q2a:(0:Int)≤(n2:Int):=Int.natCast_nonneg _
 clear hn hn1 hn2 hl H HC
 rw [hM] at HS HN ⊢
 clear hM
 obtain ⟨L,hL⟩:∃L,l.map Bx.id=L:=⟨_,rfl⟩
 have HL:=Lib.hid hL
 rw [hL]
 clear hL
 obtain ⟨c0,c1,c2,c3⟩:=HCC.out
 go_enter Tryz.func51,Tryz.ntmps51
 go_upto_region 1 with fail
 go_step
 go_step
 go_step
 go_step
 go_step
 go_step
 go_step
 go_step
 go_cut [5,6] (fun s5 s6 we=>s5=.slice none 0 0∧w=we)
 case first=>
  go_wp2_with fail
  go_loopg [5,6] 0 (fun m s5 s wr=>s5=.slice none 0 0∧s=.int .i64 0∧w=wr)
  case atStart=>exact ⟨rfl,rfl,rfl⟩
  case round=>
   obtain ⟨rfl,rfl,rfl⟩:=hrel
   by_cases hz:0<n1
   ·have d1:decide (0<n1)=true:=decide_eq_true hz
    go_wp2_with fail
    go_meet
    case rel=>exact ⟨rfl,rfl⟩
   ·have d1:n1=0:=by omega
    subst d1
    go_wp2_with fail
    go_meet
    case rel=>exact ⟨rfl,rfl⟩
 obtain ⟨rfl,rfl⟩:=hcut
 go_step
 go_step
 go_cut [5,7] (fun s5 s6 we=>s5=.slice none 0 0∧w=we)
 case first=>
  go_wp2_with fail
  go_loopg [5,7] 0 (fun m s5 s wr=>s5=.slice none 0 0∧s=.int .i64 0∧w=wr)
  case atStart=>exact ⟨rfl,rfl,rfl⟩
  case round=>
   obtain ⟨rfl,rfl,rfl⟩:=hrel
   by_cases hz:0<n2
   ·have d2:decide (0<n2)=true:=decide_eq_true hz
    go_wp2_with fail
    go_meet
    case rel=>exact ⟨rfl,rfl⟩
   ·have d2:n2=0:=by omega
    subst d2
    go_wp2_with fail
    go_meet
    case rel=>exact ⟨rfl,rfl⟩
 obtain ⟨rfl,rfl⟩:=hcut
 go_step
 go_step
 go_cut [5] (fun s5 we=>∃A C,s5=.slice A n3 C∧KU.row we w.heap.size (.slice A n3 C) L∧Upd [] w we)
 case first=>
  go_wp2_with fail
  go_loopg [5,8] n3 (fun m s5 s6 wr=>∃(i:Nat) (A:Option Addr) (C:Nat),m+i=n3∧s5=.slice A i C∧s6=.int .i64 (i:Int)∧KU.row wr w.heap.size (.slice A i C) (L.take i)∧Upd [] w wr)
  case atStart=>exact ⟨0,none,0,rfl,rfl,rfl,World.ownsRow_nil _ _ _ _,Upd.refl _ _⟩
  case round=>
   obtain ⟨i,A2,C2,hi',rfl,rfl,hrow,hup⟩:=hrel
   have i0':(0:Int)≤(i:Int):=Int.natCast_nonneg _
   have hiN:i≤n3:=by omega
   have hwz:=hup.size
   have hMl:(L.take i).length=i:=by rw [List.length_take,←HL.out,List.length_map,HN.out];omega
   obtain ⟨c0,c1,c2,c3⟩:=HCC.out
   have cx:=(hup.cell (World.block_lt_of_cell? _ _ c3) (by simp)).trans c3
   clear c0 c1 c2 c3
   by_cases hlt:i<n3
   ·obtain ⟨x,hx⟩:∃x,l[i]? = some x:=⟨_,List.getElem?_eq_getElem (by rw [HN.out];exact hlt)⟩
    obtain ⟨g,o,rfl,-,-,e0,e1,e2,e3,e4⟩:=KBx.at (HS.out.upd0 hup) hx
    have hrow2:=hrow
    unfold Kind.row at hrow2
    rw [hMl] at hrow2
    have b1:(i:Int)<(n3:Int):=by omega
    have b2:decide (i<n3)=true:=decide_eq_true hlt
    have hnext:L.take (i+1)=L.take i++[x.id]:=by
     have hx':L[i]? = some x.id:=by rw [←HL.out,List.getElem?_map,hx];rfl
     obtain ⟨g1,g2⟩:=List.getElem?_eq_some_iff.1 hx'
     rw [List.take_succ_eq_append_getElem g1,g2]
    have HI:=Lib.hid (And.intro hi' (And.intro hup (And.intro hrow2 (And.intro hMl hnext))))
    clear hi' hup hrow hrow2 hMl hnext hx hlt
    go_wp2_with (at_builtin;refine wpList_app _ rfl _ _ 34 rfl w.heap.size 41 i0 (.int .u32 0) 1 4 Tryz.underlying34 hi hz0 hz1 hz2 rfl (by decide) _ i (KU.all (L.take i)) rfl (own_upd HI.out.2.2.1 ((Upd.refl [] _).alloc _) (by simp)) _ 1 [.int .u32 (x.id:Int)] rfl (sees_lit wr #[.int .u32 (x.id:Int)] 41 1 1 rfl (by decide)) (by simp [Value.oneCell']) (by unfold maxLen;omega) (by omega) (by simp;omega) ?_)
    intro A3 C3 W3 HP3
    have hrow3:KU.row W3 w.heap.size (.slice A3 (i+1) C3) (L.take (i+1)):=by
     rw [HI.out.2.2.2.2]
     unfold Kind.row
     rw [List.length_append,HI.out.2.2.2.1,KU.all_app]
     exact HP3.own
    have hu3:Upd [] w W3:=(HI.out.2.1.alloc _).trans' HP3.upd (fun y hy=>.inr (own_ge HI.out.2.2.1 y hy))
    have H3:=Lib.hid (And.intro hrow3 hu3)
    clear hrow3 hu3 HP3 cx e0 e1 e2 e3 e4
    go_wp2_with fail
    go_roundg (n3 - (i+1))
    case measure=>have:=HI.out.1;omega
    case rel=>exact ⟨i+1,A3,C3,by have:=HI.out.1;omega,by go_num,by go_num,H3.out.1,H3.out.2⟩
   ·have hfin:L.take i=L:=by rw [List.take_of_length_le];rw [←HL.out,List.length_map,HN.out];omega
    have hin:i=n3:=by omega
    rw [hfin] at hrow
    have b2:decide (i<n3)=false:=decide_eq_false hlt
    have HF:=Lib.hid (And.intro hrow hup)
    clear hrow hup hMl hfin hi' hlt
    subst hin
    go_wp2_with fail
    go_meet
    case rel=>exact ⟨A2,C2,rfl,HF.out.1,HF.out.2⟩
 obtain ⟨Ao,Co,rfl,hro,huo⟩:=hcut
 obtain ⟨wo,rfl⟩:∃W:World,W=wc:=⟨_,rfl⟩
 have HO:=Lib.hid (And.intro hro huo)
 clear hro huo
 obtain ⟨c0,c1,c2,c3⟩:=HCC.out
 have c0:=(HO.out.2.cell (World.block_lt_of_cell? _ _ c0) (by simp)).trans c0
 have c1:=(HO.out.2.cell (World.block_lt_of_cell? _ _ c1) (by simp)).trans c1
 have c2:=(HO.out.2.cell (World.block_lt_of_cell? _ _ c2) (by simp)).trans c2
 have c3:=(HO.out.2.cell (World.block_lt_of_cell? _ _ c3) (by simp)).trans c3
 go_wp2_with fail
 go_ret
 exact ⟨Ao,Co,rfl,HO.out.1,HO.out.2⟩
theorem place_parts {α:Type} {key:α→Nat} {l:List α} (h:Asc key l) {id k:Nat} {b:Bool} (hp:PlaceIs (l.map key) id k b) :
 (∀y∈l.take k,key y<id)∧(∀y∈l.drop k,id≤key y)∧(∀y∈l.drop (k+1),id<key y):=by
 obtain ⟨h1,h2,h3,-⟩:=hp
 have hk:k≤l.length:=by simpa using h1
 have hpw:=h
 unfold Asc at hpw
 rw [List.pairwise_map,List.pairwise_iff_getElem] at hpw
 have lo:∀(h0:k<l.length),id≤key l[k]:=fun h0=>h3 _ (by rw [List.getElem?_map,List.getElem?_eq_getElem h0];rfl)
 refine ⟨fun y hy=>?_,fun y hy=>?_,fun y hy=>?_⟩
 ·obtain ⟨j,hj,rfl⟩:=List.getElem_of_mem hy
  rw [List.length_take] at hj
  rw [List.getElem_take]
  exact h2 j _ (by omega) (by rw [List.getElem?_map,List.getElem?_eq_getElem (by omega)];rfl)
 ·obtain ⟨j,hj,rfl⟩:=List.getElem_of_mem hy
  rw [List.length_drop] at hj
  rw [List.getElem_drop]
  have:=lo (by omega)
  rcases Nat.eq_zero_or_pos j with rfl | hj0
  ·simpa using this
  ·have:=hpw k (k+j) (by omega) (by omega) (by omega);omega
 ·obtain ⟨j,hj,rfl⟩:=List.getElem_of_mem hy
  rw [List.length_drop] at hj
  rw [List.getElem_drop]
  have:=lo (by omega)
  have:=hpw k (k+1+j) (by omega) (by omega) (by omega);omega
theorem place_find {α:Type} {key:α→Nat} {l:List α} (h:Asc key l) {id k:Nat} {b:Bool} (hp:PlaceIs (l.map key) id k b):(findK key l id).isSome=b:=by
 obtain ⟨p1,p2,p3⟩:=place_parts h hp
 obtain ⟨h1,-,-,h4⟩:=hp
 rw [List.getElem?_map] at h4
 rw [Bool.eq_iff_iff,h4]
 constructor
 ·intro hs
  obtain ⟨x,hx⟩:=Option.isSome_iff_exists.1 hs
  obtain ⟨hm,rfl⟩:=findK_some hx
  rw [←List.take_append_drop k l] at hm
  rcases List.mem_append.1 hm with hm | hm
  ·have:=p1 x hm;omega
  ·cases e:l.drop k with
   |nil=>rw [e] at hm;simp at hm
   |cons y t=>
    have e1:l.drop (k+1)=t:=by rw [←List.drop_drop,e];rfl
    have e0:l[k]? = some y:=by rw [←List.head?_drop,e];rfl
    rw [e] at hm
    rcases List.mem_cons.1 hm with rfl | hm
    ·rw [e0];rfl
    ·have:=p3 x (by rw [e1];exact hm);omega
 ·intro hs
  obtain ⟨x,hx,e⟩:=Option.map_eq_some_iff.1 hs
  rw [←e,h.find (List.mem_of_getElem? hx)]
  rfl
theorem place_ins {α:Type} {key:α→Nat} {l:List α} (h:Asc key l) {x:α} {k:Nat} (hp:PlaceIs (l.map key) (key x) k false):l.take k++x::l.drop k=insA key x l:=by
 have hf:=place_find h hp
 have hn:findK key l (key x)=none:=by simpa using hf
 rw [findK_none] at hn
 obtain ⟨p1,p2,-⟩:=place_parts h hp
 unfold insA
 have e1:(l.filter fun y=>decide (key y<key x))=l.take k:=by
  conv=>lhs;rw [←List.take_append_drop k l]
  rw [List.filter_append,List.filter_eq_self.2 (fun y hy=>decide_eq_true (p1 y hy)),List.filter_eq_nil_iff.2 (fun y hy=>by have:=p2 y hy;simp;omega),List.append_nil]
 have e2:(l.filter fun y=>decide (key x<key y))=l.drop k:=by
  conv=>lhs;rw [←List.take_append_drop k l]
  rw [List.filter_append,List.filter_eq_nil_iff.2 (fun y hy=>by have:=p1 y hy;simp;omega),List.filter_eq_self.2 (fun y hy=>decide_eq_true (by have:=p2 y hy;have:=hn y (List.mem_of_mem_drop hy);omega)),List.nil_append]
 rw [e1,e2]
theorem place_del {α:Type} {key:α→Nat} {l:List α} (h:Asc key l) {id k:Nat} (hp:PlaceIs (l.map key) id k true):l.take k++l.drop (k+1)=delA key id l:=by
 obtain ⟨p1,-,p3⟩:=place_parts h hp
 have hk:=hp.2.2.2.1 rfl
 rw [List.getElem?_map] at hk
 obtain ⟨x,hx,e⟩:=Option.map_eq_some_iff.1 hk
 obtain ⟨h0,h0'⟩:=List.getElem?_eq_some_iff.1 hx
 unfold delA
 conv=>rhs;rw [←List.take_append_drop k l,List.drop_eq_getElem_cons h0,h0']
 rw [List.filter_append,List.filter_eq_self.2 (fun y hy=>by have:=p1 y hy;simp;omega),List.filter_cons,if_neg (by simp [e]),List.filter_eq_self.2 (fun y hy=>by have:=p3 y hy;simp;omega)]
theorem place_lt {α:Type} {key:α→Nat} {l:List α} {id k:Nat} (hp:PlaceIs (l.map key) id k true):k<l.length:=by
 have hk:=hp.2.2.2.1 rfl
 have:=(List.getElem?_eq_some_iff.1 hk).1
 simpa using this
end Go.Proofs.YtkmnbodlciepaaaGreat
