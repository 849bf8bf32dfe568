/- gridironlaw26.awake: the chapter's examples. Printed by mkawkm.py. -/
import Derived.Test.YtkmnbodlciepaaaGreatPk26
set_option maxHeartbeats 8000000
set_option maxRecDepth 100000
namespace Go.Proofs.YtkmnbodlciepaaaGreat
open Go.RowKit
theorem tolT {A R:List Bx→Nat} (ar:AR A R) {w:World} {h p s x N:Nat} {m:Md} (g:MM w h p s x m N) (hN:N<1000000) (o:OpP) (ho:o.in64) (e cnt:Nat) (v:Value) (L:List Nat) (hv:See KU w v L) (hL:L.length<1000000) (m':Md) (hd:doM A R m o=(m',⟨e,L,cnt,false,0⟩)) :
 Calls Tryz.prog 24 #[.pointer (some ⟨h,0,none⟩),opV o,.int .i64 (e:Int),.int .i64 (cnt:Int),v] w fun e' w'=>e'=.returned (.bool true)∧MM w' h p s x m' (N+1)∧Upd [p,s,x] w w':=by
 refine (toldC ar g hN o ho e cnt v L hv hL).mono fun e' w' ⟨b,h1,h2,h3,h4⟩=>?_
 rw [hd] at h2 h3
 have:b=true:=h2.2 rfl
 subst this
 exact ⟨h1,h3,h4⟩
theorem KU_new (w:World) (l:List Nat) (n:Nat) (hn:n=l.length) (hm:n≤maxLen):See KU (w.alloc (.cells (l.map fun (x:Nat)=>(Value.int .u32 (x:Int))).toArray 41)) (.slice (some ⟨w.heap.size,0,none⟩) n n) l:=by
 subst hn
 have:=sees_lit w (l.map fun (x:Nat)=>(Value.int .u32 (x:Int))).toArray 41 1 l.length (by simp) hm
 have e:∀l:List Nat,KU.all l=l.map fun (x:Nat)=>(Value.int .u32 (x:Int)):=by
  intro l
  induction l with
  |nil=>rfl
  |cons a l ih=>rw [List.map_cons,←ih];rfl
 unfold See
 rw [e]
 exact this
instance (x:Int):Decidable (z64 x):=inferInstanceAs (Decidable (_∧_))
theorem op_new (w:World) (o:Array Value):CelB (w.alloc (.cells o 43)) w.heap.size o.toList:=CelB.of_heap (heap_alloc_new w _)
theorem tol1 {A R:List Bx→Nat} (ar:AR A R) {w:World} {h p s x N:Nat} (g:MM w h p s x ⟨2,[],[],[]⟩ N) (hN:N<1000000) :
 Calls Tryz.prog 24 #[.pointer (some ⟨h,0,none⟩),.agg #[.int .u8 1,.int .i64 3,.int .i64 4,.int .i64 0,.int .i64 0,.int .u32 7],.int .i64 0,.int .i64 1,.slice none 0 0] w fun e' w'=>e'=.returned (.bool true)∧MM w' h p s x ⟨2,[⟨3,4,7⟩],[],[]⟩ (N+1)∧Upd [p,s,x] w w':=
 tolT ar g hN (⟨1,3,4,0,0,7⟩:OpP) ⟨⟨by decide,by decide,by decide,by decide⟩,by decide,by decide⟩ 0 1 _ [] (See.nil _ _) (by decide) ⟨2,[⟨3,4,7⟩],[],[]⟩ rfl
theorem tol2 {A R:List Bx→Nat} (ar:AR A R) {w:World} {h p s x N:Nat} (g:MM w h p s x ⟨2,[⟨3,4,7⟩],[],[]⟩ N) (hN:N<1000000) :
 Calls Tryz.prog 24 #[.pointer (some ⟨h,0,none⟩),.agg #[.int .u8 1,.int .i64 3,.int .i64 4,.int .i64 0,.int .i64 0,.int .u32 7],.int .i64 262,.int .i64 0,.slice none 0 0] w fun e' w'=>e'=.returned (.bool true)∧MM w' h p s x ⟨2,[⟨3,4,7⟩],[],[]⟩ (N+1)∧Upd [p,s,x] w w':=
 tolT ar g hN (⟨1,3,4,0,0,7⟩:OpP) ⟨⟨by decide,by decide,by decide,by decide⟩,by decide,by decide⟩ 262 0 _ [] (See.nil _ _) (by decide) ⟨2,[⟨3,4,7⟩],[],[]⟩ rfl
theorem tol3 {A R:List Bx→Nat} (ar:AR A R) {w:World} {h p s x N:Nat} (g:MM w h p s x ⟨2,[⟨3,4,7⟩],[],[]⟩ N) (hN:N<1000000) :
 Calls Tryz.prog 24 #[.pointer (some ⟨h,0,none⟩),.agg #[.int .u8 1,.int .i64 5,.int .i64 1,.int .i64 0,.int .i64 0,.int .u32 0],.int .i64 0,.int .i64 2,.slice none 0 0] w fun e' w'=>e'=.returned (.bool true)∧MM w' h p s x ⟨2,[⟨5,1,0⟩,⟨3,4,7⟩],[],[]⟩ (N+1)∧Upd [p,s,x] w w':=
 tolT ar g hN (⟨1,5,1,0,0,0⟩:OpP) ⟨⟨by decide,by decide,by decide,by decide⟩,by decide,by decide⟩ 0 2 _ [] (See.nil _ _) (by decide) ⟨2,[⟨5,1,0⟩,⟨3,4,7⟩],[],[]⟩ rfl
theorem tol4 {A R:List Bx→Nat} (ar:AR A R) {w:World} {h p s x N:Nat} (g:MM w h p s x ⟨2,[⟨5,1,0⟩,⟨3,4,7⟩],[],[]⟩ N) (hN:N<1000000) :
 Calls Tryz.prog 24 #[.pointer (some ⟨h,0,none⟩),.agg #[.int .u8 1,.int .i64 0,.int .i64 0,.int .i64 0,.int .i64 0,.int .u32 1],.int .i64 5,.int .i64 0,.slice none 0 0] w fun e' w'=>e'=.returned (.bool true)∧MM w' h p s x ⟨2,[⟨5,1,0⟩,⟨3,4,7⟩],[],[]⟩ (N+1)∧Upd [p,s,x] w w':=
 tolT ar g hN (⟨1,0,0,0,0,1⟩:OpP) ⟨⟨by decide,by decide,by decide,by decide⟩,by decide,by decide⟩ 5 0 _ [] (See.nil _ _) (by decide) ⟨2,[⟨5,1,0⟩,⟨3,4,7⟩],[],[]⟩ rfl
theorem tol5 {A R:List Bx→Nat} (ar:AR A R) {w:World} {h p s x N:Nat} {q:Nat} (g:MM w h p s x ⟨2,[⟨5,1,0⟩,⟨3,4,7⟩],[],[]⟩ N) (hN:N<1000000) (hv:See KU w (.slice (some ⟨q,0,none⟩) 1 1) [0]) :
 Calls Tryz.prog 24 #[.pointer (some ⟨h,0,none⟩),.agg #[.int .u8 7,.int .i64 0,.int .i64 9,.int .i64 0,.int .i64 3,.int .u32 0],.int .i64 0,.int .i64 0,.slice (some ⟨q,0,none⟩) 1 1] w fun e' w'=>e'=.returned (.bool true)∧MM w' h p s x ⟨2,[⟨5,1,0⟩,⟨3,4,7⟩],[],[]⟩ (N+1)∧Upd [p,s,x] w w':=
 tolT ar g hN (⟨7,0,9,0,3,0⟩:OpP) ⟨⟨by decide,by decide,by decide,by decide⟩,by decide,by decide⟩ 0 0 _ [0] hv (by decide) ⟨2,[⟨5,1,0⟩,⟨3,4,7⟩],[],[]⟩ rfl
theorem tol6 {A R:List Bx→Nat} (ar:AR A R) {w:World} {h p s x N:Nat} {q:Nat} (g:MM w h p s x ⟨2,[⟨5,1,0⟩,⟨3,4,7⟩],[],[]⟩ N) (hN:N<1000000) (hv:See KU w (.slice (some ⟨q,0,none⟩) 2 2) [0,7]) :
 Calls Tryz.prog 24 #[.pointer (some ⟨h,0,none⟩),.agg #[.int .u8 11,.int .i64 3,.int .i64 1,.int .i64 3,.int .i64 0,.int .u32 0],.int .i64 0,.int .i64 0,.slice (some ⟨q,0,none⟩) 2 2] w fun e' w'=>e'=.returned (.bool true)∧MM w' h p s x ⟨2,[⟨5,1,0⟩,⟨3,4,7⟩],[],[]⟩ (N+1)∧Upd [p,s,x] w w':=
 tolT ar g hN (⟨11,3,1,3,0,0⟩:OpP) ⟨⟨by decide,by decide,by decide,by decide⟩,by decide,by decide⟩ 0 0 _ [0,7] hv (by decide) ⟨2,[⟨5,1,0⟩,⟨3,4,7⟩],[],[]⟩ rfl
theorem tol7 {A R:List Bx→Nat} (ar:AR A R) {w:World} {h p s x N:Nat} {q:Nat} (g:MM w h p s x ⟨2,[⟨5,1,0⟩,⟨3,4,7⟩],[],[]⟩ N) (hN:N<1000000) (hv:See KU w (.slice (some ⟨q,0,none⟩) 1 1) [7]) :
 Calls Tryz.prog 24 #[.pointer (some ⟨h,0,none⟩),.agg #[.int .u8 13,.int .i64 0,.int .i64 4,.int .i64 0,.int .i64 0,.int .u32 0],.int .i64 0,.int .i64 0,.slice (some ⟨q,0,none⟩) 1 1] w fun e' w'=>e'=.returned (.bool true)∧MM w' h p s x ⟨2,[⟨5,1,0⟩,⟨3,4,7⟩],[],[]⟩ (N+1)∧Upd [p,s,x] w w':=
 tolT ar g hN (⟨13,0,4,0,0,0⟩:OpP) ⟨⟨by decide,by decide,by decide,by decide⟩,by decide,by decide⟩ 0 0 _ [7] hv (by decide) ⟨2,[⟨5,1,0⟩,⟨3,4,7⟩],[],[]⟩ rfl
theorem tol8 {A R:List Bx→Nat} (ar:AR A R) {w:World} {h p s x N:Nat} (g:MM w h p s x ⟨2,[⟨5,1,0⟩,⟨3,4,7⟩],[],[]⟩ N) (hN:N<1000000) :
 Calls Tryz.prog 24 #[.pointer (some ⟨h,0,none⟩),.agg #[.int .u8 13,.int .i64 6,.int .i64 9,.int .i64 0,.int .i64 0,.int .u32 0],.int .i64 0,.int .i64 0,.slice none 0 0] w fun e' w'=>e'=.returned (.bool true)∧MM w' h p s x ⟨2,[⟨5,1,0⟩,⟨3,4,7⟩],[],[]⟩ (N+1)∧Upd [p,s,x] w w':=
 tolT ar g hN (⟨13,6,9,0,0,0⟩:OpP) ⟨⟨by decide,by decide,by decide,by decide⟩,by decide,by decide⟩ 0 0 _ [] (See.nil _ _) (by decide) ⟨2,[⟨5,1,0⟩,⟨3,4,7⟩],[],[]⟩ rfl
theorem tol9 {A R:List Bx→Nat} (ar:AR A R) {w:World} {h p s x N:Nat} {q:Nat} (g:MM w h p s x ⟨2,[⟨5,1,0⟩,⟨3,4,7⟩],[],[]⟩ N) (hN:N<1000000) (hv:See KU w (.slice (some ⟨q,0,none⟩) 2 2) [0,7]) :
 Calls Tryz.prog 24 #[.pointer (some ⟨h,0,none⟩),.agg #[.int .u8 14,.int .i64 0,.int .i64 0,.int .i64 0,.int .i64 0,.int .u32 0],.int .i64 0,.int .i64 0,.slice (some ⟨q,0,none⟩) 2 2] w fun e' w'=>e'=.returned (.bool true)∧MM w' h p s x ⟨2,[⟨5,1,0⟩,⟨3,4,7⟩],[],[]⟩ (N+1)∧Upd [p,s,x] w w':=
 tolT ar g hN (⟨14,0,0,0,0,0⟩:OpP) ⟨⟨by decide,by decide,by decide,by decide⟩,by decide,by decide⟩ 0 0 _ [0,7] hv (by decide) ⟨2,[⟨5,1,0⟩,⟨3,4,7⟩],[],[]⟩ rfl
theorem tol10 {A R:List Bx→Nat} (ar:AR A R) {w:World} {h p s x N:Nat} (g:MM w h p s x ⟨2,[⟨5,1,0⟩,⟨3,4,7⟩],[],[]⟩ N) (hN:N<1000000) :
 Calls Tryz.prog 24 #[.pointer (some ⟨h,0,none⟩),.agg #[.int .u8 2,.int .i64 5,.int .i64 4,.int .i64 0,.int .i64 0,.int .u32 0],.int .i64 261,.int .i64 0,.slice none 0 0] w fun e' w'=>e'=.returned (.bool true)∧MM w' h p s x ⟨2,[⟨5,1,0⟩,⟨3,4,7⟩],[],[]⟩ (N+1)∧Upd [p,s,x] w w':=
 tolT ar g hN (⟨2,5,4,0,0,0⟩:OpP) ⟨⟨by decide,by decide,by decide,by decide⟩,by decide,by decide⟩ 261 0 _ [] (See.nil _ _) (by decide) ⟨2,[⟨5,1,0⟩,⟨3,4,7⟩],[],[]⟩ rfl
theorem tol11 {A R:List Bx→Nat} (ar:AR A R) {w:World} {h p s x N:Nat} (g:MM w h p s x ⟨2,[⟨5,1,0⟩,⟨3,4,7⟩],[],[]⟩ N) (hN:N<1000000) :
 Calls Tryz.prog 24 #[.pointer (some ⟨h,0,none⟩),.agg #[.int .u8 4,.int .i64 0,.int .i64 0,.int .i64 0,.int .i64 0,.int .u32 7],.int .i64 0,.int .i64 1,.slice none 0 0] w fun e' w'=>e'=.returned (.bool true)∧MM w' h p s x ⟨2,[⟨5,1,0⟩],[],[]⟩ (N+1)∧Upd [p,s,x] w w':=
 tolT ar g hN (⟨4,0,0,0,0,7⟩:OpP) ⟨⟨by decide,by decide,by decide,by decide⟩,by decide,by decide⟩ 0 1 _ [] (See.nil _ _) (by decide) ⟨2,[⟨5,1,0⟩],[],[]⟩ rfl
theorem tol12 {A R:List Bx→Nat} (ar:AR A R) {w:World} {h p s x N:Nat} (g:MM w h p s x ⟨2,[⟨5,1,0⟩],[],[]⟩ N) (hN:N<1000000) :
 Calls Tryz.prog 24 #[.pointer (some ⟨h,0,none⟩),.agg #[.int .u8 4,.int .i64 0,.int .i64 0,.int .i64 0,.int .i64 0,.int .u32 7],.int .i64 263,.int .i64 0,.slice none 0 0] w fun e' w'=>e'=.returned (.bool true)∧MM w' h p s x ⟨2,[⟨5,1,0⟩],[],[]⟩ (N+1)∧Upd [p,s,x] w w':=
 tolT ar g hN (⟨4,0,0,0,0,7⟩:OpP) ⟨⟨by decide,by decide,by decide,by decide⟩,by decide,by decide⟩ 263 0 _ [] (See.nil _ _) (by decide) ⟨2,[⟨5,1,0⟩],[],[]⟩ rfl
theorem tol13 {A R:List Bx→Nat} (ar:AR A R) {w:World} {h p s x N:Nat} (g:MM w h p s x ⟨2,[⟨5,1,0⟩],[],[]⟩ N) (hN:N<1000000) :
 Calls Tryz.prog 24 #[.pointer (some ⟨h,0,none⟩),.agg #[.int .u8 0,.int .i64 0,.int .i64 0,.int .i64 0,.int .i64 0,.int .u32 0],.int .i64 260,.int .i64 0,.slice none 0 0] w fun e' w'=>e'=.returned (.bool true)∧MM w' h p s x ⟨2,[⟨5,1,0⟩],[],[]⟩ (N+1)∧Upd [p,s,x] w w':=
 tolT ar g hN (⟨0,0,0,0,0,0⟩:OpP) ⟨⟨by decide,by decide,by decide,by decide⟩,by decide,by decide⟩ 260 0 _ [] (See.nil _ _) (by decide) ⟨2,[⟨5,1,0⟩],[],[]⟩ rfl
theorem tol14 {A R:List Bx→Nat} (ar:AR A R) {w:World} {h p s x N:Nat} (g:MM w h p s x ⟨2,[⟨5,1,0⟩],[],[]⟩ N) (hN:N<1000000) :
 Calls Tryz.prog 24 #[.pointer (some ⟨h,0,none⟩),.agg #[.int .u8 21,.int .i64 0,.int .i64 0,.int .i64 0,.int .i64 0,.int .u32 0],.int .i64 260,.int .i64 0,.slice none 0 0] w fun e' w'=>e'=.returned (.bool true)∧MM w' h p s x ⟨2,[⟨5,1,0⟩],[],[]⟩ (N+1)∧Upd [p,s,x] w w':=
 tolT ar g hN (⟨21,0,0,0,0,0⟩:OpP) ⟨⟨by decide,by decide,by decide,by decide⟩,by decide,by decide⟩ 260 0 _ [] (See.nil _ _) (by decide) ⟨2,[⟨5,1,0⟩],[],[]⟩ rfl
theorem tol15 {A R:List Bx→Nat} (ar:AR A R) {w:World} {h p s x N:Nat} (g:MM w h p s x ⟨2,[⟨5,1,0⟩],[],[]⟩ N) (hN:N<1000000) :
 Calls Tryz.prog 24 #[.pointer (some ⟨h,0,none⟩),.agg #[.int .u8 18,.int .i64 0,.int .i64 0,.int .i64 0,.int .i64 0,.int .u32 0],.int .i64 0,.int .i64 0,.slice none 0 0] w fun e' w'=>e'=.returned (.bool true)∧MM w' h p s x ⟨2,[⟨5,1,0⟩],[],[]⟩ (N+1)∧Upd [p,s,x] w w':=
 tolT ar g hN (⟨18,0,0,0,0,0⟩:OpP) ⟨⟨by decide,by decide,by decide,by decide⟩,by decide,by decide⟩ 0 0 _ [] (See.nil _ _) (by decide) ⟨2,[⟨5,1,0⟩],[],[]⟩ (by have e:doM A R ⟨2,[⟨5,1,0⟩],[],[]⟩ (⟨18,0,0,0,0,0⟩:OpP)=(⟨2,[⟨5,1,0⟩],[],[]⟩,wideR (A [])):=rfl;rw [e,ar.a0];rfl)
theorem awake26 {A R:List Bx→Nat} (ar:AR A R) (w:World):Calls Tryz.prog 6 #[] w fun e w'=>e=.returned (.bool true)∧Upd [] w w':=by
 go_enter Tryz.func6,Tryz.ntmps6
 go_wp2_with fail
 (with_reducible refine (newMC 2 _).mono ?_)
 rintro e w0 ⟨hu,hnew⟩
 rw [if_pos (by omega)] at hnew
 obtain ⟨h,p,s,x,rfl,hmd,g1,g2,g3,g4⟩:=hnew
 have G0:MM w0 h p s x ⟨2,[],[],[]⟩ 0:=⟨hmd,in64_nil _,Nat.le_refl _,Nat.le_refl _,Nat.le_refl _⟩
 have HN:=Lib.hid (And.intro hu (And.intro g1 (And.intro g2 (And.intro g3 g4))))
 have HL:=Lib.hid (And.intro hmd.ps.lt (And.intro hmd.ss.lt hmd.bs.lt))
 clear hu hmd g1 g2 g3 g4
 have HG0:=Lib.hid G0
 clear G0
 go_upto_region 5 with fail
 have HC:=Lib.hid (op_new w0 #[.int .u8 1,.int .i64 3,.int .i64 4,.int .i64 0,.int .i64 0,.int .u32 7])
 have HU0:=Lib.hid ((Upd.refl [p,s,x] w0).alloc (.cells #[.int .u8 1,.int .i64 3,.int .i64 4,.int .i64 0,.int .i64 0,.int .u32 7] 43))
 have HM0:=Lib.hid (HG0.out.upd0 ((Upd.refl [] w0).alloc (.cells #[.int .u8 1,.int .i64 3,.int .i64 4,.int .i64 0,.int .i64 0,.int .u32 7] 43)))
 have HB:=Lib.hid (show w0.heap.size∉[p,s,x] by have:=HL.out;simp only [List.mem_cons,List.not_mem_nil,or_false];omega)
 clear HG0
 generalize hb1:w0.heap.size=b1 at HC HB ⊢
 have HB1:=Lib.hid hb1
 clear hb1
 generalize (w0.alloc (.cells #[.int .u8 1,.int .i64 3,.int .i64 4,.int .i64 0,.int .i64 0,.int .u32 7] 43))=u0 at HC HU0 HM0 ⊢
 have o0:=HC.out 0 _ rfl
 have o1:=HC.out 1 _ rfl
 have o2:=HC.out 2 _ rfl
 have o3:=HC.out 3 _ rfl
 have o4:=HC.out 4 _ rfl
 have o5:=HC.out 5 _ rfl
 go_wp2_with fail
 (with_reducible refine (tol1 ar HM0.out (by decide)).mono ?_)
 rintro e u1 ⟨rfl,hm,hu⟩
 have HM1:=Lib.hid hm
 have HU1:=Lib.hid (HU0.out.trans hu)
 have HCn:=Lib.hid (HC.out.upd hu HB.out)
 clear HC
 have HC:=HCn
 clear HCn
 clear hm hu HM0
 clear o0 o1 o2 o3 o4 o5
 have o0:=HC.out 0 _ rfl
 have o1:=HC.out 1 _ rfl
 have o2:=HC.out 2 _ rfl
 have o3:=HC.out 3 _ rfl
 have o4:=HC.out 4 _ rfl
 have o5:=HC.out 5 _ rfl
 go_wp2_with fail
 (with_reducible refine (tol2 ar HM1.out (by decide)).mono ?_)
 rintro e u2 ⟨rfl,hm,hu⟩
 have HM2:=Lib.hid hm
 have HU2:=Lib.hid (HU1.out.trans hu)
 have HCn:=Lib.hid (HC.out.upd hu HB.out)
 clear HC
 have HC:=HCn
 clear HCn
 clear hm hu HM1
 clear o0 o1 o2 o3 o4 o5
 go_wp2_with fail
 (with_reducible refine (tol3 ar HM2.out (by decide)).mono ?_)
 rintro e u3 ⟨rfl,hm,hu⟩
 have HM3:=Lib.hid hm
 have HU3:=Lib.hid (HU2.out.trans hu)
 clear hm hu HM2
 go_wp2_with fail
 (with_reducible refine (tol4 ar HM3.out (by decide)).mono ?_)
 rintro e u4 ⟨rfl,hm,hu⟩
 have HM4:=Lib.hid hm
 have HU4:=Lib.hid (HU3.out.trans hu)
 clear hm hu HM3
 go_upto_region 7 with fail
 have HS4:=Lib.hid (show See KU (u4.alloc (.cells #[.int .u32 0] 41)) (.slice (some ⟨u4.heap.size,0,none⟩) 1 1) [0] from KU_new u4 [0] 1 rfl (by decide))
 have HMl:=Lib.hid (HM4.out.upd0 ((Upd.refl [] u4).alloc (.cells #[.int .u32 0] 41)))
 have HUl:=Lib.hid (HU4.out.alloc (.cells #[.int .u32 0] 41))
 go_wp2_with fail
 (with_reducible refine (tol5 ar HMl.out (by decide) HS4.out).mono ?_)
 rintro e u5 ⟨rfl,hm,hu⟩
 have HM5:=Lib.hid hm
 have HU5:=Lib.hid (HUl.out.trans hu)
 clear hm hu HM4 HMl HUl HS4
 have HS5:=Lib.hid (show See KU (u5.alloc (.cells #[.int .u32 0,.int .u32 7] 41)) (.slice (some ⟨u5.heap.size,0,none⟩) 2 2) [0,7] from KU_new u5 [0,7] 2 rfl (by decide))
 have HMl:=Lib.hid (HM5.out.upd0 ((Upd.refl [] u5).alloc (.cells #[.int .u32 0,.int .u32 7] 41)))
 have HUl:=Lib.hid (HU5.out.alloc (.cells #[.int .u32 0,.int .u32 7] 41))
 go_wp2_with fail
 (with_reducible refine (tol6 ar HMl.out (by decide) HS5.out).mono ?_)
 rintro e u6 ⟨rfl,hm,hu⟩
 have HM6:=Lib.hid hm
 have HU6:=Lib.hid (HUl.out.trans hu)
 clear hm hu HM5 HMl HUl HS5
 have HS6:=Lib.hid (show See KU (u6.alloc (.cells #[.int .u32 7] 41)) (.slice (some ⟨u6.heap.size,0,none⟩) 1 1) [7] from KU_new u6 [7] 1 rfl (by decide))
 have HMl:=Lib.hid (HM6.out.upd0 ((Upd.refl [] u6).alloc (.cells #[.int .u32 7] 41)))
 have HUl:=Lib.hid (HU6.out.alloc (.cells #[.int .u32 7] 41))
 go_wp2_with fail
 (with_reducible refine (tol7 ar HMl.out (by decide) HS6.out).mono ?_)
 rintro e u7 ⟨rfl,hm,hu⟩
 have HM7:=Lib.hid hm
 have HU7:=Lib.hid (HUl.out.trans hu)
 clear hm hu HM6 HMl HUl HS6
 go_wp2_with fail
 (with_reducible refine (tol8 ar HM7.out (by decide)).mono ?_)
 rintro e u8 ⟨rfl,hm,hu⟩
 have HM8:=Lib.hid hm
 have HU8:=Lib.hid (HU7.out.trans hu)
 clear hm hu HM7
 have HS8:=Lib.hid (show See KU (u8.alloc (.cells #[.int .u32 0,.int .u32 7] 41)) (.slice (some ⟨u8.heap.size,0,none⟩) 2 2) [0,7] from KU_new u8 [0,7] 2 rfl (by decide))
 have HMl:=Lib.hid (HM8.out.upd0 ((Upd.refl [] u8).alloc (.cells #[.int .u32 0,.int .u32 7] 41)))
 have HUl:=Lib.hid (HU8.out.alloc (.cells #[.int .u32 0,.int .u32 7] 41))
 go_wp2_with fail
 (with_reducible refine (tol9 ar HMl.out (by decide) HS8.out).mono ?_)
 rintro e u9 ⟨rfl,hm,hu⟩
 have HM9:=Lib.hid hm
 have HU9:=Lib.hid (HUl.out.trans hu)
 clear hm hu HM8 HMl HUl HS8
 go_upto_region 10 with fail
 have HD:=Lib.hid (op_new u9 #[.int .u8 4,.int .i64 0,.int .i64 0,.int .i64 0,.int .i64 0,.int .u32 7])
 have HM:=Lib.hid (HM9.out.upd0 ((Upd.refl [] u9).alloc (.cells #[.int .u8 4,.int .i64 0,.int .i64 0,.int .i64 0,.int .i64 0,.int .u32 7] 43)))
 have HU:=Lib.hid (HU9.out.alloc (.cells #[.int .u8 4,.int .i64 0,.int .i64 0,.int .i64 0,.int .i64 0,.int .u32 7] 43))
 have HE:=Lib.hid (show u9.heap.size∉[p,s,x] by have:=HL.out;have:=HU9.out.size;simp only [List.mem_cons,List.not_mem_nil,or_false];omega)
 clear HM9 HU9
 generalize u9.heap.size=b2 at HD HE ⊢
 generalize (u9.alloc (.cells #[.int .u8 4,.int .i64 0,.int .i64 0,.int .i64 0,.int .i64 0,.int .u32 7] 43))=v9 at HD HM HU ⊢
 have HM9:=HM
 have HU9:=HU
 clear HM HU
 go_wp2_with fail
 (with_reducible refine (tol10 ar HM9.out (by decide)).mono ?_)
 rintro e u10 ⟨rfl,hm,hu⟩
 have HM10:=Lib.hid hm
 have HU10:=Lib.hid (HU9.out.trans hu)
 have HDn:=Lib.hid (HD.out.upd hu HE.out)
 clear HD
 have HD:=HDn
 clear HDn
 clear hm hu HM9
 have o0:=HD.out 0 _ rfl
 have o1:=HD.out 1 _ rfl
 have o2:=HD.out 2 _ rfl
 have o3:=HD.out 3 _ rfl
 have o4:=HD.out 4 _ rfl
 have o5:=HD.out 5 _ rfl
 go_wp2_with fail
 (with_reducible refine (tol11 ar HM10.out (by decide)).mono ?_)
 rintro e u11 ⟨rfl,hm,hu⟩
 have HM11:=Lib.hid hm
 have HU11:=Lib.hid (HU10.out.trans hu)
 have HDn:=Lib.hid (HD.out.upd hu HE.out)
 clear HD
 have HD:=HDn
 clear HDn
 clear hm hu HM10
 clear o0 o1 o2 o3 o4 o5
 have o0:=HD.out 0 _ rfl
 have o1:=HD.out 1 _ rfl
 have o2:=HD.out 2 _ rfl
 have o3:=HD.out 3 _ rfl
 have o4:=HD.out 4 _ rfl
 have o5:=HD.out 5 _ rfl
 go_wp2_with fail
 (with_reducible refine (tol12 ar HM11.out (by decide)).mono ?_)
 rintro e u12 ⟨rfl,hm,hu⟩
 have HM12:=Lib.hid hm
 have HU12:=Lib.hid (HU11.out.trans hu)
 have HDn:=Lib.hid (HD.out.upd hu HE.out)
 clear HD
 have HD:=HDn
 clear HDn
 clear hm hu HM11
 clear o0 o1 o2 o3 o4 o5
 go_wp2_with fail
 (with_reducible refine (tol13 ar HM12.out (by decide)).mono ?_)
 rintro e u13 ⟨rfl,hm,hu⟩
 have HM13:=Lib.hid hm
 have HU13:=Lib.hid (HU12.out.trans hu)
 clear hm hu HM12
 go_wp2_with fail
 (with_reducible refine (tol14 ar HM13.out (by decide)).mono ?_)
 rintro e u14 ⟨rfl,hm,hu⟩
 have HM14:=Lib.hid hm
 have HU14:=Lib.hid (HU13.out.trans hu)
 clear hm hu HM13
 go_wp2_with fail
 (with_reducible refine (tol15 ar HM14.out (by decide)).mono ?_)
 rintro e u15 ⟨rfl,hm,hu⟩
 have HM15:=Lib.hid hm
 have HU15:=Lib.hid (HU14.out.trans hu)
 clear hm hu HM14
 go_wp2_with fail
 go_ret
 refine ⟨rfl,HN.out.1.trans' HU15.out (fun y hy=>.inr ?_)⟩
 simp only [List.mem_cons,List.not_mem_nil,or_false] at hy
 have:=HN.out
 omega
end Go.Proofs.YtkmnbodlciepaaaGreat
