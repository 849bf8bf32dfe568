/- carry.Carry of half.cell[gridiron/api.Span]: what each call does to the buckets in memory. Printed by mkcar.py. -/
import Derived.Deep.RegionHeld3
import Derived.Deep.DeepCutAuto
import Derived.Deep.CutBlock
import Derived.Deep.Light
import Derived.Deep.LoopGhost
import Derived.Test.YtkbaaonchdeneaaGreatPkSpansTellP2
import Derived.Test.YtkbaaonchdeneaaGreatPk6
set_option maxHeartbeats 400000
set_option maxRecDepth 100000
namespace Go.Proofs.YtkbaaonchdeneaaGreat.CSp
open Go.RowKit
def KI:Kind (Sp×Nat):={ T:=283,sT:=206,eT:=200,sz:=4,enc:=fun x=>[.int .i64 x.1.lo,.int .i64 x.1.hi,.int .u32 (x.1.id:Int),.int .i64 x.2],len:=fun _=>rfl,one:=fun x u hu=>by simp at hu;rcases hu with rfl | rfl | rfl | rfl<;>rfl }
theorem info_int64:(Tryz.prog.info? 200).map (fun i=>(i.zero,i.size,i.bytes))=some (some (.agg #[.int .i64 0,.int .i64 0,.int .u32 0,.int .i64 0]),4,32):=by kernel_rfl
theorem clone_int64 (s:Value) (n:Nat) (xs:List Value) (w:World) (hs:Sees w 4 s n xs) (h1:∀u∈xs,u.oneCell'=true) (hb:n*32≤140737488355328) :
 Calls Tryz.prog 209 #[s] w fun e w'=>∃A C,e=.returned (.slice A n C)∧w'.ownsRow w.heap.size 200 4 (.slice A n C) n xs∧Below w.heap.size w w':=by
 obtain ⟨i0,hi,hz0,hz1,hz2⟩:=info_parts info_int64
 have HS:=Lib.hid hs
 have H1:=Lib.hid h1;clear h1
 have HB:=Lib.hid hb;clear hb
 rcases hs.2 with ⟨rfl,rfl⟩ | ⟨b,o,sp,cap,rfl,_⟩
 ·clear hs
  have he:=fun w=>Lib.run_eql_slice_nil (P:=Tryz.prog) (w:=w) 206 200 none 0 0 0 0 Tryz.underlying206
  go_enter Tryz.func209,Tryz.ntmps209
  go_wp2
  go_ret
  have hx:xs = []:=List.eq_nil_of_length_eq_zero (by simpa using HS.out.1)
  subst hx
  exact ⟨_,_,rfl,World.ownsRow_nil _ _ _ _,Below.refl _ _⟩
 ·clear hs
  have he:=fun w=>Lib.run_eql_slice_nil (P:=Tryz.prog) (w:=w) 206 200 (some ⟨b,o,sp⟩) n cap 0 0 Tryz.underlying206
  go_enter Tryz.func209,Tryz.ntmps209
  go_wp2_with (at_builtin;refine wpList_app _ rfl _ _ 206 rfl w.heap.size 200 i0 (.agg #[.int .i64 0,.int .i64 0,.int .u32 0,.int .i64 0]) 4 32 Tryz.underlying206 hi hz0 hz1 hz2 rfl (by decide) _ 0 [] rfl (World.ownsRow_made w #[] 0 (Nat.le_refl _) (by decide) rfl) _ n xs rfl (sees_upd HS.out ((Upd.refl [] w).alloc _) (by simp)) H1.out (by have:=HB.out;unfold maxLen;omega) (by have:=HB.out;omega) (by simp) ?_)
  intro A C w1 HP
  have HU:=HP.upd
  have hb1:Below w.heap.size w w1:=(((Upd.refl [] w).alloc _).trans' HU (fun k hk=>by simp [blk] at hk;omega)).below
  have hown:w1.ownsRow w.heap.size 200 4 (.slice A n C) n xs:=by simpa using HP.own
  clear he
  go_wp2
  go_ret
  exact ⟨_,_,rfl,hown,hb1⟩
def Ints (w:World) (v:Value) (l:List (Sp×Nat)):Prop:=Sees w 4 v l.length (KI.all l)
theorem Ints.form {w:World} {v:Value} {l:List (Sp×Nat)} (h:Ints w v l):∃A C,v=.slice A l.length C:=sees_form h
theorem Ints.cell {w:World} {A:Option Addr} {n C:Nat} {l:List (Sp×Nat)} (h:Ints w (.slice A n C) l) {k:Nat} (hk:k<l.length) :
 ∃b o,A=some ⟨b,o,none⟩∧w.cell? ⟨b,o+k*4,none⟩=some (.int .i64 l[k].1.lo)∧w.cell? ⟨b,o+k*4+1,none⟩=some (.int .i64 l[k].1.hi)∧w.cell? ⟨b,o+k*4+2,none⟩=some (.int .u32 (l[k].1.id:Int))∧w.cell? ⟨b,o+k*4+3,none⟩=some (.int .i64 l[k].2):=by
 obtain ⟨b,o,h1,_,_,h4⟩:=See.at (K:=KI) h (k:=k) (List.getElem?_eq_getElem hk)
 exact ⟨b,o,h1,h4 0 _ rfl,h4 1 _ rfl,h4 2 _ rfl,h4 3 _ rfl⟩
theorem Ints.upd {F:List Nat} {w w':World} {v:Value} {l:List (Sp×Nat)} (h:Ints w v l) (hu:Upd F w w') (hd:0<l.length→∀k∈blk v,k<w.heap.size→k∉F):Ints w' v l:=sees_upd h hu hd
theorem Ints.upd0 {w w':World} {v:Value} {l:List (Sp×Nat)} (h:Ints w v l) (hu:Upd [] w w'):Ints w' v l:=sees_upd h hu (by simp)
theorem Ints.of_row {w:World} {base:Nat} {v:Value} {l:List (Sp×Nat)} (h:KI.row w base v l):Ints w v l:=sees_of_own h
theorem info_rows64:(Tryz.prog.info? 206).map (fun i=>(i.zero,i.size,i.bytes))=some (some (.slice none 0 0),1,24):=by kernel_rfl
theorem noneI (b:Nat) (w:World) (h:w.cell? ⟨b,0,none⟩=some (.bool true)) :
 Calls Tryz.prog 208 #[.pointer (some ⟨b,0,none⟩)] w fun e w'=>e=.returned (.bool false)∧w=w':=by
 go_enter Tryz.func208,Tryz.ntmps208
 go_wp2
 go_ret
 exact ⟨rfl,rfl⟩
theorem addI (b:Nat) (F:List Nat) (x:(Sp×Nat)) (bs:List (List (Sp×Nat))) (n work:Nat) (w:World) (h':IsCarry KI w b F bs n work) (hn:bs.length<1000000) (htot:bs.flatten.length<1000000) (hnn:n<1000000) (hwk:work<1099511627776) :
 Calls Tryz.prog 141 #[.pointer (some ⟨b,0,none⟩),.agg #[.int .i64 x.1.lo,.int .i64 x.1.hi,.int .u32 (x.1.id:Int),.int .i64 x.2]] w fun e w'=>∃A C,e=.returned (.tuple #[.int .i64 (firstE bs),.slice A (gath bs x).length C])∧
  CarryTold KI w w' b F (addB bs x) (n+1) (work+(gath bs x).length) (.slice A (gath bs x).length C) (gath bs x):=by
 obtain ⟨vb,vs,h,rfl⟩:=h'
 obtain ⟨A,C,rfl⟩:=own_form h.list
 obtain ⟨hc0,hc1,hc2,hc3,hfr⟩:=h.cell
 have hlen:=Lib.hid h.len
 have hn':vs.length<1000000:=by rw [h.len];exact hn
 have hfb:firstE bs<1000000:=Nat.lt_of_le_of_lt (firstE_le bs) hn
 have HTOT:=Lib.hid htot
 have hUb:Upd [] w (w.alloc (.cells #[.int .i64 x.1.lo,.int .i64 x.1.hi,.int .u32 (x.1.id:Int),.int .i64 x.2] 200)):=(Upd.refl [] w).alloc _
 have hx0:(w.alloc (.cells #[.int .i64 x.1.lo,.int .i64 x.1.hi,.int .u32 (x.1.id:Int),.int .i64 x.2] 200)).cell? ⟨w.heap.size,0,none⟩=some (.int .i64 x.1.lo):=by rw [World.cell?_alloc_at _ _ _ _ rfl];rfl
 have hx1:(w.alloc (.cells #[.int .i64 x.1.lo,.int .i64 x.1.hi,.int .u32 (x.1.id:Int),.int .i64 x.2] 200)).cell? ⟨w.heap.size,1,none⟩=some (.int .i64 x.1.hi):=by rw [World.cell?_alloc_at _ _ _ _ rfl];rfl
 have hx2:(w.alloc (.cells #[.int .i64 x.1.lo,.int .i64 x.1.hi,.int .u32 (x.1.id:Int),.int .i64 x.2] 200)).cell? ⟨w.heap.size,2,none⟩=some (.int .u32 (x.1.id:Int)):=by rw [World.cell?_alloc_at _ _ _ _ rfl];rfl
 have hx3:(w.alloc (.cells #[.int .i64 x.1.lo,.int .i64 x.1.hi,.int .u32 (x.1.id:Int),.int .i64 x.2] 200)).cell? ⟨w.heap.size,3,none⟩=some (.int .i64 x.2):=by rw [World.cell?_alloc_at _ _ _ _ rfl];rfl
 have hpF:w.heap.size∉foot b (.slice A vs.length C) vs:=fun hc=>Nat.lt_irrefl _ (h.lt _ hc)
 have hpb:w.heap.size<(w.alloc (.cells #[.int .i64 x.1.lo,.int .i64 x.1.hi,.int .u32 (x.1.id:Int),.int .i64 x.2] 200)).heap.size:=by simp
 have h':=h.upd hUb (by simp)
 obtain ⟨hc0,hc1,hc2,hc3,_⟩:=h'.cell
 have H:=Lib.hid h';clear h h' hfr hn htot
 go_enter Tryz.func141,Tryz.ntmps141
 go_upto_block 0 with (go_at_call 208;refine (noneI _ _ hc0).mono ?_;rintro e w' ⟨rfl,rfl⟩)
 generalize (w.alloc (.cells #[.int .i64 x.1.lo,.int .i64 x.1.hi,.int .u32 (x.1.id:Int),.int .i64 x.2] 200))=wb at *
 have HUB:=Lib.hid hUb
 clear hUb
 go_cut [6] (fun s6 wc=>s6=.int .i64 (firstE bs)∧wb=wc)
 case first=>
  go_wp2_with fail
  go_loopg [6] vs.length (fun m i wr=>∃k:Nat,k≤firstE bs∧i=.int .i64 k∧m+k=vs.length∧wr=wb)
  case atStart=>exact ⟨0,Nat.zero_le _,rfl,rfl,rfl⟩
  case round=>
   obtain ⟨k,hk,rfl,hmk,rfl⟩:=hrel
   have hfl:=firstE_le bs
   by_cases hlt:k<vs.length
   ·obtain ⟨g,Ak,Ck,l,hA,hbk,hvk,hcell,hfro,hgb,hrow⟩:=H.out.at hlt
    subst hA
    have HR:=Lib.hid hrow;clear hrow hvk hfro
    have HB:=Lib.hid hbk;clear hbk
    have HM:=Lib.hid hmk;clear hmk
    by_cases hl:0<l.length
    ·go_wp2
     go_roundg (gk - 1)
     case measure=>have:=HM.out;omega
     case rel=>
      have hne:k≠firstE bs:=fun e=>by
       have:=firstE_empty bs l (by rw [←e];exact HB.out)
       subst this;simp at hl
      exact ⟨k+1,by omega,by go_num,by have:=HM.out;omega,rfl⟩
    ·go_wp2
     go_meet
     case rel=>
      have hne:firstE bs=k:=by
       refine Nat.le_antisymm ?_ hk
       refine Nat.le_of_not_lt fun hh=>?_
       exact firstE_full bs k l hh HB.out (List.eq_nil_of_length_eq_zero (by omega))
      exact ⟨by rw [hne],rfl⟩
   ·go_wp2
    go_meet
    case rel=>
     have:=hlen.out
     exact ⟨by rw [show k=firstE bs from by omega],rfl⟩
 case rest=>
  obtain ⟨rfl,rfl⟩:=hcut
  obtain ⟨i0,hi0,hz0,hz1,hz2⟩:=info_parts info_rows64
  obtain ⟨i1,hi1,hy0,hy1,hy2⟩:=info_parts info_int64
  have hfl:=firstE_le bs
  go_upto_if 37 with fail
  go_cut [] (fun wc=>∃bs':List (List (Sp×Nat)),AddSt KI wb wc (foot b (.slice A vs.length C) vs) b bs' n work (firstE bs) (firstE bs) (.slice none 0 0)∧bs'.take (firstE bs)=bs.take (firstE bs)∧bs'.drop (firstE bs+1)=bs.drop (firstE bs+1)∧bs'.length≤bs.length+1)
  case first=>
   by_cases hi:firstE bs<vs.length
   ·have hlt:((firstE bs:Int)==(vs.length:Int))=false:=by simp;omega
    go_wp2
    go_meet
    case rel=>
     have:=hlen.out
     exact ⟨bs,AddSt.start H.out (Upd.refl _ _) (fun k hk=>.inl hk) (by omega),rfl,rfl,by omega⟩
   ·have hle:firstE bs≤vs.length:=by rw [hlen.out];exact hfl
    have hlt:((firstE bs:Int)==(vs.length:Int))=true:=by simp;omega
    go_wp2_with (at_builtin;refine wpList_app _ rfl _ _ 281 rfl 0 206 i0 (.slice none 0 0) 1 24 Tryz.underlying281 hi0 hz0 hz1 hz2 rfl (by decide) _ _ vs rfl (H.out.list.alloc _) _ 1 [.slice none 0 0] rfl (sees_lit wb #[.slice none 0 0] 206 1 1 rfl (by decide)) (by simp [Value.oneCell']) (by unfold maxLen;omega) (by omega) (by simp) ?_)
    intro A' C' w1 HP
    have hup:Upd (blk (.slice A vs.length C)) wb w1:=((Upd.refl _ _).alloc _).trans HP.upd
    have hb1:=hup.block b (lt_of_block H.out.head) H.out.self
    have hc1':w1.cell? ⟨b,1,none⟩=some (.slice A vs.length C):=(World.cell?_of_block hb1).trans hc1
    have hf1':w1.frozen? ⟨b,1,none⟩=false:=(World.frozen?_of_block hb1).trans (H.out.cell.2.2.2.2 1)
    have HG:=Lib.hid hup
    clear hup hb1
    go_wp2
    go_meet
    case rel=>
     have hs:=H.out.snoc HP.own HG.out (by rcases HP.at with h' | h';exact .inl h';exact .inr ⟨_,h',by simp⟩)
     have e1:=hlen.out
     refine ⟨bs++[[]],AddSt.start hs ?_ ?_ (by simp;omega),?_,?_,by simp⟩
     ·exact (HG.out.mono (G:=foot b (.slice A vs.length C) vs) fun k hk=>.inl (mem_foot.2 (.inr (.inl hk)))).setCell (p:=⟨b,1,none⟩) (.inl (mem_foot.2 (.inl rfl))) _
     ·intro k hk
      rw [mem_foot] at hk
      rcases hk with rfl | hk | ⟨j,v,hv,hk⟩
      ·exact .inl (mem_foot.2 (.inl rfl))
      ·rcases HP.at with h' | h'
       ·rw [h'] at hk;exact .inl (mem_foot.2 (.inr (.inl hk)))
       ·rw [h'] at hk;simp at hk;right;omega
      ·rw [List.getElem?_append] at hv
       split at hv
       ·exact .inl (mem_foot.2 (.inr (.inr ⟨j,v,hv,hk⟩)))
       ·have:v=.slice none 0 0:=by
         have:=List.mem_of_getElem? hv
         simpa using this
        subst this;simp [blk] at hk
     ·rw [List.take_append_of_le_length (by omega)]
     ·rw [List.drop_eq_nil_of_le (by simp;omega),List.drop_eq_nil_of_le (by omega)]
  case rest=>
   obtain ⟨bs',HS,htk,hdp,hbl⟩:=hcut
   have hbl':bs'.length<1000001:=by have:=hlen.out;omega
   clear hbl
   have HT:=Lib.hid htk;clear htk
   have HD:=Lib.hid hdp;clear hdp
   have HA:=Lib.hid HS;clear HS
   clear hc0 hc1 hc2 hc3
   go_upto_block 2 with fail
   go_cut [7] (fun s7 wc=>∃Al Cl,s7=.slice Al ((bs.take (firstE bs)).reverse.flatten).length Cl∧AddSt KI wb wc (foot b (.slice A vs.length C) vs) b bs' n work (firstE bs) 0 (.slice Al ((bs.take (firstE bs)).reverse.flatten).length Cl))
   case first=>
    go_wp2_with fail
    go_loopg [7,8] (firstE bs) (fun m all k wr=>∃Al Cl,all=.slice Al (((bs.take (firstE bs)).drop m).reverse.flatten).length Cl∧k=.int .i64 ((m:Int) - 1)∧
     AddSt KI wb wr (foot b (.slice A vs.length C) vs) b bs' n work (firstE bs) m (.slice Al (((bs.take (firstE bs)).drop m).reverse.flatten).length Cl))
    case atStart=>
     refine ⟨none,0,?_,rfl,?_⟩
     ·rw [List.drop_eq_nil_of_le (by simp;omega)];rfl
     ·rw [List.drop_eq_nil_of_le (by simp;omega)];exact HA.out
    case round=>
     obtain ⟨Al,Cl,rfl,rfl,vb,vs',hc,hrow,hal,hup,hF,hmi,hib,hsz⟩:=hrel
     have hlen':=hc.len
     by_cases hm:gk=0
     ·subst hm
      go_wp2
      go_meet
      case rel=>exact ⟨Al,Cl,by simp,vb,vs',hc,hrow,hal,hup,hF,hmi,hib,hsz⟩
     ·obtain ⟨m,rfl⟩:∃m,gk=m+1:=⟨gk - 1,by omega⟩
      obtain ⟨A1,C1,rfl⟩:=own_form hc.list
      obtain ⟨g,Am,Cm,l,hA,hbk,hvk,hcell,hfro,hgb,hrowm⟩:=hc.at (k:=m) (by rw [hlen'];simp;omega)
      subst hA
      have hbk':bs'[m]? = some l:=by
       rw [List.append_assoc,List.getElem?_append_left (by simp;omega),List.getElem?_take,if_pos (by omega)] at hbk
       exact hbk
      have hstep:=gath_step bs' (firstE bs) m l (by omega) hbk'
      rw [HT.out] at hstep
      have hbd:=gath_len bs (firstE bs) m
      rw [hstep,List.length_append] at hbd
      have hcc:=hc.cell.2.1
      have hmn:m<vs'.length:=by rw [hlen'];simp;omega
      have hbn:vs'.length<1000001:=by rw [hlen'];simp;omega
      have e8:(((m+1:Nat):Int) - 1)=(m:Int):=by omega
      rw [e8]
      rw [HT.out] at hrow
      obtain ⟨L,hL⟩:∃L,L=((bs.take (firstE bs)).drop (m+1)).reverse.flatten:=⟨_,rfl⟩
      rw [←hL] at hrow hal hstep hbd ⊢
      have HLL:=Lib.hid hL;clear hL
      have HL:=Lib.hid hlen';clear hlen'
      have HX:=Lib.hid hstep;clear hstep
      have HB:=Lib.hid hbd;clear hbd
      have HK:=Lib.hid hbk';clear hbk' hbk hvk
      have HC:=Lib.hid hc;clear hc
      have HAL:=Lib.hid hal;clear hal
      have HF:=Lib.hid hF;clear hF
      have HR:=Lib.hid hrow;clear hrow
      have HRM:=Lib.hid hrowm;clear hrowm
      clear e8
      go_wp2_with (at_builtin;refine wpList_app _ rfl _ _ 206 rfl 0 200 i1 (.agg #[.int .i64 0,.int .i64 0,.int .u32 0,.int .i64 0]) 4 32 Tryz.underlying206 hi1 hy0 hy1 hy2 rfl (by decide) _ _ _ rfl HR.out _ l.length (KI.all l) rfl (sees_of_own HRM.out) (KI.all_one l) (by have:=HB.out;have:=HTOT.out;unfold maxLen;omega) (by have:=HB.out;have:=HTOT.out;omega) (Nat.zero_le _) ?_)
      intro A2 C2 w1 HP
      have hc1:=HC.out.upd HP.upd fun k hk hc=>(HAL.out k hc).2 hk
      have hcc1:=hc1.cell.2.1
      obtain ⟨g',_,_,l',hA',_,_,hcell1,hfro1,_,_⟩:=hc1.at hmn
      cases hA'
      have HC1:=Lib.hid hc1;clear hc1
      go_wp2
      go_roundg m
      case measure=>omega
      case rel=>
       have hst:=AddSt.step HC.out HAL.out hup HF.out hmi hib hsz HK.out (all':=.slice A2 (L.length+l.length) C2) (by
        rw [HT.out,←HLL.out]
        unfold Kind.row
        rw [Kind.all_app,List.length_append]
        exact HP.own) HP.2.1 HP.at
       refine ⟨A2,C2,?_,rfl,?_⟩
       ·rw [HX.out,List.length_append]
       ·rw [HX.out,List.length_append];exact hst
   case rest=>
    obtain ⟨Al,Cl,rfl,vb,vs',hc,hrow,hal,hup,hF,_,hib,hsz⟩:=hcut
    have hlen':=hc.len
    obtain ⟨A1,C1,rfl⟩:=own_form hc.list
    obtain ⟨g,Am,Cm,l,hA,hbk,hvk,hcell,hfro,hgb,hrowm⟩:=hc.at (k:=firstE bs) (by rw [hlen'];simp;omega)
    subst hA
    have hcc:=hc.cell.2.1
    have hmn:firstE bs<vs'.length:=by rw [hlen'];simp;omega
    have hbn:vs'.length<1000001:=by rw [hlen'];simp;omega
    rw [List.drop_zero,HT.out] at hrow
    have hbd:=gath_len bs (firstE bs) 0
    rw [List.drop_zero] at hbd
    obtain ⟨L,hL⟩:∃L,L=(bs.take (firstE bs)).reverse.flatten:=⟨_,rfl⟩
    rw [←hL] at hrow hal hbd ⊢
    have HLL:=Lib.hid hL;clear hL
    have HL:=Lib.hid hlen';clear hlen' hbk hvk
    have HB:=Lib.hid hbd;clear hbd
    have HC:=Lib.hid hc;clear hc
    have HAL:=Lib.hid hal;clear hal
    have HUP:=Lib.hid hup
    have HF:=Lib.hid hF;clear hF
    have HR:=Lib.hid hrow;clear hrow
    have HRM:=Lib.hid hrowm;clear hrowm
    have hi0':(0:Int)≤(firstE bs:Int):=Int.natCast_nonneg _
    have hi1':(firstE bs:Int)<(vs'.length:Int):=by omega
    have hgl:g∉blk (.slice Al L.length Cl):=fun hk=>(HAL.out g hk).2 (mem_foot.2 (.inr (.inl (by simp [blk]))))
    have hbl2:b∉blk (.slice Al L.length Cl):=fun hk=>(HAL.out b hk).2 (mem_foot.2 (.inl rfl))
    have hgs:g<wc.heap.size:=World.block_lt_of_cell? wc _ hcell
    have hbs':b<wc.heap.size:=World.block_lt_of_cell? wc _ hcc
    have hfa:∀o,(wc.alloc o).frozen? ⟨g,firstE bs,none⟩=false:=fun o=>by rw [World.frozen?_alloc_past _ _ _ hgs];exact hfro
    have hca:∀o,(wc.alloc o).cell? ⟨g,firstE bs,none⟩=some (.slice Am l.length Cm):=fun o=>by rw [World.cell?_alloc_past _ _ _ hgs];exact hcell
    have hda:∀o,(wc.alloc o).cell? ⟨b,1,none⟩=some (.slice (some ⟨g,0,none⟩) vs'.length C1):=fun o=>by rw [World.cell?_alloc_past _ _ _ hbs'];exact hcc
    obtain ⟨p,hp⟩:∃p,w.heap.size=p:=⟨_,rfl⟩
    rw [hp] at hx0 hx1 hx2 hx3 hpF hpb ⊢
    have hx0':=(HUP.out.cell (p:=⟨p,0,none⟩) hpb hpF).trans hx0
    have hx1':=(HUP.out.cell (p:=⟨p,1,none⟩) hpb hpF).trans hx1
    have hx2':=(HUP.out.cell (p:=⟨p,2,none⟩) hpb hpF).trans hx2
    have hx3':=(HUP.out.cell (p:=⟨p,3,none⟩) hpb hpF).trans hx3
    have hpl:p∉blk (.slice Al L.length Cl):=fun hk=>by have:=(HAL.out p hk).1;omega
    have hps:p<wc.heap.size:=World.block_lt_of_cell? wc _ hx0'
    have he0:∀o,(wc.alloc o).cell? ⟨p,0,none⟩=some (.int .i64 x.1.lo):=fun o=>by rw [World.cell?_alloc_past _ _ _ hps];exact hx0'
    have he1:∀o,(wc.alloc o).cell? ⟨p,1,none⟩=some (.int .i64 x.1.hi):=fun o=>by rw [World.cell?_alloc_past _ _ _ hps];exact hx1'
    have he2:∀o,(wc.alloc o).cell? ⟨p,2,none⟩=some (.int .u32 (x.1.id:Int)):=fun o=>by rw [World.cell?_alloc_past _ _ _ hps];exact hx2'
    have he3:∀o,(wc.alloc o).cell? ⟨p,3,none⟩=some (.int .i64 x.2):=fun o=>by rw [World.cell?_alloc_past _ _ _ hps];exact hx3'
    have hpg:p≠g:=by
     intro e
     rcases HF.out g (mem_foot.2 (.inr (.inl (by simp [blk])))) with h | h
     ·exact hpF (by rw [e];exact h)
     ·omega
    have hgp:g≠p:=Ne.symm hpg
    have HPP:=Lib.hid hp
    clear hp hx0 hx1 hx2 hx3
    go_upto_region 14 with fail
    go_region_held3 (fun w'=>w'.cell? ⟨b,1,none⟩=some (.slice (some ⟨g,0,none⟩) vs'.length C1)∧w'.cell? ⟨p,0,none⟩=some (.int .i64 x.1.lo)∧w'.cell? ⟨p,1,none⟩=some (.int .i64 x.1.hi)∧w'.cell? ⟨p,2,none⟩=some (.int .u32 (x.1.id:Int))∧w'.cell? ⟨p,3,none⟩=some (.int .i64 x.2))
     (first
      |go_keep
      |(exact ⟨hcc,hx0',hx1',hx2',hx3'⟩) | (have hu:=HP2.upd;exact ⟨(hu.cell (p:=⟨b,1,none⟩) (by simp;omega) hbl2).trans (hda _),(hu.cell (p:=⟨p,0,none⟩) (by simp;omega) hpl).trans (he0 _),(hu.cell (p:=⟨p,1,none⟩) (by simp;omega) hpl).trans (he1 _),(hu.cell (p:=⟨p,2,none⟩) (by simp;omega) hpl).trans (he2 _),(hu.cell (p:=⟨p,3,none⟩) (by simp;omega) hpl).trans (he3 _)⟩))
     ((refine step_app _ (by rfl) _ _ 206 (by rfl) 0 200 i1 (.agg #[.int .i64 0,.int .i64 0,.int .u32 0,.int .i64 0]) 4 32 Tryz.underlying206 hi1 hy0 hy1 hy2 rfl (by decide) _ _ _ (by rfl) (owns_drew (HR.out.alloc _)) _ 1 [.int .i64 x.1.lo,.int .i64 x.1.hi,.int .u32 (x.1.id:Int),.int .i64 x.2] (by rfl) (sees_lit wc #[.int .i64 x.1.lo,.int .i64 x.1.hi,.int .u32 (x.1.id:Int),.int .i64 x.2] 200 4 1 rfl (by decide)).drew (by simp [Value.oneCell']) (by have:=HB.out;have:=HTOT.out;unfold maxLen;omega) (by have:=HB.out;have:=HTOT.out;omega) (Nat.zero_le _) ?_;intro A3 C3 w2 HP2;have hst1:=((HP2.upd).cell (p:=⟨g,firstE bs,none⟩) (by simp;omega) hgl).trans (hca _);have hst2:=((HP2.upd).frozen (p:=⟨g,firstE bs,none⟩) (by simp;omega) hgl).trans (hfa _)))
    have hG:∀k∈blk (.slice A3 (L.length+1) C3),wb.heap.size≤k∧k∉foot b (.slice (some ⟨g,0,none⟩) vs'.length C1) vs':=by
     intro k hk
     rcases HP2.at with h' | h'
     ·rw [h'] at hk;exact HAL.out k hk
     ·rw [h'] at hk;simp at hk;subst hk
      exact ⟨by omega,fun hc=>by have:=HC.out.lt _ hc;omega⟩
    obtain ⟨hc3,hu3,hF3,hgx⟩:=AddSt.fill (w0:=wb) (w2:=w2) (x:=x) (v:=.slice A3 (L.length+1) C3) rfl HC.out hib HD.out HLL.out (((Upd.refl _ _).alloc _).drew.trans HP2.upd) HAL.out hup HF.out (by
     unfold Kind.row
     rw [Kind.all_app,List.length_append]
     exact HP2.own) hG
    clear hst1 hst2 hfa hca hda hcell hfro hcc
    generalize w2.setCell ⟨g,firstE bs,none⟩ (.slice A3 (L.length+1) C3)=w3 at *
    obtain ⟨_,hd1,hd2,hd3,hfr⟩:=hc3.cell
    obtain ⟨g',A4,C4,l4,hA',hb4,_,hcell4,_,_,hrow4⟩:=hc3.at (k:=firstE bs) (by rw [List.length_set];omega)
    cases hA'
    rw [addB_at] at hb4
    cases hb4
    have hglen:(gath bs x).length<1000001:=by rw [hgx,List.length_append];have:=HB.out;have:=HTOT.out;simp;omega
    have HC3:=Lib.hid hc3
    have HR4:=Lib.hid hrow4
    have HGX:=Lib.hid hgx
    have HU3:=Lib.hid hu3
    have HF3:=Lib.hid hF3
    clear hc3 hrow4 hgx hu3 hF3 hG
    have hd2':=hfr 2
    have hd3':=hfr 3
    clear hfr hgl hbl2
    go_upto_region 16 with fail
    go_region
    have e1:((n:Int)+1)=((n+1:Nat):Int):=by omega
    have e2:((work:Int)+((gath bs x).length:Int))=((work+(gath bs x).length:Nat):Int):=by omega
    rw [e1,e2]
    have hc5:=((HC3.out.count (n+1)).worked (work+(gath bs x).length)).drew
    have hu5:=((HU3.out.setCell (p:=⟨b,2,none⟩) (.inl (mem_foot.2 (.inl rfl))) (.int .i64 ((n+1:Nat):Int))).setCell (p:=⟨b,3,none⟩) (.inl (mem_foot.2 (.inl rfl))) (.int .i64 ((work+(gath bs x).length:Nat):Int))).drew
    generalize (((w3.setCell ⟨b,2,none⟩ (.int .i64 ((n+1:Nat):Int))).setCell ⟨b,3,none⟩ (.int .i64 ((work+(gath bs x).length:Nat):Int))).drew)=w5 at *
    clear e1 e2 hd1 hd2 hd3 hd2' hd3' hcell4
    obtain ⟨_,hd1,_,_,_⟩:=hc5.cell
    obtain ⟨g',A5,C5,l5,hA',hb5,_,hcell5,_,_,hrow5⟩:=hc5.at (k:=firstE bs) (by rw [List.length_set];omega)
    cases hA'
    rw [addB_at] at hb5
    cases hb5
    have HC5:=Lib.hid hc5
    have HU5:=Lib.hid hu5
    have HR5:=Lib.hid hrow5
    clear hc5 hu5 hrow5
    go_wp2_with (go_at_call 209;refine (clone_int64 _ _ _ _ (sees_of_own HR5.out) (KI.all_one _) (by omega)).mono ?_;rintro e w' ⟨A6,C6,rfl,hown6,hbel⟩)
    go_ret2
    have hup6:=Upd.of_below hbel
    refine ⟨A6,C6,rfl,_,⟨_,_,HC5.out.upd hup6 (by simp),rfl⟩,(HUB.out.mono (by simp)).trans' (HU5.out.trans' hup6 (by simp)) (fun x hx=>.inl hx),fun k hk=>(HF3.out k hk).imp id (Nat.le_trans HUB.out.size),?_,?_⟩
    ·exact own_base hown6 (Nat.le_trans HUB.out.size HU5.out.size)
    ·intro k hk hc
     have h1:=HC5.out.lt k hc
     have h2:=own_ge hown6 k hk
     omega
theorem setI (b:Nat) (F:List Nat) (s:Value) (l:List (Sp×Nat)) (bs:List (List (Sp×Nat))) (n work:Nat) (w:World) (h':IsCarry KI w b F bs n work) (hs:Sees w 4 s l.length (KI.all l)) (hsF:0<l.length→∀k∈blk s,k∉F)
 (hl:l.length<1000000) (hwk:work<1099511627776) :
 Calls Tryz.prog 210 #[.pointer (some ⟨b,0,none⟩),s] w fun e w'=>e=.returned (.int .i64 l.length)∧CarryStep KI w w' b F (setB l) l.length (work+l.length):=by
 obtain ⟨vb,vs,h,rfl⟩:=h'
 obtain ⟨A,C,rfl⟩:=sees_form hs
 obtain ⟨hc0,hc1,hc2,hc3,hfr⟩:=h.cell
 have hf1:=hfr 1
 have hf2:=hfr 2
 obtain ⟨i0,hi0,hz0,hz1,hz2⟩:=info_parts info_rows64
 have H:=Lib.hid h
 have HS:=Lib.hid hs
 have HSF:=Lib.hid hsF
 clear h hs hsF hfr
 go_enter Tryz.func210,Tryz.ntmps210
 go_upto_block 0 with (go_at_call 208;refine (noneI _ _ hc0).mono ?_;rintro e w' ⟨rfl,rfl⟩)
 have hr:=(H.out.reset).count l.length
 have hu:=((Upd.refl (foot b vb vs) w).setCell (p:=⟨b,1,none⟩) (.inl (mem_foot.2 (.inl rfl))) (.slice none 0 0)).setCell (p:=⟨b,2,none⟩) (.inl (mem_foot.2 (.inl rfl))) (.int .i64 l.length)
 have hst:CarryStep KI w ((w.setCell ⟨b,1,none⟩ (.slice none 0 0)).setCell ⟨b,2,none⟩ (.int .i64 l.length)) b (foot b vb vs) [] l.length work:=
  .mk hr hu fun k hk=>by
   rw [mem_foot] at hk
   rcases hk with hk | hk | ⟨j,u,hu',hk⟩
   ·exact .inl (mem_foot.2 (.inl hk))
   ·simp [blk] at hk
   ·simp at hu'
 have HST:=Lib.hid hst
 clear hst hr hu hc0 hc1 hc2 hc3 hf1 hf2
 generalize ((w.setCell ⟨b,1,none⟩ (.slice none 0 0)).setCell ⟨b,2,none⟩ (.int .i64 l.length))=wa at *
 go_cut [] (fun wc=>CarryStep KI w wc b (foot b vb vs) (List.replicate (bitsN l.length) []) l.length work)
 case first=>
  go_wp2_with fail
  go_loopg [5] (l.length) (fun m i wr=>i=.int .i64 m∧∃k,m=l.length / 2 ^ k∧(k=0∨2 ^ (k - 1)≤l.length)∧CarryStep KI w wr b (foot b vb vs) (List.replicate k []) l.length work)
  case atStart=>exact ⟨rfl,0,by simp,.inl rfl,by simpa using HST.out⟩
  case round=>
   obtain ⟨rfl,k,hk,hk1,hcs⟩:=hrel
   have HK:=Lib.hid hk;clear hk
   have HK1:=Lib.hid hk1;clear hk1
   obtain ⟨vb',vs',hc,hu,hF⟩:=hcs.out
   obtain ⟨A1,C1,rfl⟩:=own_form hc.list
   obtain ⟨_,hd1,_,_,hfr⟩:=hc.cell
   have hf1:=hfr 1
   have HC:=Lib.hid hc
   have HU:=Lib.hid hu
   have HF:=Lib.hid hF
   have HCS:=Lib.hid hcs
   have hgk:gk≤l.length:=by rw [HK.out];exact Nat.div_le_self _ _
   have hlen:vs'.length≤1000000:=by
    rw [hc.len];simp
    rcases HK1.out with h | h
    ·omega
    ·have h2:k - 1<2 ^ (k - 1):=Nat.lt_two_pow_self
     omega
   clear hc hu hF hcs hfr
   by_cases hm:gk=0
   ·subst hm
    go_wp2
    go_meet
    case rel=>
     have e:bitsN l.length=k:=bitsN_eq l.length k (by
      have:=HK.out
      rcases Nat.div_eq_zero_iff.1 this.symm with h | h
      ·have:=Nat.two_pow_pos k;omega
      ·exact h) HK1.out
     rw [e]
     exact HCS.out
   ·have hgk0:(0:Int)<(gk:Int):=by omega
    go_wp2_with (at_builtin;refine wpList_app _ rfl _ _ 281 rfl 0 206 i0 (.slice none 0 0) 1 24 Tryz.underlying281 hi0 hz0 hz1 hz2 rfl (by decide) _ _ vs' rfl (HC.out.list.alloc _) _ 1 [.slice none 0 0] rfl (sees_lit wr #[.slice none 0 0] 206 1 1 rfl (by decide)) (by simp [Value.oneCell']) (by unfold maxLen;omega) (by omega) (Nat.zero_le _) ?_)
    intro A2 C2 w1 HP
    have hc1:w1.cell? ⟨b,1,none⟩=some (.slice A1 vs'.length C1):=(World.cell?_of_block (((((Upd.refl _ _).alloc _).trans HP.upd:Upd (blk (.slice A1 vs'.length C1)) wr w1)).block b (lt_of_block HC.out.head) HC.out.self)).trans hd1
    have hf2:w1.frozen? ⟨b,1,none⟩=false:=(World.frozen?_of_block (((((Upd.refl _ _).alloc _).trans HP.upd:Upd (blk (.slice A1 vs'.length C1)) wr w1)).block b (lt_of_block HC.out.head) HC.out.self)).trans hf1
    go_wp2
    have h2:(gk:Int) / 2=((gk / 2:Nat):Int):=by omega
    rw [h2]
    go_roundg (gk / 2)
    case measure=>omega
    case rel=>
     refine ⟨rfl,k+1,?_,.inr ?_,?_⟩
     ·rw [HK.out,Nat.pow_succ,Nat.div_div_eq_div_mul]
     ·have h3:=HK.out
      have h4:1≤l.length / 2 ^ k:=by omega
      have h5:=(Nat.le_div_iff_mul_le (Nat.two_pow_pos k)).1 h4
      simpa using h5
     ·have:=CarryStep.snoc HC.out HU.out HF.out HP
      rw [List.replicate_succ',]
      exact this
 case rest=>
  obtain ⟨vb1,vs1,hc1,hu1,hF1⟩:=hcut.out
  obtain ⟨A1,C1,rfl⟩:=own_form hc1.list
  have hd1:=hc1.cell.2.1
  have hB:bitsN l.length≤20:=bitsN_le _ _ (by omega)
  have hv1:vs1.length=bitsN l.length:=by rw [hc1.len];simp
  have hv2:=hv1
  rw [hv1] at hd1
  have HCUT:=Lib.hid hcut
  have HV:=Lib.hid hv1
  obtain ⟨i1,hi1,hy0,hy1,hy2⟩:=info_parts info_int64
  have hseen:∀w',Upd (foot b vb vs) w w'→Sees w' 4 (.slice A l.length C) l.length (KI.all l):=fun w' hu'=>sees_upd HS.out hu' fun h0 k hk _=>HSF.out h0 k hk
  have HSEEN:=Lib.hid hseen
  clear hc1 hu1 hF1 hv1 hv2 hcut hseen
  go_upto_block 2 with fail
  go_cut [] (fun wz=>CarryStep KI w wz b (foot b vb vs) (setB l) l.length work)
  case first=>
   go_wp2_with fail
   go_loopg [6,7] (bitsN l.length) (fun m r i wr=>i=.int .i64 ((m:Int) - 1)∧m≤bitsN l.length∧∃Ar Cr,r=.slice Ar (l.length % 2 ^ m) Cr∧
    (∀w',Upd (foot b vb vs) w w'→Sees w' 4 (.slice Ar (l.length % 2 ^ m) Cr) (l.length % 2 ^ m) ((KI.all l).drop (l.length / 2 ^ m*2 ^ m*4)))∧CarryStep KI w wr b (foot b vb vs) (setFrom l m) l.length work)
   case atStart=>
    have h1:=Nat.mod_eq_of_lt (bitsN_lt l.length)
    have h2:=Nat.div_eq_of_lt (bitsN_lt l.length)
    refine ⟨?_,Nat.le_refl _,A,C,by rw [h1],?_,?_⟩
    ·rfl
    ·rw [h1,h2]
     intro w' hu'
     simpa using HSEEN.out w' hu'
    ·rw [setFrom_top];exact HCUT.out
   case round=>
    obtain ⟨rfl,hgb,Ar,Cr,rfl,hsee,hcs⟩:=hrel
    obtain ⟨vb',vs',hc,hu,hF⟩:=hcs.out
    obtain ⟨A2,C2,rfl⟩:=own_form hc.list
    have hdd:=hc.cell.2.1
    have hvl:vs'.length=bitsN l.length:=by rw [hc.len];simp [setFrom]
    rw [hvl] at hdd
    by_cases hm:gk=0
    ·subst hm
     rw [setFrom_zero] at hcs
     have HCS:=Lib.hid hcs
     clear hsee hc hu hF hcs hvl
     go_wp2
     go_meet
     case rel=>exact HCS.out
    ·obtain ⟨m,rfl⟩:∃m,gk=m+1:=⟨gk - 1,by omega⟩
     obtain ⟨g,Am,Cm,lm,hA,hbk,hvk,hcell,hfro,hgb',hrowm⟩:=hc.at (k:=m) (by omega)
     subst hA
     have hpb:2 ^ m<2 ^ 62:=Nat.pow_lt_pow_right (by omega) (by omega)
     have hml:m<bitsN l.length:=by omega
     obtain ⟨p,hp⟩:∃p,2 ^ m=p:=⟨_,rfl⟩
     have hp0:0<p:=by rw [←hp];exact Nat.two_pow_pos m
     have hshl:Value.int .i64 (wrap64 ((2:Int) ^ m))=Value.int .i64 (p:Int):=by rw [shl_spelt m p (by omega) hp]
     have hand:=and_spelt l.length (2 ^ m) _ (by omega) hpb (and_two_pow _ _)
     rw [hp] at hand
     have e8:(((m+1:Nat):Int) - 1)=(m:Int):=by omega
     rw [e8]
     clear e8
     have hm0:(0:Int)≤(m:Int):=Int.natCast_nonneg _
     have hm1:(m:Int)<(bitsN l.length:Int):=by omega
     obtain ⟨n1,hn1⟩:∃n1,l.length % 2 ^ (m+1)=n1:=⟨_,rfl⟩
     rw [hn1] at hsee ⊢
     have hn1b:n1≤l.length:=by rw [←hn1];exact Nat.mod_le _ _
     by_cases hb:l.length.testBit m=true
     ·rw [if_pos hb] at hand
      have hne:((p:Int)==0)=false:=by simp;omega
      have hne':((p:Int) != 0)=true:=by simp;omega
      have hpn:p≤n1:=by
       have:=rest_yes l.length m hb
       omega
      have hsw:=hsee wr hu
      obtain ⟨A3,C3,hrun3,hsee3,hblk3⟩:=cut_to (P:=Tryz.prog) Tryz.underlying206 hi1 hy1 hsw p hpn
      obtain ⟨A4,C4,hrun4,hsee4,hblk4⟩:=cut_from (P:=Tryz.prog) Tryz.underlying206 hi1 hy1 hsw p hpn
      have hsw3:=hsee3 wr hsw
      have HSW:=Lib.hid hsw
      have HS3:=Lib.hid hsee3
      have HS4:=Lib.hid hsee4
      have HSEE:=Lib.hid hsee
      have HSW3:=Lib.hid hsw3
      have HC:=Lib.hid hc
      have HU:=Lib.hid hu
      have HF:=Lib.hid hF
      have HVL:=Lib.hid hvl
      have HP:=Lib.hid hp
      have HN1:=Lib.hid hn1
      clear hsw hsee3 hsee4 hblk3 hblk4 hsee hsw3 hc hu hF hvl hbk hvk hrowm hp hn1 hcs hpb
      have hgw:g<wr.heap.size:=World.block_lt_of_cell? wr _ hcell
      have hbw:b<wr.heap.size:=World.block_lt_of_cell? wr _ hdd
      go_upto_region 14 with fail
      have hlt5:p*32≤140737488355328:=by omega
      go_region_held3 (fun w'=>w'.cell? ⟨b,1,none⟩=some (.slice (some ⟨g,0,none⟩) (bitsN l.length) C2))
       (first
        |go_keep
        |(exact (hbel.cell (p:=⟨b,1,none⟩) (by simp;omega)).trans hdd))
       ((go_at_call 209;refine (clone_int64 _ p _ _ (Sees.drew HSW3.out) (fun u hu=>KI.all_one l u (List.mem_of_mem_drop (List.mem_of_mem_take hu))) hlt5).mono ?_;rintro e w1 ⟨A5,C5,rfl,hown5,hbel⟩;have hst1:=(hbel.cell (p:=⟨g,m,none⟩) (by simp;omega)).trans hcell;have hst2:=(hbel.frozen (p:=⟨g,m,none⟩) (by simp;omega)).trans hfro))
      go_wp2
      go_roundg m
      case measure=>omega
      case rel=>
       have hpos:l.length % 2 ^ m=n1 - p:=by
        have:=rest_yes l.length m hb
        rw [HN1.out,HP.out] at this
        rw [HP.out]
        omega
       have htop:=top_yes l.length m hb
       have hrow:KI.row w1 0 (.slice A5 p C5) (bucketOf l m):=by
        have hbu:bucketOf l m=(l.drop (l.length / 2 ^ (m+1)*2 ^ (m+1))).take p:=by unfold bucketOf;rw [if_pos hb,HP.out]
        have hlen:(bucketOf l m).length=p:=by
         rw [hbu,List.length_take,List.length_drop,rest_is,HN1.out]
         exact Nat.min_eq_left hpn
        unfold Kind.row
        rw [hlen,hbu,Kind.all_take,Kind.all_drop]
        show w1.ownsRow 0 200 4 _ _ (List.take (p*4) (List.drop (_*4) _))
        exact own_base hown5 (Nat.zero_le _)
       have hst:=CarryStep.put (w:=w) HC.out rfl HU.out HF.out (((Upd.refl [] wr).drew).trans (Upd.of_below hbel)) m hrow (own_ge hown5)
       rw [setFrom_step] at hst
       refine ⟨rfl,by omega,A4,C4,by rw [hpos],?_,?_⟩
       ·rw [hpos]
        intro w' hu'
        have:=HS4.out w' (HSEE.out w' hu')
        have e:l.length / 2 ^ (m+1)*2 ^ (m+1)+p=l.length / 2 ^ m*2 ^ m:=by rw [htop,HP.out]
        rw [List.drop_drop,←Nat.add_mul,e] at this
        exact this
       ·exact hst
     ·have hb':l.length.testBit m=false:=by simpa using hb
      rw [if_neg hb] at hand
      have HSEE:=Lib.hid hsee
      have HCS:=Lib.hid hcs
      have HP:=Lib.hid hp
      have HN1:=Lib.hid hn1
      clear hsee hc hu hF hvl hbk hvk hrowm hp hn1 hcs hpb
      go_wp2
      go_roundg m
      case measure=>omega
      case rel=>
       have hpos:l.length % 2 ^ m=n1:=by rw [←rest_no l.length m hb',HN1.out]
       have htop:=top_no l.length m hb'
       refine ⟨rfl,by omega,Ar,Cr,by rw [hpos],?_,?_⟩
       ·rw [hpos,htop]
        exact HSEE.out
       ·rw [←setFrom_same l m hb'];exact HCS.out
  case rest=>
   have hst:=hcut
   obtain ⟨vb2,vs2,hc2,hu2,hF2⟩:=hcut.out
   obtain ⟨_,_,_,hd3,hfr⟩:=hc2.cell
   have hf3:=hfr 3
   have HC:=Lib.hid hc2
   have HU:=Lib.hid hu2
   have HF:=Lib.hid hF2
   clear hc2 hu2 hF2 hfr hst hcut
   go_wp2
   go_ret
   have e2:((work:Int)+(l.length:Int))=((work+l.length:Nat):Int):=by omega
   rw [e2]
   refine ⟨rfl,.mk (HC.out.worked _) (HU.out.setCell (p:=⟨b,3,none⟩) (HF.out b (mem_foot.2 (.inl rfl))) _) HF.out⟩
theorem newI (w:World) :
 Calls Tryz.prog 137 #[] w fun e w'=>∃b,e=.returned (.pointer (some ⟨b,0,none⟩))∧IsCarry KI w' b [b] [] 0 0∧w.heap.size≤b∧Upd [] w w':=by
 go_enter Tryz.func137,Tryz.ntmps137
 go_wp2
 go_ret
 refine ⟨w.heap.size,rfl,⟨.slice none 0 0,[],⟨heap_alloc_new w _,World.ownsRow_nil _ _ _ _,rfl,by simp,by simp [blk],by simp,by simp⟩,rfl⟩,Nat.le_refl _,(Upd.refl _ _).alloc _⟩
theorem lenI (b:Nat) (F:List Nat) (bs:List (List (Sp×Nat))) (n work:Nat) (w:World) (h:IsCarry KI w b F bs n work) :
 Calls Tryz.prog 143 #[.pointer (some ⟨b,0,none⟩)] w fun e w'=>e=.returned (.int .i64 n)∧w=w':=by
 obtain ⟨vb,vs,h,rfl⟩:=h
 obtain ⟨hc0,hc1,hc2,hc3,_⟩:=h.cell
 clear h
 go_enter Tryz.func143,Tryz.ntmps143
 go_wp2_with (go_at_call 208;refine (noneI _ _ hc0).mono ?_;rintro e w' ⟨rfl,rfl⟩)
 go_ret
 exact ⟨rfl,rfl⟩
theorem workI (b:Nat) (F:List Nat) (bs:List (List (Sp×Nat))) (n work:Nat) (w:World) (h:IsCarry KI w b F bs n work) :
 Calls Tryz.prog 148 #[.pointer (some ⟨b,0,none⟩)] w fun e w'=>e=.returned (.int .i64 work)∧w=w':=by
 obtain ⟨vb,vs,h,rfl⟩:=h
 obtain ⟨hc0,hc1,hc2,hc3,_⟩:=h.cell
 clear h
 go_enter Tryz.func148,Tryz.ntmps148
 go_wp2_with (go_at_call 208;refine (noneI _ _ hc0).mono ?_;rintro e w' ⟨rfl,rfl⟩)
 go_ret
 exact ⟨rfl,rfl⟩
theorem levelsI (b:Nat) (F:List Nat) (bs:List (List (Sp×Nat))) (n work:Nat) (w:World) (h:IsCarry KI w b F bs n work) :
 Calls Tryz.prog 212 #[.pointer (some ⟨b,0,none⟩)] w fun e w'=>e=.returned (.int .i64 bs.length)∧w=w':=by
 obtain ⟨vb,vs,h,rfl⟩:=h
 obtain ⟨A,C,rfl⟩:=own_form h.list
 obtain ⟨hc0,hc1,hc2,hc3,_⟩:=h.cell
 have hl:=h.len
 rw [hl] at hc1
 clear h
 have HL:=Lib.hid hl
 clear hl
 go_enter Tryz.func212,Tryz.ntmps212
 go_wp2_with (go_at_call 208;refine (noneI _ _ hc0).mono ?_;rintro e w' ⟨rfl,rfl⟩)
 go_ret
 exact ⟨rfl,rfl⟩
theorem bucketI_in (b:Nat) (F:List Nat) (i:Nat) (l:List (Sp×Nat)) (bs:List (List (Sp×Nat))) (n work:Nat) (w:World) (h:IsCarry KI w b F bs n work) (hi:bs[i]? = some l) (hb:l.length<1000000) :
 Calls Tryz.prog 213 #[.pointer (some ⟨b,0,none⟩),.int .i64 i] w fun e w'=>∃A C,e=.returned (.slice A l.length C)∧KI.row w' w.heap.size (.slice A l.length C) l∧Upd [] w w':=by
 obtain ⟨vb,vs,h,rfl⟩:=h
 obtain ⟨A,C,rfl⟩:=own_form h.list
 obtain ⟨hc0,hc1,hc2,hc3,_⟩:=h.cell
 have hl:=h.len
 have hlt:i<bs.length:=by
  rcases Nat.lt_or_ge i bs.length with h' | h'
  ·exact h'
  ·rw [List.getElem?_eq_none h'] at hi;cases hi
 obtain ⟨g,Ak,Ck,l',hA,hbk,_,hcell,_,_,hrow⟩:=h.at (k:=i) (by omega)
 subst hA
 rw [hi] at hbk
 cases hbk
 rw [hl] at hc1
 clear h
 have HL:=Lib.hid hl
 have HI:=Lib.hid hi
 have HR:=Lib.hid hrow
 clear hl hi hrow
 have h0:(0:Int)≤(i:Int):=Int.natCast_nonneg _
 have h1:(i:Int)<(bs.length:Int):=by omega
 go_enter Tryz.func213,Tryz.ntmps213
 go_wp2_with (first | (go_at_call 208;refine (noneI _ _ hc0).mono ?_;rintro e w' ⟨rfl,rfl⟩) | (go_at_call 209;refine (clone_int64 _ _ _ _ (sees_of_own HR.out) (KI.all_one _) (by omega)).mono ?_;rintro e w' ⟨A6,C6,rfl,hown6,hbel⟩))
 go_ret
 exact ⟨A6,C6,rfl,hown6,Upd.of_below hbel⟩
end Go.Proofs.YtkbaaonchdeneaaGreat.CSp
