/- carry.Carry of half.cell[gridiron/api.Box]: what each call does to the buckets in memory. Printed by mkcar.py. -/
import Derived.Deep.RegionHeld3
import Derived.Deep.DeepCutAuto
import Derived.Deep.CutBlock
import Derived.Deep.Light
import Derived.Test.YtkbaaonchdeneaaGreatPb5
set_option maxHeartbeats 400000
set_option maxRecDepth 100000
namespace Go.Proofs.YtkbaaonchdeneaaGreat.UW
open Go.RowKit
def KI:Kind (Bx×Nat):={ T:=249,sT:=178,eT:=160,sz:=6,enc:=fun x=>[.int .i64 x.1.x1,.int .i64 x.1.x2,.int .i64 x.1.y1,.int .i64 x.1.y2,.int .u32 (x.1.id:Int),.int .i64 x.2],len:=fun _=>rfl,one:=fun x u hu=>by simp at hu;rcases hu with rfl | rfl | rfl | rfl | rfl | rfl<;>rfl }
theorem D9:(Tryz.prog.info? 160).map (fun i=>(i.zero,i.size,i.bytes))=some (some (.agg #[.int .i64 0,.int .i64 0,.int .i64 0,.int .i64 0,.int .u32 0,.int .i64 0]),6,48):=by kernel_rfl
theorem Eh (s:Value) (n:Nat) (xs:List Value) (w:World) (hs:Ed w 6 s n xs) (h1:∀u∈xs,u.oneCell'=true) (hb:n*48≤140737488355328) :
 Calls Tryz.prog 179 #[s] w fun e w'=>∃A C,e=.returned (.slice A n C)∧w'.ownsRow w.heap.size 160 6 (.slice A n C) n xs∧Below w.heap.size w w':=by
 obtain ⟨i0,hi,hz0,hz1,hz2⟩:=info_parts D9;have HS:=AQ hs;have H1:=AQ h1;clear h1;have HB:=AQ hb;clear hb;rcases hs.2 with ⟨rfl,rfl⟩ | ⟨b,o,sp,cap,rfl,_⟩
 ·clear hs;have he:=fun w=>Lib.run_eql_slice_nil (P:=Tryz.prog) (w:=w) 178 160 none 0 0 0 0 Tryz.underlying178
  go_enter Tryz.func179,Tryz.ntmps179
  go_wp2
  go_ret
  have hx:xs = []:=List.eq_nil_of_length_eq_zero (by simpa using HS.1);subst hx;exact ⟨_,_,rfl,World.ownsRow_nil _ _ _ _,Below.refl _ _⟩
 ·clear hs;have he:=fun w=>Lib.run_eql_slice_nil (P:=Tryz.prog) (w:=w) 178 160 (some ⟨b,o,sp⟩) n cap 0 0 Tryz.underlying178
  go_enter Tryz.func179,Tryz.ntmps179
  go_wp2_with (at_builtin;refine BL _ rfl _ _ 178 rfl w.heap.size 160 i0 (.agg #[.int .i64 0,.int .i64 0,.int .i64 0,.int .i64 0,.int .u32 0,.int .i64 0]) 6 48 Tryz.underlying178 hi hz0 hz1 hz2 rfl (by decide) _ 0 [] rfl (World.ownsRow_made w #[] 0 (Nat.le_refl _) (by decide) rfl) _ n xs rfl (Dq HS.out ((Bf.refl [] w).alloc _) (by simp)) H1.out (by have:=HB.out;unfold maxLen;omega) (Ac HB) (by simp) ?_)
  intro A C w1 HP;have HU:=HP.upd;have hb1:Below w.heap.size w w1:=(((Bf.refl [] w).alloc _).trans' HU (fun k hk=>by simp [blk] at hk;omega)).below;have hown:w1.ownsRow w.heap.size 160 6 (.slice A n C) n xs:=by simpa using HP.own
  clear he;go_wp2
  go_ret
  exact ⟨_,_,rfl,hown,hb1⟩
def Ints (w:World) (v:Value) (l:List (Bx×Nat)):Prop:=Ed w 6 v l.length (KI.all l)
theorem Ints.form {w:World} {v:Value} {l:List (Bx×Nat)} (h:Ints w v l):∃A C,v=.slice A l.length C:=Kv h
theorem Ints.cell {w:World} {A:Option Addr} {n C:Nat} {l:List (Bx×Nat)} (h:Ints w (.slice A n C) l) {k:Nat} (hk:k<l.length) :
 ∃b o,A=some ⟨b,o,none⟩∧w.cell? ⟨b,o+k*6,none⟩=some (.int .i64 l[k].1.x1)∧w.cell? ⟨b,o+k*6+1,none⟩=some (.int .i64 l[k].1.x2)∧w.cell? ⟨b,o+k*6+2,none⟩=some (.int .i64 l[k].1.y1)∧w.cell? ⟨b,o+k*6+3,none⟩=some (.int .i64 l[k].1.y2)∧w.cell? ⟨b,o+k*6+4,none⟩=some (.int .u32 (l[k].1.id:Int))∧w.cell? ⟨b,o+k*6+5,none⟩=some (.int .i64 l[k].2):=by
 obtain ⟨b,o,h1,_,_,h4⟩:=See.at (K:=KI) h (k:=k) (AX hk);exact ⟨b,o,h1,h4 0 _ rfl,h4 1 _ rfl,h4 2 _ rfl,h4 3 _ rfl,h4 4 _ rfl,h4 5 _ rfl⟩
theorem Ints.upd {F:List Nat} {w w':World} {v:Value} {l:List (Bx×Nat)} (h:Ints w v l) (hu:Bf F w w') (hd:0<l.length→∀k∈blk v,k<w.heap.size→k∉F):Ints w' v l:=Dq h hu hd
theorem Ints.Bh {w w':World} {v:Value} {l:List (Bx×Nat)} (h:Ints w v l) (hu:Bf [] w w'):Ints w' v l:=Dq h hu (by simp)
theorem Ints.BX {w:World} {base:Nat} {v:Value} {l:List (Bx×Nat)} (h:KI.row w base v l):Ints w v l:=CW h
theorem JK:(Tryz.prog.info? 178).map (fun i=>(i.zero,i.size,i.bytes))=some (some (.slice none 0 0),1,24):=by kernel_rfl
theorem PL (b:Nat) (w:World) (h:w.cell? ⟨b,0,none⟩=some (.bool true)) :
 Calls Tryz.prog 178 #[.pointer (some ⟨b,0,none⟩)] w fun e w'=>e=.returned (.bool false)∧w=w':=by
 go_enter Tryz.func178,Tryz.ntmps178
 go_wp2
 go_ret
 exact ⟨rfl,rfl⟩
theorem a4i (b:Nat) (F:List Nat) (x:(Bx×Nat)) (bs:List (List (Bx×Nat))) (n work:Nat) (w:World) (h':Dz KI w b F bs n work) (hn:bs.length<1000000) (htot:bs.flatten.length<1000000) (hnn:n<1000000) (hwk:work<1099511627776) :
 Calls Tryz.prog 128 #[.pointer (some ⟨b,0,none⟩),.agg #[.int .i64 x.1.x1,.int .i64 x.1.x2,.int .i64 x.1.y1,.int .i64 x.1.y2,.int .u32 (x.1.id:Int),.int .i64 x.2]] w fun e w'=>∃A C,e=.returned (.tuple #[.int .i64 (Bl bs),.slice A (EF bs x).length C])∧
  YB KI w w' b F (QZ bs x) (n+1) (work+(EF bs x).length) (.slice A (EF bs x).length C) (EF bs x):=by
 obtain ⟨vb,vs,h,rfl⟩:=h';obtain ⟨A,C,rfl⟩:=Bv h.list;obtain ⟨hc0,hc1,hc2,hc3,hfr⟩:=h.cell;have hlen:=AQ h.len;have hn':vs.length<1000000:=by rw [h.len];exact hn
 have hfb:Bl bs<1000000:=Nat.lt_of_le_of_lt (Eo bs) hn;have Si:=AQ htot;have hUb:Bf [] w (w.alloc (.cells #[.int .i64 x.1.x1,.int .i64 x.1.x2,.int .i64 x.1.y1,.int .i64 x.1.y2,.int .u32 (x.1.id:Int),.int .i64 x.2] 160)):=(Bf.refl [] w).alloc _;have hx0:(w.alloc (.cells #[.int .i64 x.1.x1,.int .i64 x.1.x2,.int .i64 x.1.y1,.int .i64 x.1.y2,.int .u32 (x.1.id:Int),.int .i64 x.2] 160)).cell? ⟨w.heap.size,0,none⟩=some (.int .i64 x.1.x1):=by rw [World.cell?_alloc_at _ _ _ _ rfl];rfl
 have hx1:(w.alloc (.cells #[.int .i64 x.1.x1,.int .i64 x.1.x2,.int .i64 x.1.y1,.int .i64 x.1.y2,.int .u32 (x.1.id:Int),.int .i64 x.2] 160)).cell? ⟨w.heap.size,1,none⟩=some (.int .i64 x.1.x2):=by rw [World.cell?_alloc_at _ _ _ _ rfl];rfl
 have hx2:(w.alloc (.cells #[.int .i64 x.1.x1,.int .i64 x.1.x2,.int .i64 x.1.y1,.int .i64 x.1.y2,.int .u32 (x.1.id:Int),.int .i64 x.2] 160)).cell? ⟨w.heap.size,2,none⟩=some (.int .i64 x.1.y1):=by rw [World.cell?_alloc_at _ _ _ _ rfl];rfl
 have hx3:(w.alloc (.cells #[.int .i64 x.1.x1,.int .i64 x.1.x2,.int .i64 x.1.y1,.int .i64 x.1.y2,.int .u32 (x.1.id:Int),.int .i64 x.2] 160)).cell? ⟨w.heap.size,3,none⟩=some (.int .i64 x.1.y2):=by rw [World.cell?_alloc_at _ _ _ _ rfl];rfl
 have hx4:(w.alloc (.cells #[.int .i64 x.1.x1,.int .i64 x.1.x2,.int .i64 x.1.y1,.int .i64 x.1.y2,.int .u32 (x.1.id:Int),.int .i64 x.2] 160)).cell? ⟨w.heap.size,4,none⟩=some (.int .u32 (x.1.id:Int)):=by rw [World.cell?_alloc_at _ _ _ _ rfl];rfl
 have hx5:(w.alloc (.cells #[.int .i64 x.1.x1,.int .i64 x.1.x2,.int .i64 x.1.y1,.int .i64 x.1.y2,.int .u32 (x.1.id:Int),.int .i64 x.2] 160)).cell? ⟨w.heap.size,5,none⟩=some (.int .i64 x.2):=by rw [World.cell?_alloc_at _ _ _ _ rfl];rfl
 have qL:w.heap.size∉foot b (.slice A vs.length C) vs:=fun hc=>Nat.lt_irrefl _ (h.lt _ hc)
 have hpb:w.heap.size<(w.alloc (.cells #[.int .i64 x.1.x1,.int .i64 x.1.x2,.int .i64 x.1.y1,.int .i64 x.1.y2,.int .u32 (x.1.id:Int),.int .i64 x.2] 160)).heap.size:=by simp
 have h':=h.upd hUb (by simp);obtain ⟨hc0,hc1,hc2,hc3,_⟩:=h'.cell;have H:=AQ h';clear h h' hfr hn htot;go_enter Tryz.func128,Tryz.ntmps128
 go_upto_block 0 with (go_at_call 178;refine (PL _ _ hc0).mono ?_;rintro e w' ⟨rfl,rfl⟩)
 generalize (w.alloc (.cells #[.int .i64 x.1.x1,.int .i64 x.1.x2,.int .i64 x.1.y1,.int .i64 x.1.y2,.int .u32 (x.1.id:Int),.int .i64 x.2] 160))=wb at *;have aX:=AQ hUb;clear hUb;go_cut [6] (fun s6 wc=>s6=.int .i64 (Bl bs)∧wb=wc)
 case first=>
  go_wp2_with fail
  go_loopg [6] vs.length (fun m i wr=>∃k:Nat,k≤Bl bs∧i=.int .i64 k∧m+k=vs.length∧wr=wb)
  case atStart=>exact ⟨0,Nat.zero_le _,rfl,rfl,rfl⟩
  case round=>
   obtain ⟨k,hk,rfl,hmk,rfl⟩:=hrel;have hfl:=Eo bs;by_cases hlt:k<vs.length
   ·obtain ⟨g,Ak,Ck,l,hA,hbk,hvk,hcell,hfro,hgb,hrow⟩:=H.out.at hlt;subst hA;have HR:=AQ hrow;clear hrow hvk hfro;have HB:=AQ hbk;clear hbk;have HM:=AQ hmk;clear hmk;by_cases hl:0<l.length
    ·go_wp2
     go_roundg (gk - 1)
     case measure=>have:=HM.out;omega
     case rel=>
      have hne:k≠Bl bs:=fun e=>by
       have:=Oc bs l (by rw [←e];exact HB.out);subst this;simp at hl
      exact ⟨k+1,by omega,by go_num,Ac HM,rfl⟩
    ·go_wp2
     go_meet
     case rel=>
      have hne:Bl bs=k:=by
       refine Nat.le_antisymm ?_ hk
       refine Nat.le_of_not_lt fun hh=>?_
       exact O9 bs k l hh HB.out (List.eq_nil_of_length_eq_zero (by omega))
      exact ⟨by rw [hne],rfl⟩
   ·go_wp2
    go_meet
    case rel=>
     have:=hlen.out;exact ⟨by rw [show k=Bl bs from by omega],rfl⟩
 case rest=>
  obtain ⟨rfl,rfl⟩:=hcut;obtain ⟨i0,hi0,hz0,hz1,hz2⟩:=info_parts JK;obtain ⟨i1,hi1,hy0,hy1,hy2⟩:=info_parts D9;have hfl:=Eo bs;go_upto_if 37 with fail
  go_cut [] (fun wc=>∃bs':List (List (Bx×Nat)),II KI wb wc (foot b (.slice A vs.length C) vs) b bs' n work (Bl bs) (Bl bs) (.slice none 0 0)∧bs'.take (Bl bs)=bs.take (Bl bs)∧bs'.drop (Bl bs+1)=bs.drop (Bl bs+1)∧bs'.length≤bs.length+1)
  case first=>
   by_cases hi:Bl bs<vs.length
   ·have hlt:((Bl bs:Int)==(vs.length:Int))=false:=by simp;omega
    go_wp2
    go_meet
    case rel=>
     have:=hlen.out;exact ⟨bs,II.start H.out (Bf.refl _ _) (fun k hk=>.inl hk) (by omega),rfl,rfl,by omega⟩
   ·have hle:Bl bs≤vs.length:=by rw [hlen.out];exact hfl
    have hlt:((Bl bs:Int)==(vs.length:Int))=true:=by simp;omega
    go_wp2_with (at_builtin;refine BL _ rfl _ _ 247 rfl 0 178 i0 (.slice none 0 0) 1 24 Tryz.underlying247 hi0 hz0 hz1 hz2 rfl (by decide) _ _ vs rfl (H.out.list.alloc _) _ 1 [.slice none 0 0] rfl (BM wb #[.slice none 0 0] 178 1 1 rfl (by decide)) (by simp [Value.oneCell']) (by unfold maxLen;omega) (by omega) (by simp) ?_)
    intro A' C' w1 HP;have hup:Bf (blk (.slice A vs.length C)) wb w1:=((Bf.refl _ _).alloc _).trans HP.upd;have hb1:=hup.block b (lt_of_block H.out.head) H.out.self;have hc1':w1.cell? ⟨b,1,none⟩=some (.slice A vs.length C):=(World.cell?_of_block hb1).trans hc1;have b0N:w1.frozen? ⟨b,1,none⟩=false:=(World.frozen?_of_block hb1).trans (H.out.cell.2.2.2.2 1);have HG:=AQ hup;clear hup hb1;go_wp2
    go_meet
    case rel=>
     have hs:=H.out.snoc HP.own HG.out (by rcases HP.at with h' | h';exact .inl h';exact .inr ⟨_,h',by simp⟩);have e1:=hlen.out;refine ⟨bs++[[]],II.start hs ?_ ?_ (by simp;omega),?_,?_,by simp⟩
     ·exact (HG.out.mono (G:=foot b (.slice A vs.length C) vs) fun k hk=>.inl (BI.2 (.inr (.inl hk)))).setCell (p:=⟨b,1,none⟩) (.inl (BI.2 (.inl rfl))) _
     ·intro k hk;rw [BI] at hk;rcases hk with rfl | hk | ⟨j,v,hv,hk⟩
      ·exact .inl (BI.2 (.inl rfl))
      ·rcases HP.at with h' | h'
       ·rw [h'] at hk;exact .inl (BI.2 (.inr (.inl hk)))
       ·rw [h'] at hk;simp at hk;right;omega
      ·rw [List.getElem?_append] at hv;split at hv
       ·exact .inl (BI.2 (.inr (.inr ⟨j,v,hv,hk⟩)))
       ·have:v=.slice none 0 0:=by
         have:=List.mem_of_getElem? hv;simpa using this
        subst this;simp [blk] at hk
     ·rw [List.take_append_of_le_length (by omega)]
     ·rw [List.drop_eq_nil_of_le (by simp;omega),List.drop_eq_nil_of_le (by omega)]
  case rest=>
   obtain ⟨bs',HS,htk,hdp,hbl⟩:=hcut;have b0O:bs'.length<1000001:=Ac hlen;clear hbl;have HT:=AQ htk;clear htk;have HD:=AQ hdp;clear hdp;have HA:=AQ HS;clear HS;clear hc0 hc1 hc2 hc3;go_upto_block 2 with fail
   go_cut [7] (fun s7 wc=>∃Al Cl,s7=.slice Al ((bs.take (Bl bs)).reverse.flatten).length Cl∧II KI wb wc (foot b (.slice A vs.length C) vs) b bs' n work (Bl bs) 0 (.slice Al ((bs.take (Bl bs)).reverse.flatten).length Cl))
   case first=>
    go_wp2_with fail
    go_loopg [7,8] (Bl bs) (fun m all k wr=>∃Al Cl,all=.slice Al (((bs.take (Bl bs)).drop m).reverse.flatten).length Cl∧k=.int .i64 ((m:Int) - 1)∧
     II KI wb wr (foot b (.slice A vs.length C) vs) b bs' n work (Bl bs) m (.slice Al (((bs.take (Bl bs)).drop m).reverse.flatten).length Cl))
    case atStart=>
     refine ⟨none,0,?_,rfl,?_⟩
     ·rw [List.drop_eq_nil_of_le (by simp;omega)];rfl
     ·rw [List.drop_eq_nil_of_le (by simp;omega)];exact HA.out
    case round=>
     obtain ⟨Al,Cl,rfl,rfl,vb,vs',hc,hrow,hal,hup,hF,Xo,hib,hsz⟩:=hrel;have hlen':=hc.len;by_cases hm:gk=0
     ·subst hm;go_wp2
      go_meet
      case rel=>exact ⟨Al,Cl,by simp,vb,vs',hc,hrow,hal,hup,hF,Xo,hib,hsz⟩
     ·obtain ⟨m,rfl⟩:∃m,gk=m+1:=⟨gk - 1,by omega⟩;obtain ⟨A1,C1,rfl⟩:=Bv hc.list;obtain ⟨g,Am,Cm,l,hA,hbk,hvk,hcell,hfro,hgb,JL⟩:=hc.at (k:=m) (by rw [hlen'];simp;omega);subst hA
      have hbk':bs'[m]? = some l:=by
       rw [List.append_assoc,List.getElem?_append_left (by simp;omega),List.getElem?_take,if_pos (by omega)] at hbk;exact hbk
      have hstep:=Uu bs' (Bl bs) m l (by omega) hbk';rw [HT.out] at hstep;have hbd:=SH bs (Bl bs) m;rw [hstep,AY] at hbd;have hcc:=hc.cell.2.1;have hmn:m<vs'.length:=by rw [hlen'];simp;omega
      have hbn:vs'.length<1000001:=by rw [hlen'];simp;omega
      have e8:(((m+1:Nat):Int) - 1)=(m:Int):=by omega
      rw [e8];rw [HT.out] at hrow;obtain ⟨L,hL⟩:∃L,L=((bs.take (Bl bs)).drop (m+1)).reverse.flatten:=⟨_,rfl⟩;rw [←hL] at hrow hal hstep hbd ⊢;have Xb:=AQ hL;clear hL;have HL:=AQ hlen';clear hlen';have HX:=AQ hstep;clear hstep;have HB:=AQ hbd;clear hbd;have HK:=AQ hbk';clear hbk' hbk hvk;have HC:=AQ hc;clear hc;have TF:=AQ hal;clear hal;have HF:=AQ hF;clear hF;have HR:=AQ hrow;clear hrow;have HRM:=AQ JL;clear JL;clear e8;go_wp2_with (at_builtin;refine BL _ rfl _ _ 178 rfl 0 160 i1 (.agg #[.int .i64 0,.int .i64 0,.int .i64 0,.int .i64 0,.int .u32 0,.int .i64 0]) 6 48 Tryz.underlying178 hi1 hy0 hy1 hy2 rfl (by decide) _ _ _ rfl HR.out _ l.length (KI.all l) rfl (CW HRM.out) (KI.DZ l) (by have:=HB.out;have:=Si.out;unfold maxLen;omega) (Ad HB Si) (Nat.zero_le _) ?_)
      intro A2 C2 w1 HP;have hc1:=HC.out.upd HP.upd fun k hk hc=>(TF.out k hc).2 hk
      have b0P:=hc1.cell.2.1;obtain ⟨g',_,_,l',hA',_,_,hcell1,a6y,_,_⟩:=hc1.at hmn
      cases hA'
      have HC1:=AQ hc1;clear hc1;go_wp2
      go_roundg m
      case measure=>omega
      case rel=>
       have hst:=II.step HC.out TF.out hup HF.out Xo hib hsz HK.out (all':=.slice A2 (L.length+l.length) C2) (by
        rw [HT.out,←Xb.out];unfold Kind.row;rw [Kind.Ci,AY];exact HP.own) HP.2.1 HP.at
       refine ⟨A2,C2,?_,rfl,?_⟩
       ·rw [HX.out,AY]
       ·rw [HX.out,AY];exact hst
   case rest=>
    obtain ⟨Al,Cl,rfl,vb,vs',hc,hrow,hal,hup,hF,_,hib,hsz⟩:=hcut;have hlen':=hc.len;obtain ⟨A1,C1,rfl⟩:=Bv hc.list;obtain ⟨g,Am,Cm,l,hA,hbk,hvk,hcell,hfro,hgb,JL⟩:=hc.at (k:=Bl bs) (by rw [hlen'];simp;omega);subst hA;have hcc:=hc.cell.2.1;have hmn:Bl bs<vs'.length:=by rw [hlen'];simp;omega
    have hbn:vs'.length<1000001:=by rw [hlen'];simp;omega
    rw [List.drop_zero,HT.out] at hrow;have hbd:=SH bs (Bl bs) 0;rw [List.drop_zero] at hbd;obtain ⟨L,hL⟩:∃L,L=(bs.take (Bl bs)).reverse.flatten:=⟨_,rfl⟩;rw [←hL] at hrow hal hbd ⊢;have Xb:=AQ hL;clear hL;have HL:=AQ hlen';clear hlen' hbk hvk;have HB:=AQ hbd;clear hbd;have HC:=AQ hc;clear hc;have TF:=AQ hal;clear hal;have Rk:=AQ hup;have HF:=AQ hF;clear hF;have HR:=AQ hrow;clear hrow;have HRM:=AQ JL;clear JL;have b0Q:(0:Int)≤(Bl bs:Int):=AU _;have b0R:(Bl bs:Int)<(vs'.length:Int):=by omega
    have hgl:g∉blk (.slice Al L.length Cl):=fun hk=>(TF.out g hk).2 (BI.2 (.inr (.inl (by simp [blk]))))
    have wu:b∉blk (.slice Al L.length Cl):=fun hk=>(TF.out b hk).2 (BI.2 (.inl rfl))
    have hgs:g<wc.heap.size:=World.block_lt_of_cell? wc _ hcell;have hbs':b<wc.heap.size:=World.block_lt_of_cell? wc _ hcc;have hfa:∀o,(wc.alloc o).frozen? ⟨g,Bl bs,none⟩=false:=fun o=>by rw [World.frozen?_alloc_past _ _ _ hgs];exact hfro
    have hca:∀o,(wc.alloc o).cell? ⟨g,Bl bs,none⟩=some (.slice Am l.length Cm):=fun o=>by rw [World.cell?_alloc_past _ _ _ hgs];exact hcell
    have hda:∀o,(wc.alloc o).cell? ⟨b,1,none⟩=some (.slice (some ⟨g,0,none⟩) vs'.length C1):=fun o=>by rw [World.cell?_alloc_past _ _ _ hbs'];exact hcc
    obtain ⟨p,hp⟩:=AO w.heap.size;rw [hp] at hx0 hx1 hx2 hx3 hx4 hx5 qL hpb ⊢;have hx0':=(Rk.out.cell (p:=⟨p,0,none⟩) hpb qL).trans hx0;have wC:=(Rk.out.cell (p:=⟨p,1,none⟩) hpb qL).trans hx1;have a6z:=(Rk.out.cell (p:=⟨p,2,none⟩) hpb qL).trans hx2;have a6A:=(Rk.out.cell (p:=⟨p,3,none⟩) hpb qL).trans hx3;have a6B:=(Rk.out.cell (p:=⟨p,4,none⟩) hpb qL).trans hx4;have a6C:=(Rk.out.cell (p:=⟨p,5,none⟩) hpb qL).trans hx5;have hpl:p∉blk (.slice Al L.length Cl):=fun hk=>by have:=(TF.out p hk).1;omega
    have hps:p<wc.heap.size:=World.block_lt_of_cell? wc _ hx0';have he0:∀o,(wc.alloc o).cell? ⟨p,0,none⟩=some (.int .i64 x.1.x1):=fun o=>by rw [World.cell?_alloc_past _ _ _ hps];exact hx0'
    have he1:∀o,(wc.alloc o).cell? ⟨p,1,none⟩=some (.int .i64 x.1.x2):=fun o=>by rw [World.cell?_alloc_past _ _ _ hps];exact wC
    have he2:∀o,(wc.alloc o).cell? ⟨p,2,none⟩=some (.int .i64 x.1.y1):=fun o=>by rw [World.cell?_alloc_past _ _ _ hps];exact a6z
    have he3:∀o,(wc.alloc o).cell? ⟨p,3,none⟩=some (.int .i64 x.1.y2):=fun o=>by rw [World.cell?_alloc_past _ _ _ hps];exact a6A
    have he4:∀o,(wc.alloc o).cell? ⟨p,4,none⟩=some (.int .u32 (x.1.id:Int)):=fun o=>by rw [World.cell?_alloc_past _ _ _ hps];exact a6B
    have he5:∀o,(wc.alloc o).cell? ⟨p,5,none⟩=some (.int .i64 x.2):=fun o=>by rw [World.cell?_alloc_past _ _ _ hps];exact a6C
    have hpg:p≠g:=by
     intro e;rcases HF.out g (BI.2 (.inr (.inl (by simp [blk])))) with h | h
     ·exact qL (by rw [e];exact h)
     ·omega
    have Yn:g≠p:=Ne.symm hpg;have wE:=AQ hp;clear hp hx0 hx1 hx2 hx3 hx4 hx5;go_upto_region 14 with fail
    go_region_held3 (fun w'=>w'.cell? ⟨b,1,none⟩=some (.slice (some ⟨g,0,none⟩) vs'.length C1)∧w'.cell? ⟨p,0,none⟩=some (.int .i64 x.1.x1)∧w'.cell? ⟨p,1,none⟩=some (.int .i64 x.1.x2)∧w'.cell? ⟨p,2,none⟩=some (.int .i64 x.1.y1)∧w'.cell? ⟨p,3,none⟩=some (.int .i64 x.1.y2)∧w'.cell? ⟨p,4,none⟩=some (.int .u32 (x.1.id:Int))∧w'.cell? ⟨p,5,none⟩=some (.int .i64 x.2))
     (first
      |go_keep
      |(exact ⟨hcc,hx0',wC,a6z,a6A,a6B,a6C⟩) | (have hu:=HP2.upd;exact ⟨(hu.cell (p:=⟨b,1,none⟩) (by simp;omega) wu).trans (hda _),(hu.cell (p:=⟨p,0,none⟩) (by simp;omega) hpl).trans (he0 _),(hu.cell (p:=⟨p,1,none⟩) (by simp;omega) hpl).trans (he1 _),(hu.cell (p:=⟨p,2,none⟩) (by simp;omega) hpl).trans (he2 _),(hu.cell (p:=⟨p,3,none⟩) (by simp;omega) hpl).trans (he3 _),(hu.cell (p:=⟨p,4,none⟩) (by simp;omega) hpl).trans (he4 _),(hu.cell (p:=⟨p,5,none⟩) (by simp;omega) hpl).trans (he5 _)⟩))
     ((refine FH _ (by rfl) _ _ 178 (by rfl) 0 160 i1 (.agg #[.int .i64 0,.int .i64 0,.int .i64 0,.int .i64 0,.int .u32 0,.int .i64 0]) 6 48 Tryz.underlying178 hi1 hy0 hy1 hy2 rfl (by decide) _ _ _ (by rfl) (ER (HR.out.alloc _)) _ 1 [.int .i64 x.1.x1,.int .i64 x.1.x2,.int .i64 x.1.y1,.int .i64 x.1.y2,.int .u32 (x.1.id:Int),.int .i64 x.2] (by rfl) (BM wc #[.int .i64 x.1.x1,.int .i64 x.1.x2,.int .i64 x.1.y1,.int .i64 x.1.y2,.int .u32 (x.1.id:Int),.int .i64 x.2] 160 6 1 rfl (by decide)).drew (by simp [Value.oneCell']) (by have:=HB.out;have:=Si.out;unfold maxLen;omega) (Ad HB Si) (Nat.zero_le _) ?_;intro A3 C3 w2 HP2;have hst1:=((HP2.upd).cell (p:=⟨g,Bl bs,none⟩) (by simp;omega) hgl).trans (hca _);have hst2:=((HP2.upd).frozen (p:=⟨g,Bl bs,none⟩) (by simp;omega) hgl).trans (hfa _)))
    have hG:∀k∈blk (.slice A3 (L.length+1) C3),wb.heap.size≤k∧k∉foot b (.slice (some ⟨g,0,none⟩) vs'.length C1) vs':=by
     intro k hk;rcases HP2.at with h' | h'
     ·rw [h'] at hk;exact TF.out k hk
     ·rw [h'] at hk;simp at hk;subst hk;exact ⟨by omega,fun hc=>by have:=HC.out.lt _ hc;omega⟩
    obtain ⟨hc3,hu3,hF3,hgx⟩:=II.fill (w0:=wb) (w2:=w2) (x:=x) (v:=.slice A3 (L.length+1) C3) rfl HC.out hib HD.out Xb.out (((Bf.refl _ _).alloc _).drew.trans HP2.upd) TF.out hup HF.out (by
     unfold Kind.row;rw [Kind.Ci,AY];exact HP2.own) hG
    clear hst1 hst2 hfa hca hda hcell hfro hcc;generalize w2.setCell ⟨g,Bl bs,none⟩ (.slice A3 (L.length+1) C3)=w3 at *;obtain ⟨_,hd1,hd2,hd3,hfr⟩:=hc3.cell;obtain ⟨g',A4,C4,l4,hA',hb4,_,jB,_,_,hrow4⟩:=hc3.at (k:=Bl bs) (by rw [List.length_set];omega)
    cases hA'
    rw [VT] at hb4
    cases hb4
    have a6D:(EF bs x).length<1000001:=by rw [hgx,AY];have:=HB.out;have:=Si.out;simp;omega
    have Xp:=AQ hc3;have HR4:=AQ hrow4;have HGX:=AQ hgx;have Gj:=AQ hu3;have HF3:=AQ hF3;clear hc3 hrow4 hgx hu3 hF3 hG;have a4j:=hfr 2;have a4k:=hfr 3;clear hfr hgl wu;go_upto_region 16 with fail
    go_region
    have e1:((n:Int)+1)=((n+1:Nat):Int):=by omega
    have e2:((work:Int)+((EF bs x).length:Int))=((work+(EF bs x).length:Nat):Int):=by omega
    rw [e1,e2];have hc5:=((Xp.out.count (n+1)).worked (work+(EF bs x).length)).drew;have GR:=((Gj.out.setCell (p:=⟨b,2,none⟩) (.inl (BI.2 (.inl rfl))) (.int .i64 ((n+1:Nat):Int))).setCell (p:=⟨b,3,none⟩) (.inl (BI.2 (.inl rfl))) (.int .i64 ((work+(EF bs x).length:Nat):Int))).drew;generalize (((w3.setCell ⟨b,2,none⟩ (.int .i64 ((n+1:Nat):Int))).setCell ⟨b,3,none⟩ (.int .i64 ((work+(EF bs x).length:Nat):Int))).drew)=w5 at *;clear e1 e2 hd1 hd2 hd3 a4j a4k jB;obtain ⟨_,hd1,_,_,_⟩:=hc5.cell;obtain ⟨g',A5,C5,l5,hA',hb5,_,a4l,_,_,Jc⟩:=hc5.at (k:=Bl bs) (by rw [List.length_set];omega)
    cases hA'
    rw [VT] at hb5
    cases hb5
    have Xq:=AQ hc5;have LJ:=AQ GR;have HR5:=AQ Jc;clear hc5 GR Jc;go_wp2_with (go_at_call 179;refine (Eh _ _ _ _ (CW HR5.out) (KI.DZ _) (by omega)).mono ?_;rintro e w' ⟨A6,C6,rfl,hown6,hbel⟩)
    go_ret2
    have ZG:=Bf.of_below hbel;refine ⟨A6,C6,rfl,_,⟨_,_,Xq.out.upd ZG (by simp),rfl⟩,(aX.out.mono (by simp)).trans' (LJ.out.trans' ZG (by simp)) (fun x hx=>.inl hx),fun k hk=>(HF3.out k hk).imp id (Bd aX.out.size),?_,?_⟩
    ·exact own_base hown6 (Bd aX.out.size LJ.out.size)
    ·intro k hk hc;have h1:=Xq.out.lt k hc;have h2:=BD hown6 k hk;omega
theorem a4m (b:Nat) (F:List Nat) (s:Value) (l:List (Bx×Nat)) (bs:List (List (Bx×Nat))) (n work:Nat) (w:World) (h':Dz KI w b F bs n work) (hs:Ed w 6 s l.length (KI.all l)) (hsF:0<l.length→∀k∈blk s,k∉F)
 (hl:l.length<1000000) (hwk:work<1099511627776) :
 Calls Tryz.prog 201 #[.pointer (some ⟨b,0,none⟩),s] w fun e w'=>e=.returned (.int .i64 l.length)∧CU KI w w' b F (setB l) l.length (work+l.length):=by
 obtain ⟨vb,vs,h,rfl⟩:=h';obtain ⟨A,C,rfl⟩:=Kv hs;obtain ⟨hc0,hc1,hc2,hc3,hfr⟩:=h.cell;have hf1:=hfr 1;have hf2:=hfr 2;obtain ⟨i0,hi0,hz0,hz1,hz2⟩:=info_parts JK;have H:=AQ h;have HS:=AQ hs;have HSF:=AQ hsF;clear h hs hsF hfr;go_enter Tryz.func201,Tryz.ntmps201
 go_upto_block 0 with (go_at_call 178;refine (PL _ _ hc0).mono ?_;rintro e w' ⟨rfl,rfl⟩)
 have hr:=(H.out.reset).count l.length;have hu:=((Bf.refl (foot b vb vs) w).setCell (p:=⟨b,1,none⟩) (.inl (BI.2 (.inl rfl))) (.slice none 0 0)).setCell (p:=⟨b,2,none⟩) (.inl (BI.2 (.inl rfl))) (.int .i64 l.length)
 have hst:CU KI w ((w.setCell ⟨b,1,none⟩ (.slice none 0 0)).setCell ⟨b,2,none⟩ (.int .i64 l.length)) b (foot b vb vs) [] l.length work:=
  .mk hr hu fun k hk=>by
   rw [BI] at hk;rcases hk with hk | hk | ⟨j,u,hu',hk⟩
   ·exact .inl (BI.2 (.inl hk))
   ·simp [blk] at hk
   ·simp at hu'
 have HST:=AQ hst;clear hst hr hu hc0 hc1 hc2 hc3 hf1 hf2;generalize ((w.setCell ⟨b,1,none⟩ (.slice none 0 0)).setCell ⟨b,2,none⟩ (.int .i64 l.length))=wa at *;go_cut [] (fun wc=>CU KI w wc b (foot b vb vs) (List.replicate (BA l.length) []) l.length work)
 case first=>
  go_wp2_with fail
  go_loopg [5] (l.length) (fun m i wr=>i=.int .i64 m∧∃k,m=l.length / 2 ^ k∧(k=0∨2 ^ (k - 1)≤l.length)∧CU KI w wr b (foot b vb vs) (List.replicate k []) l.length work)
  case atStart=>exact ⟨rfl,0,by simp,.inl rfl,by simpa using HST.out⟩
  case round=>
   obtain ⟨rfl,k,hk,hk1,hcs⟩:=hrel;have HK:=AQ hk;clear hk;have tu:=AQ hk1;clear hk1;obtain ⟨mX,vs',hc,hu,hF⟩:=hcs.out;obtain ⟨A1,C1,rfl⟩:=Bv hc.list;obtain ⟨_,hd1,_,_,hfr⟩:=hc.cell;have hf1:=hfr 1;have HC:=AQ hc;have HU:=AQ hu;have HF:=AQ hF;have qM:=AQ hcs;have hgk:gk≤l.length:=by rw [HK.out];exact Nat.div_le_self _ _
   have hlen:vs'.length≤1000000:=by
    rw [hc.len];simp;rcases tu.out with h | h
    ·omega
    ·have h2:k - 1<2 ^ (k - 1):=Nat.lt_two_pow_self;omega
   clear hc hu hF hcs hfr;by_cases hm:gk=0
   ·subst hm;go_wp2
    go_meet
    case rel=>
     have e:BA l.length=k:=bF l.length k (by
      have:=HK.out;rcases Nat.div_eq_zero_iff.1 this.symm with h | h
      ·have:=Nat.two_pow_pos k;omega
      ·exact h) tu.out
     rw [e];exact qM.out
   ·have b0S:(0:Int)<(gk:Int):=by omega
    go_wp2_with (at_builtin;refine BL _ rfl _ _ 247 rfl 0 178 i0 (.slice none 0 0) 1 24 Tryz.underlying247 hi0 hz0 hz1 hz2 rfl (by decide) _ _ vs' rfl (HC.out.list.alloc _) _ 1 [.slice none 0 0] rfl (BM wr #[.slice none 0 0] 178 1 1 rfl (by decide)) (by simp [Value.oneCell']) (by unfold maxLen;omega) (by omega) (Nat.zero_le _) ?_)
    intro A2 C2 w1 HP;have hc1:w1.cell? ⟨b,1,none⟩=some (.slice A1 vs'.length C1):=(World.cell?_of_block (((((Bf.refl _ _).alloc _).trans HP.upd:Bf (blk (.slice A1 vs'.length C1)) wr w1)).block b (lt_of_block HC.out.head) HC.out.self)).trans hd1;have hf2:w1.frozen? ⟨b,1,none⟩=false:=(World.frozen?_of_block (((((Bf.refl _ _).alloc _).trans HP.upd:Bf (blk (.slice A1 vs'.length C1)) wr w1)).block b (lt_of_block HC.out.head) HC.out.self)).trans hf1;go_wp2
    have h2:(gk:Int) / 2=((gk / 2:Nat):Int):=by omega
    rw [h2];go_roundg (gk / 2)
    case measure=>omega
    case rel=>
     refine ⟨rfl,k+1,?_,.inr ?_,?_⟩
     ·rw [HK.out,Nat.pow_succ,Nat.div_div_eq_div_mul]
     ·have h3:=HK.out;have h4:1≤l.length / 2 ^ k:=by omega
      have h5:=(Nat.le_div_iff_mul_le (Nat.two_pow_pos k)).1 h4;simpa using h5
     ·have:=CU.snoc HC.out HU.out HF.out HP;rw [List.replicate_succ',];exact this
 case rest=>
  obtain ⟨vb1,vs1,hc1,hu1,hF1⟩:=hcut.out;obtain ⟨A1,C1,rfl⟩:=Bv hc1.list;have hd1:=hc1.cell.2.1;have hB:BA l.length≤20:=CQ _ _ (by omega);have hv1:vs1.length=BA l.length:=by rw [hc1.len];simp
  have hv2:=hv1;rw [hv1] at hd1;have wF:=AQ hcut;have HV:=AQ hv1;obtain ⟨i1,hi1,hy0,hy1,hy2⟩:=info_parts D9;have dO:∀w',Bf (foot b vb vs) w w'→Ed w' 6 (.slice A l.length C) l.length (KI.all l):=fun w' hu'=>Dq HS.out hu' fun h0 k hk _=>HSF.out h0 k hk
  have wH:=AQ dO;clear hc1 hu1 hF1 hv1 hv2 hcut dO;go_upto_block 2 with fail
  go_cut [] (fun wz=>CU KI w wz b (foot b vb vs) (setB l) l.length work)
  case first=>
   go_wp2_with fail
   go_loopg [6,7] (BA l.length) (fun m r i wr=>i=.int .i64 ((m:Int) - 1)∧m≤BA l.length∧∃Ar Cr,r=.slice Ar (l.length % 2 ^ m) Cr∧
    (∀w',Bf (foot b vb vs) w w'→Ed w' 6 (.slice Ar (l.length % 2 ^ m) Cr) (l.length % 2 ^ m) ((KI.all l).drop (l.length / 2 ^ m*2 ^ m*6)))∧CU KI w wr b (foot b vb vs) (setFrom l m) l.length work)
   case atStart=>
    have h1:=Nat.mod_eq_of_lt (D7 l.length);have h2:=Nat.div_eq_of_lt (D7 l.length);refine ⟨?_,Nat.le_refl _,A,C,by rw [h1],?_,?_⟩
    ·rfl
    ·rw [h1,h2];intro w' hu';simpa using wH.out w' hu'
    ·rw [Vk];exact wF.out
   case round=>
    obtain ⟨rfl,hgb,Ar,Cr,rfl,FD,hcs⟩:=hrel;obtain ⟨mX,vs',hc,hu,hF⟩:=hcs.out;obtain ⟨A2,C2,rfl⟩:=Bv hc.list;have hdd:=hc.cell.2.1;have hvl:vs'.length=BA l.length:=by rw [hc.len];simp [setFrom]
    rw [hvl] at hdd;by_cases hm:gk=0
    ·subst hm;rw [SL] at hcs;have qM:=AQ hcs;clear FD hc hu hF hcs hvl;go_wp2
     go_meet
     case rel=>exact qM.out
    ·obtain ⟨m,rfl⟩:∃m,gk=m+1:=⟨gk - 1,by omega⟩;obtain ⟨g,Am,Cm,lm,hA,hbk,hvk,hcell,hfro,hgb',JL⟩:=hc.at (k:=m) (by omega);subst hA;have hpb:2 ^ m<2 ^ 62:=Nat.pow_lt_pow_right (by omega) (by omega);have hml:m<BA l.length:=by omega
     obtain ⟨p,hp⟩:=AO (2 ^ m);have hp0:0<p:=by rw [←hp];exact Nat.two_pow_pos m
     have b0T:Value.int .i64 (wrap64 ((2:Int) ^ m))=Value.int .i64 (p:Int):=by rw [YK m p (by omega) hp]
     have hand:=YL l.length (2 ^ m) _ (by omega) hpb (Vl _ _);rw [hp] at hand;have e8:(((m+1:Nat):Int) - 1)=(m:Int):=by omega
     rw [e8];clear e8;have hm0:(0:Int)≤(m:Int):=AU _;have hm1:(m:Int)<(BA l.length:Int):=by omega
     obtain ⟨n1,hn1⟩:=AO (l.length % 2 ^ (m+1));rw [hn1] at FD ⊢;have a6E:n1≤l.length:=by rw [←hn1];exact Nat.mod_le _ _
     by_cases hb:l.length.testBit m=true
     ·rw [if_pos hb] at hand;have hne:((p:Int)==0)=false:=by simp;omega
      have hne':((p:Int) != 0)=true:=by simp;omega
      have hpn:p≤n1:=by
       have:=Nh l.length m hb;omega
      have hsw:=FD wr hu;obtain ⟨A3,C3,hrun3,Xr,hblk3⟩:=iH (P:=Tryz.prog) Tryz.underlying178 hi1 hy1 hsw p hpn;obtain ⟨A4,C4,hrun4,Vx,wI⟩:=Nj (P:=Tryz.prog) Tryz.underlying178 hi1 hy1 hsw p hpn;have wJ:=Xr wr hsw;have HSW:=AQ hsw;have wK:=AQ Xr;have aW:=AQ Vx;have jC:=AQ FD;have a4n:=AQ wJ;have HC:=AQ hc;have HU:=AQ hu;have HF:=AQ hF;have HVL:=AQ hvl;have HP:=AQ hp;have VO:=AQ hn1;clear hsw Xr Vx hblk3 wI FD wJ hc hu hF hvl hbk hvk JL hp hn1 hcs hpb;have hgw:g<wr.heap.size:=World.block_lt_of_cell? wr _ hcell;have hbw:b<wr.heap.size:=World.block_lt_of_cell? wr _ hdd;go_upto_region 14 with fail
      have a4o:p*48≤140737488355328:=by omega
      go_region_held3 (fun w'=>w'.cell? ⟨b,1,none⟩=some (.slice (some ⟨g,0,none⟩) (BA l.length) C2))
       (first
        |go_keep
        |(exact (hbel.cell (p:=⟨b,1,none⟩) (by simp;omega)).trans hdd))
       ((go_at_call 179;refine (Eh _ p _ _ (Ed.drew a4n.out) (fun u hu=>KI.DZ l u (List.mem_of_mem_drop (List.mem_of_mem_take hu))) a4o).mono ?_;rintro e w1 ⟨A5,C5,rfl,hown5,hbel⟩;have hst1:=(hbel.cell (p:=⟨g,m,none⟩) (by simp;omega)).trans hcell;have hst2:=(hbel.frozen (p:=⟨g,m,none⟩) (by simp;omega)).trans hfro))
      go_wp2
      go_roundg m
      case measure=>omega
      case rel=>
       have hpos:l.length % 2 ^ m=n1 - p:=by
        have:=Nh l.length m hb;rw [VO.out,HP.out] at this;rw [HP.out];omega
       have htop:=SQ l.length m hb
       have hrow:KI.row w1 0 (.slice A5 p C5) (Bo l m):=by
        have hbu:Bo l m=(l.drop (l.length / 2 ^ (m+1)*2 ^ (m+1))).take p:=by unfold Bo;rw [if_pos hb,HP.out]
        have hlen:(Bo l m).length=p:=by
         rw [hbu,Ba,List.length_drop,Jt,VO.out];exact Nat.min_eq_left hpn
        unfold Kind.row;rw [hlen,hbu,Kind.KF,Kind.Nc];show w1.ownsRow 0 160 6 _ _ (List.take (p*6) (List.drop (_*6) _))
        exact own_base hown5 (Nat.zero_le _)
       have hst:=CU.put (w:=w) HC.out rfl HU.out HF.out (((Bf.refl [] wr).drew).trans (Bf.of_below hbel)) m hrow (BD hown5);rw [Og] at hst;refine ⟨rfl,by omega,A4,C4,by rw [hpos],?_,?_⟩
       ·rw [hpos];intro w' hu';have:=aW.out w' (jC.out w' hu');have e:l.length / 2 ^ (m+1)*2 ^ (m+1)+p=l.length / 2 ^ m*2 ^ m:=by rw [htop,HP.out]
        rw [List.drop_drop,←Nat.add_mul,e] at this;exact this
       ·exact hst
     ·have hb':l.length.testBit m=false:=by simpa using hb
      rw [if_neg hb] at hand;have jC:=AQ FD;have qM:=AQ hcs;have HP:=AQ hp;have VO:=AQ hn1;clear FD hc hu hF hvl hbk hvk JL hp hn1 hcs hpb;go_wp2
      go_roundg m
      case measure=>omega
      case rel=>
       have hpos:l.length % 2 ^ m=n1:=by rw [←Zl l.length m hb',VO.out]
       have htop:=Ux l.length m hb';refine ⟨rfl,by omega,Ar,Cr,by rw [hpos],?_,?_⟩
       ·rw [hpos,htop];exact jC.out
       ·rw [←SN l m hb'];exact qM.out
  case rest=>
   have hst:=hcut;obtain ⟨vb2,vs2,hc2,hu2,hF2⟩:=hcut.out;obtain ⟨_,_,_,hd3,hfr⟩:=hc2.cell;have hf3:=hfr 3;have HC:=AQ hc2;have HU:=AQ hu2;have HF:=AQ hF2;clear hc2 hu2 hF2 hfr hst hcut;go_wp2
   go_ret
   have e2:((work:Int)+(l.length:Int))=((work+l.length:Nat):Int):=by omega
   rw [e2];refine ⟨rfl,.mk (HC.out.worked _) (HU.out.setCell (p:=⟨b,3,none⟩) (HF.out b (BI.2 (.inl rfl))) _) HF.out⟩
theorem a4p (w:World) :
 Calls Tryz.prog 107 #[] w fun e w'=>∃b,e=.returned (.pointer (some ⟨b,0,none⟩))∧Dz KI w' b [b] [] 0 0∧w.heap.size≤b∧Bf [] w w':=by
 go_enter Tryz.func107,Tryz.ntmps107
 go_wp2
 go_ret
 refine ⟨w.heap.size,rfl,⟨.slice none 0 0,[],⟨heap_alloc_new w _,World.ownsRow_nil _ _ _ _,rfl,by simp,by simp [blk],by simp,by simp⟩,rfl⟩,Nat.le_refl _,(Bf.refl _ _).alloc _⟩
theorem a4q (b:Nat) (F:List Nat) (bs:List (List (Bx×Nat))) (n work:Nat) (w:World) (h:Dz KI w b F bs n work) :
 Calls Tryz.prog 123 #[.pointer (some ⟨b,0,none⟩)] w fun e w'=>e=.returned (.int .i64 n)∧w=w':=by
 obtain ⟨vb,vs,h,rfl⟩:=h;obtain ⟨hc0,hc1,hc2,hc3,_⟩:=h.cell;clear h;go_enter Tryz.func123,Tryz.ntmps123
 go_wp2_with (go_at_call 178;refine (PL _ _ hc0).mono ?_;rintro e w' ⟨rfl,rfl⟩)
 go_ret
 exact ⟨rfl,rfl⟩
theorem ZH (b:Nat) (F:List Nat) (bs:List (List (Bx×Nat))) (n work:Nat) (w:World) (h:Dz KI w b F bs n work) :
 Calls Tryz.prog 115 #[.pointer (some ⟨b,0,none⟩)] w fun e w'=>e=.returned (.int .i64 bs.length)∧w=w':=by
 obtain ⟨vb,vs,h,rfl⟩:=h;obtain ⟨A,C,rfl⟩:=Bv h.list;obtain ⟨hc0,hc1,hc2,hc3,_⟩:=h.cell;have hl:=h.len;rw [hl] at hc1;clear h;have HL:=AQ hl;clear hl;go_enter Tryz.func115,Tryz.ntmps115
 go_wp2_with (go_at_call 178;refine (PL _ _ hc0).mono ?_;rintro e w' ⟨rfl,rfl⟩)
 go_ret
 exact ⟨rfl,rfl⟩
theorem Sj (b:Nat) (F:List Nat) (i:Nat) (l:List (Bx×Nat)) (bs:List (List (Bx×Nat))) (n work:Nat) (w:World) (h:Dz KI w b F bs n work) (hi:bs[i]? = some l) (hb:l.length<1000000) :
 Calls Tryz.prog 116 #[.pointer (some ⟨b,0,none⟩),.int .i64 i] w fun e w'=>∃A C,e=.returned (.slice A l.length C)∧KI.row w' w.heap.size (.slice A l.length C) l∧Bf [] w w':=by
 obtain ⟨vb,vs,h,rfl⟩:=h;obtain ⟨A,C,rfl⟩:=Bv h.list;obtain ⟨hc0,hc1,hc2,hc3,_⟩:=h.cell;have hl:=h.len
 have hlt:i<bs.length:=by
  rcases Nat.lt_or_ge i bs.length with h' | h'
  ·exact h'
  ·rw [List.getElem?_eq_none h'] at hi;cases hi
 obtain ⟨g,Ak,Ck,l',hA,hbk,_,hcell,_,_,hrow⟩:=h.at (k:=i) (by omega);subst hA;rw [hi] at hbk
 cases hbk
 rw [hl] at hc1;clear h;have HL:=AQ hl;have HI:=AQ hi;have HR:=AQ hrow;clear hl hi hrow;have h0:(0:Int)≤(i:Int):=AU _;have h1:(i:Int)<(bs.length:Int):=by omega
 go_enter Tryz.func116,Tryz.ntmps116
 go_wp2_with (first | (go_at_call 178;refine (PL _ _ hc0).mono ?_;rintro e w' ⟨rfl,rfl⟩) | (go_at_call 179;refine (Eh _ _ _ _ (CW HR.out) (KI.DZ _) (by omega)).mono ?_;rintro e w' ⟨A6,C6,rfl,hown6,hbel⟩))
 go_ret
 exact ⟨A6,C6,rfl,hown6,Bf.of_below hbel⟩
