/- carry.Carry of half.cell[gridiron/api.Box]: what each call does to the buckets in memory. Printed by mkcar.py. -/
import Derived.Deep.RegionHeld3
import Derived.Deep.DeepCutAuto
import Derived.Deep.CutBlock
import Derived.Deep.Light
import Derived.Test.YtkbaaonchdeneaaGreatPc5
set_option maxHeartbeats 400000
set_option maxRecDepth 100000
namespace Go.Proofs.YtkbaaonchdeneaaGreat.O7
open Go.RowKit
def KI:Kind (Bx×Nat):={ T:=249,sT:=178,eT:=160,sz:=6,enc:=λx=>[x.1.x1,x.1.x2,x.1.y1,x.1.y2,.int .u32 (x.1.id:Int),x.2],len:=λ_=>rfl,one:=λx u hu=>by simp at hu;rcases hu with rfl | rfl | rfl | rfl | rfl | rfl<;>rfl }
theorem DF:(Tryz.prog.info? 160).map (λi=>(i.zero,i.size,i.bytes))=some (some (.agg #[.int .i64 0,.int .i64 0,.int .i64 0,.int .i64 0,.int .u32 0,.int .i64 0]),6,48):=by kernel_rfl
theorem DL (s:Value) (n:Nat) (xs:List Value) (w:World) (hs:D5 w 6 s n xs) (h1:∀u∈xs,u.oneCell'=true) (hb:n*48<=140737488355328) :
 Calls Tryz.prog 179 #[s] w λe w'=>∃A C,e=.returned (.slice A n C)/\w'.ownsRow w.heap.size 160 6 (.slice A n C) n xs/\Below w.heap.size w w':=by
 obtain ⟨i0,hi,hz0,hz1,hz2⟩:=info_parts DF;have HS:=AX hs;have H1:=AX h1;clear h1;have HB:=AX hb;clear hb;rcases hs.2 with ⟨rfl,rfl⟩ | ⟨b,o,sp,cap,rfl,_⟩
 ·clear hs;have he:=λw=>Lib.run_eql_slice_nil (P:=Tryz.prog) (w:=w) 178 160 none 0 0 0 0 Tryz.underlying178
  go_enter Tryz.func179,Tryz.ntmps179
  go_wp2
  go_ret
  have hx:xs = []:=List.eq_nil_of_length_eq_zero (by simpa using HS.1);subst hx;exact ⟨_,_,rfl,World.ownsRow_nil _ _ _ _,Below.refl _ _⟩
 ·clear hs;have he:=λw=>Lib.run_eql_slice_nil (P:=Tryz.prog) (w:=w) 178 160 (some ⟨b,o,sp⟩) n cap 0 0 Tryz.underlying178
  go_enter Tryz.func179,Tryz.ntmps179
  go_wp2_with (at_builtin;refine BM _ rfl _ _ 178 rfl w.heap.size 160 i0 (.agg #[.int .i64 0,.int .i64 0,.int .i64 0,.int .i64 0,.int .u32 0,.int .i64 0]) 6 48 Tryz.underlying178 hi hz0 hz1 hz2 rfl (by decide) _ 0 [] rfl (World.ownsRow_made w #[] 0 (Nat.le_refl _) (by decide) rfl) _ n xs rfl (Dh HS.out ((Bj.refl [] w).alloc _) (by simp)) H1.out (by have:=HB.out;unfold maxLen;omega) (Ac HB) (by simp) ?_)
  intro A C w1 HP;have HU:=HP.upd;have hb1:Below w.heap.size w w1:=(((Bj.refl [] w).alloc _).trans' HU (λk hk=>by simp [blk] at hk;omega)).below;have hown:w1.ownsRow w.heap.size 160 6 (.slice A n C) n xs:=by simpa using HP.own
  clear he;go_wp2
  go_ret
  exact ⟨_,_,rfl,hown,hb1⟩
def Ints (w:World) (v:Value) (l:List (Bx×Nat)):Prop:=D5 w 6 v l.length (KI.all l)
theorem Ints.form {w:World} {v:Value} {l:List (Bx×Nat)} (h:Ints w v l):∃A C,v=.slice A l.length C:=Iq h
theorem Ints.cell {w:World} {A:Option Addr} {n C:Nat} {l:List (Bx×Nat)} (h:Ints w (.slice A n C) l) {k:Nat} (hk:k<l.length) :
 ∃b o,A=some ⟨b,o,none⟩/\w.cell? ⟨b,o+k*6,none⟩=some (.int .i64 l[k].1.x1)/\w.cell? ⟨b,o+k*6+1,none⟩=some (.int .i64 l[k].1.x2)/\w.cell? ⟨b,o+k*6+2,none⟩=some (.int .i64 l[k].1.y1)/\w.cell? ⟨b,o+k*6+3,none⟩=some (.int .i64 l[k].1.y2)/\w.cell? ⟨b,o+k*6+4,none⟩=some (.int .u32 (l[k].1.id:Int))/\w.cell? ⟨b,o+k*6+5,none⟩=some (.int .i64 l[k].2):=by
 obtain ⟨b,o,h1,_,_,h4⟩:=See.at (K:=KI) h (k:=k) (Ba hk);exact ⟨b,o,h1,h4 0 _ rfl,h4 1 _ rfl,h4 2 _ rfl,h4 3 _ rfl,h4 4 _ rfl,h4 5 _ rfl⟩
theorem Ints.upd {F:List Nat} {w w':World} {v:Value} {l:List (Bx×Nat)} (h:Ints w v l) (hu:Bj F w w') (hd:0<l.length->∀k∈blk v,k<w.heap.size->k∉F):Ints w' v l:=Dh h hu hd
theorem Ints.BF {w w':World} {v:Value} {l:List (Bx×Nat)} (h:Ints w v l) (hu:Bj [] w w'):Ints w' v l:=Dh h hu (by simp)
theorem Ints.BU {w:World} {base:Nat} {v:Value} {l:List (Bx×Nat)} (h:KI.row w base v l):Ints w v l:=CV h
theorem Hu:(Tryz.prog.info? 178).map (λi=>(i.zero,i.size,i.bytes))=some (some (.slice none 0 0),1,24):=by kernel_rfl
theorem KQ (b:Nat) (w:World) (h:w.cell? b=some (.bool true)) :
 Calls Tryz.prog 178 #[.pointer (some b)] w λe w'=>e=.returned (.bool false)/\w=w':=by
 go_enter Tryz.func178,Tryz.ntmps178
 go_wp2
 go_ret
 exact ⟨rfl,rfl⟩
theorem a1Z (b:Nat) (F:List Nat) (x:(Bx×Nat)) (bs:List (List (Bx×Nat))) (n work:Nat) (w:World) (h':Dc KI w b F bs n work) (hn:bs.length<1000000) (htot:bs.flatten.length<1000000) (hnn:n<1000000) (hwk:work<1099511627776) :
 Calls Tryz.prog 128 #[.pointer (some b),.agg #[x.1.x1,x.1.x2,x.1.y1,x.1.y2,.int .u32 (x.1.id:Int),x.2]] w λe w'=>∃A C,e=.returned (.tuple #[.int .i64 (Bv bs),.slice A (Ec bs x).length C])/\
  Vp KI w w' b F (Nu bs x) (n+1) (work+(Ec bs x).length) (.slice A (Ec bs x).length C) (Ec bs x):=by
 obtain ⟨vb,vs,h,rfl⟩:=h';obtain ⟨A,C,rfl⟩:=BD h.list;obtain ⟨hc0,hc1,hc2,hc3,hfr⟩:=h.cell;have hlen:=AX h.len;have hn':vs.length<1000000:=by rw [h.len];exact hn
 have hfb:Bv bs<1000000:=Nat.lt_of_le_of_lt (DT bs) hn;have Oj:=AX htot;have hUb:Bj [] w (w.alloc (.cells #[x.1.x1,x.1.x2,x.1.y1,x.1.y2,.int .u32 (x.1.id:Int),x.2] 160)):=(Bj.refl [] w).alloc _;have hx0:(w.alloc (.cells #[x.1.x1,x.1.x2,x.1.y1,x.1.y2,.int .u32 (x.1.id:Int),x.2] 160)).cell? w.heap.size=some (.int .i64 x.1.x1):=by rw [World.cell?_alloc_at _ _ _ _ rfl];rfl
 have hx1:(w.alloc (.cells #[x.1.x1,x.1.x2,x.1.y1,x.1.y2,.int .u32 (x.1.id:Int),x.2] 160)).cell? ⟨w.heap.size,1,none⟩=some (.int .i64 x.1.x2):=by rw [World.cell?_alloc_at _ _ _ _ rfl];rfl
 have hx2:(w.alloc (.cells #[x.1.x1,x.1.x2,x.1.y1,x.1.y2,.int .u32 (x.1.id:Int),x.2] 160)).cell? ⟨w.heap.size,2,none⟩=some (.int .i64 x.1.y1):=by rw [World.cell?_alloc_at _ _ _ _ rfl];rfl
 have hx3:(w.alloc (.cells #[x.1.x1,x.1.x2,x.1.y1,x.1.y2,.int .u32 (x.1.id:Int),x.2] 160)).cell? ⟨w.heap.size,3,none⟩=some (.int .i64 x.1.y2):=by rw [World.cell?_alloc_at _ _ _ _ rfl];rfl
 have hx4:(w.alloc (.cells #[x.1.x1,x.1.x2,x.1.y1,x.1.y2,.int .u32 (x.1.id:Int),x.2] 160)).cell? ⟨w.heap.size,4,none⟩=some (.int .u32 (x.1.id:Int)):=by rw [World.cell?_alloc_at _ _ _ _ rfl];rfl
 have hx5:(w.alloc (.cells #[x.1.x1,x.1.x2,x.1.y1,x.1.y2,.int .u32 (x.1.id:Int),x.2] 160)).cell? ⟨w.heap.size,5,none⟩=some (.int .i64 x.2):=by rw [World.cell?_alloc_at _ _ _ _ rfl];rfl
 have kN:w.heap.size∉foot b (.slice A vs.length C) vs:=λhc=>Nat.lt_irrefl _ (h.lt _ hc)
 have hpb:w.heap.size<(w.alloc (.cells #[x.1.x1,x.1.x2,x.1.y1,x.1.y2,.int .u32 (x.1.id:Int),x.2] 160)).heap.size:=by simp
 have h':=h.upd hUb (by simp);obtain ⟨hc0,hc1,hc2,hc3,_⟩:=h'.cell;have H:=AX h';clear h h' hfr hn htot;go_enter Tryz.func128,Tryz.ntmps128
 go_upto_block 0 with (go_at_call 178;refine (KQ _ _ hc0).mono ?_;rintro e w' ⟨rfl,rfl⟩)
 generalize (w.alloc (.cells #[x.1.x1,x.1.x2,x.1.y1,x.1.y2,.int .u32 (x.1.id:Int),x.2] 160))=wb at *;have X5:=AX hUb;clear hUb;go_cut [6] (λs6 wc=>s6=.int .i64 (Bv bs)/\wb=wc)
 case first=>
  go_wp2_with fail
  go_loopg [6] vs.length (λm i wr=>∃k:Nat,k<=Bv bs/\i=.int .i64 k/\m+k=vs.length/\wr=wb)
  case atStart=>exact ⟨0,Nat.zero_le _,rfl,rfl,rfl⟩
  case round=>
   obtain ⟨k,hk,rfl,hmk,rfl⟩:=hrel;have hfl:=DT bs;by_cases hlt:k<vs.length
   ·obtain ⟨g,Ak,Ck,l,hA,hbk,hvk,hcell,hfro,hgb,hrow⟩:=H.out.at hlt;subst hA;have HR:=AX hrow;clear hrow hvk hfro;have HB:=AX hbk;clear hbk;have HM:=AX hmk;clear hmk;by_cases hl:0<l.length
    ·go_wp2
     go_roundg (gk - 1)
     case measure=>have:=HM.out;omega
     case rel=>
      have hne:k≠Bv bs:=λe=>by
       have:=JR bs l (by rw [<-e];exact HB.out);subst this;simp at hl
      exact ⟨k+1,by omega,by go_num,Ac HM,rfl⟩
    ·go_wp2
     go_meet
     case rel=>
      have hne:Bv bs=k:=by
       refine Nat.le_antisymm ?_ hk
       refine Nat.le_of_not_lt λhh=>?_
       exact Lm bs k l hh HB.out (List.eq_nil_of_length_eq_zero (by omega))
      exact ⟨by rw [hne],rfl⟩
   ·go_wp2
    go_meet
    case rel=>
     have:=hlen.out;exact ⟨by rw [show k=Bv bs from by omega],rfl⟩
 case rest=>
  obtain ⟨rfl,rfl⟩:=hcut;obtain ⟨i0,hi0,hz0,hz1,hz2⟩:=info_parts Hu;obtain ⟨i1,hi1,hy0,hy1,hy2⟩:=info_parts DF;have hfl:=DT bs;go_upto_if 37 with fail
  go_cut [] (λwc=>∃bs':List (List (Bx×Nat)),Gn KI wb wc (foot b (.slice A vs.length C) vs) b bs' n work (Bv bs) (Bv bs) (.slice none 0 0)/\bs'.take (Bv bs)=bs.take (Bv bs)/\bs'.drop (Bv bs+1)=bs.drop (Bv bs+1)/\bs'.length<=bs.length+1)
  case first=>
   by_cases hi:Bv bs<vs.length
   ·have hlt:((Bv bs:Int)==(vs.length:Int))=false:=by simp;omega
    go_wp2
    go_meet
    case rel=>
     have:=hlen.out;exact ⟨bs,Gn.start H.out (Bj.refl _ _) (λk hk=>.inl hk) (by omega),rfl,rfl,by omega⟩
   ·have hle:Bv bs<=vs.length:=by rw [hlen.out];exact hfl
    have hlt:((Bv bs:Int)==(vs.length:Int))=true:=by simp;omega
    go_wp2_with (at_builtin;refine BM _ rfl _ _ 247 rfl 0 178 i0 (.slice none 0 0) 1 24 Tryz.underlying247 hi0 hz0 hz1 hz2 rfl (by decide) _ _ vs rfl (H.out.list.alloc _) _ 1 [.slice none 0 0] rfl (BK wb #[.slice none 0 0] 178 1 1 rfl (by decide)) (by simp [Value.oneCell']) (by unfold maxLen;omega) (by omega) (by simp) ?_)
    intro A' C' w1 HP;have hup:Bj (blk (.slice A vs.length C)) wb w1:=((Bj.refl _ _).alloc _).trans HP.upd;have hb1:=hup.block b (lt_of_block H.out.head) H.out.self;have hc1':w1.cell? ⟨b,1,none⟩=some (.slice A vs.length C):=(World.cell?_of_block hb1).trans hc1;have a6X:w1.frozen? ⟨b,1,none⟩=false:=(World.frozen?_of_block hb1).trans (H.out.cell.2.2.2.2 1);have HG:=AX hup;clear hup hb1;go_wp2
    go_meet
    case rel=>
     have hs:=H.out.snoc HP.own HG.out (by rcases HP.at with h' | h';exact .inl h';exact .inr ⟨_,h',by simp⟩);have e1:=hlen.out;refine ⟨bs++[[]],Gn.start hs ?_ ?_ (by simp;omega),?_,?_,by simp⟩
     ·exact (HG.out.mono (G:=foot b (.slice A vs.length C) vs) λk hk=>.inl (BI.2 (.inr (.inl hk)))).setCell (p:=⟨b,1,none⟩) (.inl (BI.2 (.inl rfl))) _
     ·intro k hk;rw [BI] at hk;rcases hk with rfl | hk | ⟨j,v,hv,hk⟩
      ·exact .inl (BI.2 (.inl rfl))
      ·rcases HP.at with h' | h'
       ·rw [h'] at hk;exact .inl (BI.2 (.inr (.inl hk)))
       ·rw [h'] at hk;simp at hk;right;omega
      ·rw [List.getElem?_append] at hv;split at hv
       ·exact .inl (BI.2 (.inr (.inr ⟨j,v,hv,hk⟩)))
       ·have:v=.slice none 0 0:=by
         have:=List.mem_of_getElem? hv;simpa using this
        subst this;simp [blk] at hk
     ·rw [List.take_append_of_le_length (by omega)]
     ·rw [List.drop_eq_nil_of_le (by simp;omega),List.drop_eq_nil_of_le (by omega)]
  case rest=>
   obtain ⟨bs',HS,htk,hdp,hbl⟩:=hcut;have a6Y:bs'.length<1000001:=Ac hlen;clear hbl;have HT:=AX htk;clear htk;have HD:=AX hdp;clear hdp;have HA:=AX HS;clear HS;clear hc0 hc1 hc2 hc3;go_upto_block 2 with fail
   go_cut [7] (λs7 wc=>∃Al Cl,s7=.slice Al ((bs.take (Bv bs)).reverse.flatten).length Cl/\Gn KI wb wc (foot b (.slice A vs.length C) vs) b bs' n work (Bv bs) 0 (.slice Al ((bs.take (Bv bs)).reverse.flatten).length Cl))
   case first=>
    go_wp2_with fail
    go_loopg [7,8] (Bv bs) (λm all k wr=>∃Al Cl,all=.slice Al (((bs.take (Bv bs)).drop m).reverse.flatten).length Cl/\k=.int .i64 ((m:Int) - 1)/\
     Gn KI wb wr (foot b (.slice A vs.length C) vs) b bs' n work (Bv bs) m (.slice Al (((bs.take (Bv bs)).drop m).reverse.flatten).length Cl))
    case atStart=>
     refine ⟨none,0,?_,rfl,?_⟩
     ·rw [List.drop_eq_nil_of_le (by simp;omega)];rfl
     ·rw [List.drop_eq_nil_of_le (by simp;omega)];exact HA.out
    case round=>
     obtain ⟨Al,Cl,rfl,rfl,vb,vs',hc,hrow,hal,hup,hF,Zt,hib,hsz⟩:=hrel;have hlen':=hc.len;by_cases hm:gk=0
     ·subst hm;go_wp2
      go_meet
      case rel=>exact ⟨Al,Cl,by simp,vb,vs',hc,hrow,hal,hup,hF,Zt,hib,hsz⟩
     ·obtain ⟨m,rfl⟩:∃m,gk=m+1:=⟨gk - 1,by omega⟩;obtain ⟨A1,C1,rfl⟩:=BD hc.list;obtain ⟨g,Am,Cm,l,hA,hbk,hvk,hcell,hfro,hgb,Hw⟩:=hc.at (k:=m) (by rw [hlen'];simp;omega);subst hA
      have hbk':bs'[m]? = some l:=by
       rw [List.append_assoc,List.getElem?_append_left (by simp;omega),List.getElem?_take,if_pos (by omega)] at hbk;exact hbk
      have hstep:=PV bs' (Bv bs) m l (by omega) hbk';rw [HT.out] at hstep;have hbd:=OC bs (Bv bs) m;rw [hstep,Bc] at hbd;have hcc:=hc.cell.2.1;have hmn:m<vs'.length:=by rw [hlen'];simp;omega
      have hbn:vs'.length<1000001:=by rw [hlen'];simp;omega
      have e8:(((m+1:Nat):Int) - 1)=(m:Int):=by omega
      rw [e8];rw [HT.out] at hrow;obtain ⟨L,hL⟩:∃L,L=((bs.take (Bv bs)).drop (m+1)).reverse.flatten:=⟨_,rfl⟩;rw [<-hL] at hrow hal hstep hbd |-;have ZW:=AX hL;clear hL;have HL:=AX hlen';clear hlen';have HX:=AX hstep;clear hstep;have HB:=AX hbd;clear hbd;have HK:=AX hbk';clear hbk' hbk hvk;have HC:=AX hc;clear hc;have O5:=AX hal;clear hal;have HF:=AX hF;clear hF;have HR:=AX hrow;clear hrow;have HRM:=AX Hw;clear Hw;clear e8;go_wp2_with (at_builtin;refine BM _ rfl _ _ 178 rfl 0 160 i1 (.agg #[.int .i64 0,.int .i64 0,.int .i64 0,.int .i64 0,.int .u32 0,.int .i64 0]) 6 48 Tryz.underlying178 hi1 hy0 hy1 hy2 rfl (by decide) _ _ _ rfl HR.out _ l.length (KI.all l) rfl (CV HRM.out) (KI.DU l) (by have:=HB.out;have:=Oj.out;unfold maxLen;omega) (Ad HB Oj) (Nat.zero_le _) ?_)
      intro A2 C2 w1 HP;have hc1:=HC.out.upd HP.upd λk hk hc=>(O5.out k hc).2 hk
      have a6Z:=hc1.cell.2.1;obtain ⟨g',_,_,l',hA',_,_,hcell1,a4m,_,_⟩:=hc1.at hmn
      cases hA'
      have HC1:=AX hc1;clear hc1;go_wp2
      go_roundg m
      case measure=>omega
      case rel=>
       have hst:=Gn.step HC.out O5.out hup HF.out Zt hib hsz HK.out (all':=.slice A2 (L.length+l.length) C2) (by
        rw [HT.out,<-ZW.out];unfold Kind.row;rw [Kind.BZ,Bc];exact HP.own) HP.2.1 HP.at
       refine ⟨A2,C2,?_,rfl,?_⟩
       ·rw [HX.out,Bc]
       ·rw [HX.out,Bc];exact hst
   case rest=>
    obtain ⟨Al,Cl,rfl,vb,vs',hc,hrow,hal,hup,hF,_,hib,hsz⟩:=hcut;have hlen':=hc.len;obtain ⟨A1,C1,rfl⟩:=BD hc.list;obtain ⟨g,Am,Cm,l,hA,hbk,hvk,hcell,hfro,hgb,Hw⟩:=hc.at (k:=Bv bs) (by rw [hlen'];simp;omega);subst hA;have hcc:=hc.cell.2.1;have hmn:Bv bs<vs'.length:=by rw [hlen'];simp;omega
    have hbn:vs'.length<1000001:=by rw [hlen'];simp;omega
    rw [List.drop_zero,HT.out] at hrow;have hbd:=OC bs (Bv bs) 0;rw [List.drop_zero] at hbd;obtain ⟨L,hL⟩:∃L,L=(bs.take (Bv bs)).reverse.flatten:=⟨_,rfl⟩;rw [<-hL] at hrow hal hbd |-;have ZW:=AX hL;clear hL;have HL:=AX hlen';clear hlen' hbk hvk;have HB:=AX hbd;clear hbd;have HC:=AX hc;clear hc;have O5:=AX hal;clear hal;have Rz:=AX hup;have HF:=AX hF;clear hF;have HR:=AX hrow;clear hrow;have HRM:=AX Hw;clear Hw;have a7a:(0:Int)<=(Bv bs:Int):=AY _;have a7b:(Bv bs:Int)<(vs'.length:Int):=by omega
    have hgl:g∉blk (.slice Al L.length Cl):=λhk=>(O5.out g hk).2 (BI.2 (.inr (.inl (by simp [blk]))))
    have rC:b∉blk (.slice Al L.length Cl):=λhk=>(O5.out b hk).2 (BI.2 (.inl rfl))
    have hgs:g<wc.heap.size:=World.block_lt_of_cell? wc _ hcell;have hbs':b<wc.heap.size:=World.block_lt_of_cell? wc _ hcc;have hfa:∀o,(wc.alloc o).frozen? ⟨g,Bv bs,none⟩=false:=λo=>by rw [World.frozen?_alloc_past _ _ _ hgs];exact hfro
    have hca:∀o,(wc.alloc o).cell? ⟨g,Bv bs,none⟩=some (.slice Am l.length Cm):=λo=>by rw [World.cell?_alloc_past _ _ _ hgs];exact hcell
    have hda:∀o,(wc.alloc o).cell? ⟨b,1,none⟩=some (.slice (some ⟨g,0,none⟩) vs'.length C1):=λo=>by rw [World.cell?_alloc_past _ _ _ hbs'];exact hcc
    obtain ⟨p,hp⟩:=AU w.heap.size;rw [hp] at hx0 hx1 hx2 hx3 hx4 hx5 kN hpb |-;have hx0':=(Rz.out.cell (p:=⟨p,0,none⟩) hpb kN).trans hx0;have rD:=(Rz.out.cell (p:=⟨p,1,none⟩) hpb kN).trans hx1;have a4n:=(Rz.out.cell (p:=⟨p,2,none⟩) hpb kN).trans hx2;have a4o:=(Rz.out.cell (p:=⟨p,3,none⟩) hpb kN).trans hx3;have a4p:=(Rz.out.cell (p:=⟨p,4,none⟩) hpb kN).trans hx4;have a4q:=(Rz.out.cell (p:=⟨p,5,none⟩) hpb kN).trans hx5;have hpl:p∉blk (.slice Al L.length Cl):=λhk=>by have:=(O5.out p hk).1;omega
    have hps:p<wc.heap.size:=World.block_lt_of_cell? wc _ hx0';have he0:∀o,(wc.alloc o).cell? p=some (.int .i64 x.1.x1):=λo=>by rw [World.cell?_alloc_past _ _ _ hps];exact hx0'
    have he1:∀o,(wc.alloc o).cell? ⟨p,1,none⟩=some (.int .i64 x.1.x2):=λo=>by rw [World.cell?_alloc_past _ _ _ hps];exact rD
    have he2:∀o,(wc.alloc o).cell? ⟨p,2,none⟩=some (.int .i64 x.1.y1):=λo=>by rw [World.cell?_alloc_past _ _ _ hps];exact a4n
    have he3:∀o,(wc.alloc o).cell? ⟨p,3,none⟩=some (.int .i64 x.1.y2):=λo=>by rw [World.cell?_alloc_past _ _ _ hps];exact a4o
    have he4:∀o,(wc.alloc o).cell? ⟨p,4,none⟩=some (.int .u32 (x.1.id:Int)):=λo=>by rw [World.cell?_alloc_past _ _ _ hps];exact a4p
    have he5:∀o,(wc.alloc o).cell? ⟨p,5,none⟩=some (.int .i64 x.2):=λo=>by rw [World.cell?_alloc_past _ _ _ hps];exact a4q
    have hpg:p≠g:=by
     intro e;rcases HF.out g (BI.2 (.inr (.inl (by simp [blk])))) with h | h
     ·exact kN (by rw [e];exact h)
     ·omega
    have aN:g≠p:=Ne.symm hpg;have zn:=AX hp;clear hp hx0 hx1 hx2 hx3 hx4 hx5;go_upto_region 14 with fail
    go_region_held3 (λw'=>w'.cell? ⟨b,1,none⟩=some (.slice (some ⟨g,0,none⟩) vs'.length C1)/\w'.cell? p=some (.int .i64 x.1.x1)/\w'.cell? ⟨p,1,none⟩=some (.int .i64 x.1.x2)/\w'.cell? ⟨p,2,none⟩=some (.int .i64 x.1.y1)/\w'.cell? ⟨p,3,none⟩=some (.int .i64 x.1.y2)/\w'.cell? ⟨p,4,none⟩=some (.int .u32 (x.1.id:Int))/\w'.cell? ⟨p,5,none⟩=some (.int .i64 x.2))
     (first
      |go_keep
      |(exact ⟨hcc,hx0',rD,a4n,a4o,a4p,a4q⟩) | (have hu:=HP2.upd;exact ⟨(hu.cell (p:=⟨b,1,none⟩) (by simp;omega) rC).trans (hda _),(hu.cell (p:=⟨p,0,none⟩) (by simp;omega) hpl).trans (he0 _),(hu.cell (p:=⟨p,1,none⟩) (by simp;omega) hpl).trans (he1 _),(hu.cell (p:=⟨p,2,none⟩) (by simp;omega) hpl).trans (he2 _),(hu.cell (p:=⟨p,3,none⟩) (by simp;omega) hpl).trans (he3 _),(hu.cell (p:=⟨p,4,none⟩) (by simp;omega) hpl).trans (he4 _),(hu.cell (p:=⟨p,5,none⟩) (by simp;omega) hpl).trans (he5 _)⟩))
     ((refine ER _ (by rfl) _ _ 178 (by rfl) 0 160 i1 (.agg #[.int .i64 0,.int .i64 0,.int .i64 0,.int .i64 0,.int .u32 0,.int .i64 0]) 6 48 Tryz.underlying178 hi1 hy0 hy1 hy2 rfl (by decide) _ _ _ (by rfl) (EY (HR.out.alloc _)) _ 1 [x.1.x1,x.1.x2,x.1.y1,x.1.y2,.int .u32 (x.1.id:Int),x.2] (by rfl) (BK wc #[x.1.x1,x.1.x2,x.1.y1,x.1.y2,.int .u32 (x.1.id:Int),x.2] 160 6 1 rfl (by decide)).drew (by simp [Value.oneCell']) (by have:=HB.out;have:=Oj.out;unfold maxLen;omega) (Ad HB Oj) (Nat.zero_le _) ?_;intro A3 C3 w2 HP2;have hst1:=((HP2.upd).cell (p:=⟨g,Bv bs,none⟩) (by simp;omega) hgl).trans (hca _);have hst2:=((HP2.upd).frozen (p:=⟨g,Bv bs,none⟩) (by simp;omega) hgl).trans (hfa _)))
    have hG:∀k∈blk (.slice A3 (L.length+1) C3),wb.heap.size<=k/\k∉foot b (.slice (some ⟨g,0,none⟩) vs'.length C1) vs':=by
     intro k hk;rcases HP2.at with h' | h'
     ·rw [h'] at hk;exact O5.out k hk
     ·rw [h'] at hk;simp at hk;subst hk;exact ⟨by omega,λhc=>by have:=HC.out.lt _ hc;omega⟩
    obtain ⟨hc3,hu3,hF3,hgx⟩:=Gn.fill (w0:=wb) (w2:=w2) (x:=x) (v:=.slice A3 (L.length+1) C3) rfl HC.out hib HD.out ZW.out (((Bj.refl _ _).alloc _).drew.trans HP2.upd) O5.out hup HF.out (by
     unfold Kind.row;rw [Kind.BZ,Bc];exact HP2.own) hG
    clear hst1 hst2 hfa hca hda hcell hfro hcc;generalize w2.setCell ⟨g,Bv bs,none⟩ (.slice A3 (L.length+1) C3)=w3 at *;obtain ⟨_,hd1,hd2,hd3,hfr⟩:=hc3.cell;obtain ⟨g',A4,C4,l4,hA',hb4,_,aO,_,_,hrow4⟩:=hc3.at (k:=Bv bs) (by rw [List.length_set];omega)
    cases hA'
    rw [RG] at hb4
    cases hb4
    have a4r:(Ec bs x).length<1000001:=by rw [hgx,Bc];have:=HB.out;have:=Oj.out;simp;omega
    have YD:=AX hc3;have HR4:=AX hrow4;have HGX:=AX hgx;have EJ:=AX hu3;have HF3:=AX hF3;clear hc3 hrow4 hgx hu3 hF3 hG;have a2a:=hfr 2;have a2b:=hfr 3;clear hfr hgl rC;go_upto_region 16 with fail
    go_region
    have e1:((n:Int)+1)=((n+1:Nat):Int):=by omega
    have e2:((work:Int)+((Ec bs x).length:Int))=((work+(Ec bs x).length:Nat):Int):=by omega
    rw [e1,e2];have hc5:=((YD.out.count (n+1)).worked (work+(Ec bs x).length)).drew;have EZ:=((EJ.out.setCell (p:=⟨b,2,none⟩) (.inl (BI.2 (.inl rfl))) (.int .i64 ((n+1:Nat):Int))).setCell (p:=⟨b,3,none⟩) (.inl (BI.2 (.inl rfl))) (.int .i64 ((work+(Ec bs x).length:Nat):Int))).drew;generalize (((w3.setCell ⟨b,2,none⟩ (.int .i64 ((n+1:Nat):Int))).setCell ⟨b,3,none⟩ (.int .i64 ((work+(Ec bs x).length:Nat):Int))).drew)=w5 at *;clear e1 e2 hd1 hd2 hd3 a2a a2b aO;obtain ⟨_,hd1,_,_,_⟩:=hc5.cell;obtain ⟨g',A5,C5,l5,hA',hb5,_,a2c,_,_,GK⟩:=hc5.at (k:=Bv bs) (by rw [List.length_set];omega)
    cases hA'
    rw [RG] at hb5
    cases hb5
    have Ua:=AX hc5;have Nv:=AX EZ;have yJ:=AX GK;clear hc5 EZ GK;go_wp2_with (go_at_call 179;refine (DL _ _ _ _ (CV yJ.out) (KI.DU _) (by omega)).mono ?_;rintro e w' ⟨A6,C6,rfl,hown6,hbel⟩)
    go_ret2
    have Xm:=Bj.of_below hbel;refine ⟨A6,C6,rfl,_,⟨_,_,Ua.out.upd Xm (by simp),rfl⟩,(X5.out.mono (by simp)).trans' (Nv.out.trans' Xm (by simp)) (λx hx=>.inl hx),λk hk=>(HF3.out k hk).imp id (Bh X5.out.size),?_,?_⟩
    ·exact own_base hown6 (Bh X5.out.size Nv.out.size)
    ·intro k hk hc;have h1:=Ua.out.lt k hc;have h2:=BH hown6 k hk;omega
theorem a2d (b:Nat) (F:List Nat) (s:Value) (l:List (Bx×Nat)) (bs:List (List (Bx×Nat))) (n work:Nat) (w:World) (h':Dc KI w b F bs n work) (hs:D5 w 6 s l.length (KI.all l)) (hsF:0<l.length->∀k∈blk s,k∉F)
 (hl:l.length<1000000) (hwk:work<1099511627776) :
 Calls Tryz.prog 201 #[.pointer (some b),s] w λe w'=>e=.returned l.length/\Ci KI w w' b F (setB l) l.length (work+l.length):=by
 obtain ⟨vb,vs,h,rfl⟩:=h';obtain ⟨A,C,rfl⟩:=Iq hs;obtain ⟨hc0,hc1,hc2,hc3,hfr⟩:=h.cell;have hf1:=hfr 1;have hf2:=hfr 2;obtain ⟨i0,hi0,hz0,hz1,hz2⟩:=info_parts Hu;have H:=AX h;have HS:=AX hs;have HSF:=AX hsF;clear h hs hsF hfr;go_enter Tryz.func201,Tryz.ntmps201
 go_upto_block 0 with (go_at_call 178;refine (KQ _ _ hc0).mono ?_;rintro e w' ⟨rfl,rfl⟩)
 have hr:=(H.out.reset).count l.length;have hu:=((Bj.refl (foot b vb vs) w).setCell (p:=⟨b,1,none⟩) (.inl (BI.2 (.inl rfl))) (.slice none 0 0)).setCell (p:=⟨b,2,none⟩) (.inl (BI.2 (.inl rfl))) (.int .i64 l.length)
 have hst:Ci KI w ((w.setCell ⟨b,1,none⟩ (.slice none 0 0)).setCell ⟨b,2,none⟩ (.int .i64 l.length)) b (foot b vb vs) [] l.length work:=
  .mk hr hu λk hk=>by
   rw [BI] at hk;rcases hk with hk | hk | ⟨j,u,hu',hk⟩
   ·exact .inl (BI.2 (.inl hk))
   ·simp [blk] at hk
   ·simp at hu'
 have HST:=AX hst;clear hst hr hu hc0 hc1 hc2 hc3 hf1 hf2;generalize ((w.setCell ⟨b,1,none⟩ (.slice none 0 0)).setCell ⟨b,2,none⟩ (.int .i64 l.length))=wa at *;go_cut [] (λwc=>Ci KI w wc b (foot b vb vs) (List.replicate (BA l.length) []) l.length work)
 case first=>
  go_wp2_with fail
  go_loopg [5] (l.length) (λm i wr=>i=.int .i64 m/\∃k,m=l.length / 2 ^ k/\(k=0\/2 ^ (k - 1)<=l.length)/\Ci KI w wr b (foot b vb vs) (List.replicate k []) l.length work)
  case atStart=>exact ⟨rfl,0,by simp,.inl rfl,by simpa using HST.out⟩
  case round=>
   obtain ⟨rfl,k,hk,hk1,hcs⟩:=hrel;have HK:=AX hk;clear hk;have nP:=AX hk1;clear hk1;obtain ⟨gQ,vs',hc,hu,hF⟩:=hcs.out;obtain ⟨A1,C1,rfl⟩:=BD hc.list;obtain ⟨_,hd1,_,_,hfr⟩:=hc.cell;have hf1:=hfr 1;have HC:=AX hc;have HU:=AX hu;have HF:=AX hF;have kP:=AX hcs;have hgk:gk<=l.length:=by rw [HK.out];exact Nat.div_le_self _ _
   have hlen:vs'.length<=1000000:=by
    rw [hc.len];simp;rcases nP.out with h | h
    ·omega
    ·have h2:k - 1<2 ^ (k - 1):=Nat.lt_two_pow_self;omega
   clear hc hu hF hcs hfr;by_cases hm:gk=0
   ·subst hm;go_wp2
    go_meet
    case rel=>
     have e:BA l.length=k:=X8 l.length k (by
      have:=HK.out;rcases Nat.div_eq_zero_iff.1 this.symm with h | h
      ·have:=Nat.two_pow_pos k;omega
      ·exact h) nP.out
     rw [e];exact kP.out
   ·have a7c:(0:Int)<(gk:Int):=by omega
    go_wp2_with (at_builtin;refine BM _ rfl _ _ 247 rfl 0 178 i0 (.slice none 0 0) 1 24 Tryz.underlying247 hi0 hz0 hz1 hz2 rfl (by decide) _ _ vs' rfl (HC.out.list.alloc _) _ 1 [.slice none 0 0] rfl (BK wr #[.slice none 0 0] 178 1 1 rfl (by decide)) (by simp [Value.oneCell']) (by unfold maxLen;omega) (by omega) (Nat.zero_le _) ?_)
    intro A2 C2 w1 HP;have hc1:w1.cell? ⟨b,1,none⟩=some (.slice A1 vs'.length C1):=(World.cell?_of_block (((((Bj.refl _ _).alloc _).trans HP.upd:Bj (blk (.slice A1 vs'.length C1)) wr w1)).block b (lt_of_block HC.out.head) HC.out.self)).trans hd1;have hf2:w1.frozen? ⟨b,1,none⟩=false:=(World.frozen?_of_block (((((Bj.refl _ _).alloc _).trans HP.upd:Bj (blk (.slice A1 vs'.length C1)) wr w1)).block b (lt_of_block HC.out.head) HC.out.self)).trans hf1;go_wp2
    have h2:(gk:Int) / 2=((gk / 2:Nat):Int):=by omega
    rw [h2];go_roundg (gk / 2)
    case measure=>omega
    case rel=>
     refine ⟨rfl,k+1,?_,.inr ?_,?_⟩
     ·rw [HK.out,Nat.pow_succ,Nat.div_div_eq_div_mul]
     ·have h3:=HK.out;have h4:1<=l.length / 2 ^ k:=by omega
      have h5:=(Nat.le_div_iff_mul_le (Nat.two_pow_pos k)).1 h4;simpa using h5
     ·have:=Ci.snoc HC.out HU.out HF.out HP;rw [List.replicate_succ',];exact this
 case rest=>
  obtain ⟨vb1,vs1,hc1,hu1,hF1⟩:=hcut.out;obtain ⟨A1,C1,rfl⟩:=BD hc1.list;have hd1:=hc1.cell.2.1;have hB:BA l.length<=20:=BP _ _ (by omega);have hv1:vs1.length=BA l.length:=by rw [hc1.len];simp
  have hv2:=hv1;rw [hv1] at hd1;have rE:=AX hcut;have HV:=AX hv1;obtain ⟨i1,hi1,hy0,hy1,hy2⟩:=info_parts DF;have QX:∀w',Bj (foot b vb vs) w w'->D5 w' 6 (.slice A l.length C) l.length (KI.all l):=λw' hu'=>Dh HS.out hu' λh0 k hk _=>HSF.out h0 k hk
  have rF:=AX QX;clear hc1 hu1 hF1 hv1 hv2 hcut QX;go_upto_block 2 with fail
  go_cut [] (λwz=>Ci KI w wz b (foot b vb vs) (setB l) l.length work)
  case first=>
   go_wp2_with fail
   go_loopg [6,7] (BA l.length) (λm r i wr=>i=.int .i64 ((m:Int) - 1)/\m<=BA l.length/\∃Ar Cr,r=.slice Ar (l.length % 2 ^ m) Cr/\
    (∀w',Bj (foot b vb vs) w w'->D5 w' 6 (.slice Ar (l.length % 2 ^ m) Cr) (l.length % 2 ^ m) ((KI.all l).drop (l.length / 2 ^ m*2 ^ m*6)))/\Ci KI w wr b (foot b vb vs) (setFrom l m) l.length work)
   case atStart=>
    have h1:=Nat.mod_eq_of_lt (Di l.length);have h2:=Nat.div_eq_of_lt (Di l.length);refine ⟨?_,Nat.le_refl _,A,C,by rw [h1],?_,?_⟩
    ·rfl
    ·rw [h1,h2];intro w' hu';simpa using rF.out w' hu'
    ·rw [QE];exact rE.out
   case round=>
    obtain ⟨rfl,hgb,Ar,Cr,rfl,EP,hcs⟩:=hrel;obtain ⟨gQ,vs',hc,hu,hF⟩:=hcs.out;obtain ⟨A2,C2,rfl⟩:=BD hc.list;have hdd:=hc.cell.2.1;have hvl:vs'.length=BA l.length:=by rw [hc.len];simp [setFrom]
    rw [hvl] at hdd;by_cases hm:gk=0
    ·subst hm;rw [OE] at hcs;have kP:=AX hcs;clear EP hc hu hF hcs hvl;go_wp2
     go_meet
     case rel=>exact kP.out
    ·obtain ⟨m,rfl⟩:∃m,gk=m+1:=⟨gk - 1,by omega⟩;obtain ⟨g,Am,Cm,lm,hA,hbk,hvk,hcell,hfro,hgb',Hw⟩:=hc.at (k:=m) (by omega);subst hA;have hpb:2 ^ m<2 ^ 62:=Nat.pow_lt_pow_right (by omega) (by omega);have hml:m<BA l.length:=by omega
     obtain ⟨p,hp⟩:=AU (2 ^ m);have hp0:0<p:=by rw [<-hp];exact Nat.two_pow_pos m
     have a7d:Value.int .i64 (wrap64 ((2:Int) ^ m))=Value.int .i64 (p:Int):=by rw [VA m p (by omega) hp]
     have hand:=VB l.length (2 ^ m) _ (by omega) hpb (QF _ _);rw [hp] at hand;have e8:(((m+1:Nat):Int) - 1)=(m:Int):=by omega
     rw [e8];clear e8;have hm0:(0:Int)<=(m:Int):=AY _;have hm1:(m:Int)<(BA l.length:Int):=by omega
     obtain ⟨n1,hn1⟩:=AU (l.length % 2 ^ (m+1));rw [hn1] at EP |-;have a4s:n1<=l.length:=by rw [<-hn1];exact Nat.mod_le _ _
     by_cases hb:l.length.testBit m=true
     ·rw [if_pos hb] at hand;have hne:((p:Int)==0)=false:=by simp;omega
      have hne':((p:Int) != 0)=true:=by simp;omega
      have hpn:p<=n1:=by
       have:=Jv l.length m hb;omega
      have hsw:=EP wr hu;obtain ⟨A3,C3,hrun3,Ub,hblk3⟩:=ZE (P:=Tryz.prog) Tryz.underlying178 hi1 hy1 hsw p hpn;obtain ⟨A4,C4,hrun4,QY,rG⟩:=Jw (P:=Tryz.prog) Tryz.underlying178 hi1 hy1 hsw p hpn;have rH:=Ub wr hsw;have jE:=AX hsw;have rJ:=AX Ub;have X4:=AX QY;have aP:=AX EP;have a2e:=AX rH;have HC:=AX hc;have HU:=AX hu;have HF:=AX hF;have HVL:=AX hvl;have HP:=AX hp;have Ry:=AX hn1;clear hsw Ub QY hblk3 rG EP rH hc hu hF hvl hbk hvk Hw hp hn1 hcs hpb;have hgw:g<wr.heap.size:=World.block_lt_of_cell? wr _ hcell;have hbw:b<wr.heap.size:=World.block_lt_of_cell? wr _ hdd;go_upto_region 14 with fail
      have a2f:p*48<=140737488355328:=by omega
      go_region_held3 (λw'=>w'.cell? ⟨b,1,none⟩=some (.slice (some ⟨g,0,none⟩) (BA l.length) C2))
       (first
        |go_keep
        |(exact (hbel.cell (p:=⟨b,1,none⟩) (by simp;omega)).trans hdd))
       ((go_at_call 179;refine (DL _ p _ _ (D5.drew a2e.out) (λu hu=>KI.DU l u (List.mem_of_mem_drop (List.mem_of_mem_take hu))) a2f).mono ?_;rintro e w1 ⟨A5,C5,rfl,hown5,hbel⟩;have hst1:=(hbel.cell (p:=⟨g,m,none⟩) (by simp;omega)).trans hcell;have hst2:=(hbel.frozen (p:=⟨g,m,none⟩) (by simp;omega)).trans hfro))
      go_wp2
      go_roundg m
      case measure=>omega
      case rel=>
       have hpos:l.length % 2 ^ m=n1 - p:=by
        have:=Jv l.length m hb;rw [Ry.out,HP.out] at this;rw [HP.out];omega
       have htop:=OH l.length m hb
       have hrow:KI.row w1 0 (.slice A5 p C5) (Bq l m):=by
        have hbu:Bq l m=(l.drop (l.length / 2 ^ (m+1)*2 ^ (m+1))).take p:=by unfold Bq;rw [if_pos hb,HP.out]
        have hlen:(Bq l m).length=p:=by
         rw [hbu,Bf,List.length_drop,G5,Ry.out];exact Nat.min_eq_left hpn
        unfold Kind.row;rw [hlen,hbu,Kind.Iw,Kind.Js];show w1.ownsRow 0 160 6 _ _ (List.take (p*6) (List.drop (_*6) _))
        exact own_base hown5 (Nat.zero_le _)
       have hst:=Ci.put (w:=w) HC.out rfl HU.out HF.out (((Bj.refl [] wr).drew).trans (Bj.of_below hbel)) m hrow (BH hown5);rw [JV] at hst;refine ⟨rfl,by omega,A4,C4,by rw [hpos],?_,?_⟩
       ·rw [hpos];intro w' hu';have:=X4.out w' (aP.out w' hu');have e:l.length / 2 ^ (m+1)*2 ^ (m+1)+p=l.length / 2 ^ m*2 ^ m:=by rw [htop,HP.out]
        rw [List.drop_drop,<-Nat.add_mul,e] at this;exact this
       ·exact hst
     ·have hb':l.length.testBit m=false:=by simpa using hb
      rw [if_neg hb] at hand;have aP:=AX EP;have kP:=AX hcs;have HP:=AX hp;have Ry:=AX hn1;clear EP hc hu hF hvl hbk hvk Hw hp hn1 hcs hpb;go_wp2
      go_roundg m
      case measure=>omega
      case rel=>
       have hpos:l.length % 2 ^ m=n1:=by rw [<-WL l.length m hb',Ry.out]
       have htop:=PW l.length m hb';refine ⟨rfl,by omega,Ar,Cr,by rw [hpos],?_,?_⟩
       ·rw [hpos,htop];exact aP.out
       ·rw [<-OG l m hb'];exact kP.out
  case rest=>
   have hst:=hcut;obtain ⟨vb2,vs2,hc2,hu2,hF2⟩:=hcut.out;obtain ⟨_,_,_,hd3,hfr⟩:=hc2.cell;have hf3:=hfr 3;have HC:=AX hc2;have HU:=AX hu2;have HF:=AX hF2;clear hc2 hu2 hF2 hfr hst hcut;go_wp2
   go_ret
   have e2:((work:Int)+(l.length:Int))=((work+l.length:Nat):Int):=by omega
   rw [e2];refine ⟨rfl,.mk (HC.out.worked _) (HU.out.setCell (p:=⟨b,3,none⟩) (HF.out b (BI.2 (.inl rfl))) _) HF.out⟩
theorem a2g (w:World) :
 Calls Tryz.prog 107 #[] w λe w'=>∃b,e=.returned (.pointer (some ⟨b,0,none⟩))/\Dc KI w' b [b] [] 0 0/\w.heap.size<=b/\Bj [] w w':=by
 go_enter Tryz.func107,Tryz.ntmps107
 go_wp2
 go_ret
 refine ⟨w.heap.size,rfl,⟨.slice none 0 0,[],⟨heap_alloc_new w _,World.ownsRow_nil _ _ _ _,rfl,by simp,by simp [blk],by simp,by simp⟩,rfl⟩,Nat.le_refl _,(Bj.refl _ _).alloc _⟩
theorem zo (b:Nat) (F:List Nat) (bs:List (List (Bx×Nat))) (n work:Nat) (w:World) (h:Dc KI w b F bs n work) :
 Calls Tryz.prog 123 #[.pointer (some b)] w λe w'=>e=.returned n/\w=w':=by
 obtain ⟨vb,vs,h,rfl⟩:=h;obtain ⟨hc0,hc1,hc2,hc3,_⟩:=h.cell;clear h;go_enter Tryz.func123,Tryz.ntmps123
 go_wp2_with (go_at_call 178;refine (KQ _ _ hc0).mono ?_;rintro e w' ⟨rfl,rfl⟩)
 go_ret
 exact ⟨rfl,rfl⟩
theorem a4t (b:Nat) (F:List Nat) (bs:List (List (Bx×Nat))) (n work:Nat) (w:World) (h:Dc KI w b F bs n work) :
 Calls Tryz.prog 122 #[.pointer (some b)] w λe w'=>e=.returned work/\w=w':=by
 obtain ⟨vb,vs,h,rfl⟩:=h;obtain ⟨hc0,hc1,hc2,hc3,_⟩:=h.cell;clear h;go_enter Tryz.func122,Tryz.ntmps122
 go_wp2_with (go_at_call 178;refine (KQ _ _ hc0).mono ?_;rintro e w' ⟨rfl,rfl⟩)
 go_ret
 exact ⟨rfl,rfl⟩
theorem Xn (b:Nat) (F:List Nat) (bs:List (List (Bx×Nat))) (n work:Nat) (w:World) (h:Dc KI w b F bs n work) :
 Calls Tryz.prog 115 #[.pointer (some b)] w λe w'=>e=.returned bs.length/\w=w':=by
 obtain ⟨vb,vs,h,rfl⟩:=h;obtain ⟨A,C,rfl⟩:=BD h.list;obtain ⟨hc0,hc1,hc2,hc3,_⟩:=h.cell;have hl:=h.len;rw [hl] at hc1;clear h;have HL:=AX hl;clear hl;go_enter Tryz.func115,Tryz.ntmps115
 go_wp2_with (go_at_call 178;refine (KQ _ _ hc0).mono ?_;rintro e w' ⟨rfl,rfl⟩)
 go_ret
 exact ⟨rfl,rfl⟩
theorem Ol (b:Nat) (F:List Nat) (i:Nat) (l:List (Bx×Nat)) (bs:List (List (Bx×Nat))) (n work:Nat) (w:World) (h:Dc KI w b F bs n work) (hi:bs[i]? = some l) (hb:l.length<1000000) :
 Calls Tryz.prog 116 #[.pointer (some b),i] w λe w'=>∃A C,e=.returned (.slice A l.length C)/\KI.row w' w.heap.size (.slice A l.length C) l/\Bj [] w w':=by
 obtain ⟨vb,vs,h,rfl⟩:=h;obtain ⟨A,C,rfl⟩:=BD h.list;obtain ⟨hc0,hc1,hc2,hc3,_⟩:=h.cell;have hl:=h.len
 have hlt:i<bs.length:=by
  rcases Nat.lt_or_ge i bs.length with h' | h'
  ·exact h'
  ·rw [List.getElem?_eq_none h'] at hi;cases hi
 obtain ⟨g,Ak,Ck,l',hA,hbk,_,hcell,_,_,hrow⟩:=h.at (k:=i) (by omega);subst hA;rw [hi] at hbk
 cases hbk
 rw [hl] at hc1;clear h;have HL:=AX hl;have HI:=AX hi;have HR:=AX hrow;clear hl hi hrow;have h0:(0:Int)<=(i:Int):=AY _;have h1:(i:Int)<(bs.length:Int):=by omega
 go_enter Tryz.func116,Tryz.ntmps116
 go_wp2_with (first | (go_at_call 178;refine (KQ _ _ hc0).mono ?_;rintro e w' ⟨rfl,rfl⟩) | (go_at_call 179;refine (DL _ _ _ _ (CV HR.out) (KI.DU _) (by omega)).mono ?_;rintro e w' ⟨A6,C6,rfl,hown6,hbel⟩))
 go_ret
 exact ⟨A6,C6,rfl,hown6,Bj.of_below hbel⟩
