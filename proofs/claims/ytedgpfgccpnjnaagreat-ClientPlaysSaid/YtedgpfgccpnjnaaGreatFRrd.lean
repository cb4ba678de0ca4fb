/- Rrd Rre Rrh -/
import Derived.Test.YtedgpfgccpnjnaaGreatFRra
import Derived.Test.YtedgpfgccpnjnaaGreatFMx
import Derived.Test.YtedgpfgccpnjnaaGreatFRp1
import Derived.Test.YtedgpfgccpnjnaaGreatFR8
import Derived.Test.YtedgpfgccpnjnaaGreatFJh
namespace Go.Proofs.YtedgpfgccpnjnaaGreat
section
open Go.Lib (hid)
set_option maxRecDepth 100000
set_option maxHeartbeats 16000000
open Go.RowKit Go.Sort
theorem VRow.atc {w:World} {b off n cap:Nat} {l:List Cd} (hv:VRow cdC 5 w (some ⟨b,off,none⟩) n cap l) {k:Nat} (hk:k<l.length):CdF w b (off+k*5) l[k]:=by
 obtain⟨b',off',hp,hb,h⟩:=hv.at (by omega);simp only[Option.some.injEq,Addr.mk.injEq,and_true] at hp;obtain⟨rfl,rfl⟩:=hp;exact h k hk w (Only.refl _ w)
def lowL (l:List Cd) (need:Int) (k:Nat):Option Int:=lowV (l.map spanC) ((l.take k).map spanC) need
def higL (l:List Cd) (need a:Int) (k:Nat):Int:=higV (l.map spanC) ((l.take k).map spanC) need a
theorem lowL_step {l:List Cd} {k:Nat} (hk:k<l.length) (need:Int):lowL l need (k+1)=if pkV (l.map spanC) need (l[k].off-l[k].dist)=true then minO (lowL l need k) (l[k].off-l[k].dist) else lowL l need k:=by
 unfold lowL;rw[take_snoc l hk,List.map_append,List.map_cons,List.map_nil,lowV_snoc];rfl
theorem higL_step {l:List Cd} {k:Nat} (hk:k<l.length) (need a:Int):higL l need a (k+1)=if pkV (l.map spanC) need (l[k].off+l[k].dist)=true then max (higL l need a k) (l[k].off+l[k].dist) else higL l need a k:=by
 unfold higL;rw[take_snoc l hk,List.map_append,List.map_cons,List.map_nil,higV_snoc];rfl
theorem hv_loops (l:List Cd) (need:Int):hvI (l.map spanC) need=match lowL l need l.length with
 | none=>none
 | some a=>some ⟨a,higL l need a l.length⟩:=by
 unfold lowL higL;rw[List.take_length];rfl
theorem qHullC {w:World} {p:Option Addr} {n cap:Nat} {l:List Cd} (hv:VRow cdC 5 w p n cap l) (hn:n≤48) (hok:∀ c∈l,okC c=true) (need:Int) :
  Calls Tryz.prog 210 #[.slice p n cap,.int .i64 need] w fun e w'=>e=.returned (hullV (hvI (l.map spanC) need))∧Only [] w w':=by
 obtain rfl:n=l.length:=hv.len.symm;have HV:=hid hv;have HK:=hid hok;have HCN:=hid (fun t w' (o:Only [] w w')=>qCnt (hv.kept o) hn hok t);have HE:=hid (hv_loops l need);generalize hvI (l.map spanC) need=res at HE ⊢;obtain⟨wo,hwo⟩:∃ wo:World,wo=w:=⟨_,rfl⟩;subst hwo;have m:=mm0 wo [];have k:=m.out.k;go_enter Tryz.func210,Tryz.ntmps210
 go_wp2_with ((with_reducible refine wU ?_);clear k m;intro w m k)
 have OB:=hid m.out.only;have g4:=gB (w:=w) (b:=wo.heap.size);have g6:=gB (w:=w) (b:=wo.heap.size+1);obtain⟨b4,hb4⟩:∃ b,wo.heap.size=b:=⟨_,rfl⟩;rw[hb4] at g4 g6 ⊢;have HB4:=hid hb4;have G4:=hid g4;have G6:=hid g6;clear k m hb4 g4 g6;obtain⟨wl,hwl⟩:∃ wl:World,wl=w:=⟨_,rfl⟩;subst hwl;go_loopw [7,8] (fun vf vi wr=>∃ j:Nat,j≤l.length∧vi=.int .i64 j∧vf=.bool (lowL l need j).isSome∧wr.heap[b4+1]? = some (.cells #[.int .i64 ((lowL l need j).getD 0),.int .i64 0] 43 (0,0))∧Only [b4+1] wl wr) (fun _ vi _=>l.length-(intOf vi).toNat)
 case atStart=>exact⟨0,Nat.zero_le _,rfl,rfl,G6.out,Only.refl _ _⟩
 case round =>
  obtain⟨j,hj,rfl,rfl,h6,ho⟩:=hrel;have OO:=hid ho;have HOW:=hid (fun w' (o:Only [b4+1] wr w')=>OB.out.trans (OO.out.trans o (fun x hx=>.inl hx)) (fun x hx=>.inr (by have:=HB4.out;rw[List.mem_singleton.1 hx];omega)));by_cases hlt:j<l.length
  ·have HLT:=hid hlt
   have hlt2:(j:Int)<(l.length:Int):=by omega
   obtain⟨b,off,rfl,hbl,-⟩:=HV.out.at (by omega);have HX:=hid (fun w' (o:Only [b4+1] wr w')=>(HV.out.kept (HOW.out w' o)).atc hlt);have hb:=okC_bd (HK.out _ (List.getElem_mem hlt));have HS:=hid (lowL_step hlt need);generalize hs2:lowL l need (j+1)=s2 at HS;have H2:=hid hs2;generalize hs1:lowL l need j=s1 at HS h6 ⊢;generalize l[j]=x at HX HS hb;obtain⟨x1,x2,x3,x4,x5⟩:=x;simp only[CdF] at HX;dsimp only at HS hb;obtain⟨lo,hlo⟩:∃ z,x2-x3=z:=⟨_,rfl⟩;have r1:IntKind.i64.wrap (x2-x3)=lo:=by rw[IntKind.wrap_i64];omega
   rw[hlo] at HS;have HC1:=hid (fun w' o=>HCN.out lo w' o);unfold pkV at HS;generalize cntV (l.map spanC) lo=cn at HC1 HS;clear hs1 hs2 hb hlo hj ho hbl hlt;by_cases hc:need≤(cn:Int)
   focus
    have d1:decide (need≤(cn:Int))=true:=decide_eq_true hc;rw[if_pos d1] at HS;rcases s1 with _|val
    focus
     skip
    rotate_left 1
    focus
     by_cases hl:lo<val
     focus
      have dhl:decide (lo<val)=true:=decide_eq_true hl
     rotate_left 1
     focus
      have dhl:decide (lo<val)=false:=decide_eq_false hl
   rotate_left 3
   focus
    have d1:decide (need≤(cn:Int))=false:=decide_eq_false hc;rw[if_neg (by rw[d1];decide)] at HS;rcases s1 with _|val
   all_goals have HS2:=hid HS.out
   all_goals first|simp only[minO,hl,if_true,if_false] at HS2|simp only[minO,hl,if_true] at HS2|simp only[minO] at HS2|skip
   all_goals clear HS
   all_goals simp only[Option.isSome,Option.getD] at h6 ⊢
   all_goals have m:=mm1 h6;have k:=m.out.k;have c:=HX.out wr (Only.refl _ wr)
   all_goals go_wp2_with (first|((with_reducible first|refine cM (HC1.out _ (HOW.out _ m.out.only)) ?_|refine wU ?_);clear k m c;intro w m k;have c:=HX.out w m.out.only)|((with_reducible refine rG (id:=6) [0,1,2,3,4,5,6,7,8,9,10,11] [] (by kernel_rfl) (by kernel_rfl) ?_);simp only[pick,List.map_cons,List.map_nil,List.getD_cons_succ,List.getD_cons_zero];(repeat' (first|go_big_quiet_step (fail)|(refine wpQuiet_step (fun K hK=>?_);go_simp;(first|(refine hK _ ?_;clear hK K)|(split<;>(refine hK _ ?_;clear hK K))))));all_goals (refine wpQuiet_nil ?_;clear k m c;intro w m k;have c:=HX.out w m.out.only))|((with_reducible refine rG (id:=16) [0,1,2,3,4,5,6,7,8,9,10,11] [] (by kernel_rfl) (by kernel_rfl) ?_);simp only[pick,List.map_cons,List.map_nil,List.getD_cons_succ,List.getD_cons_zero];(repeat' (first|go_big_quiet_step (fail)|(refine wpQuiet_step (fun K hK=>?_);go_simp;(first|(refine hK _ ?_;clear hK K)|(split<;>(refine hK _ ?_;clear hK K))))));all_goals (refine wpQuiet_nil ?_;clear k m c;intro w m k;have c:=HX.out w m.out.only))|(go_roundw;(case rel=>exact⟨j+1,HLT.out,by go_num,(by rw[H2.out,HS2.out]),(by rw[H2.out,HS2.out];exact gB),OO.out.trans gO (fun x hx=>.inl hx)⟩);(case measure=>first|(simp[intOf];done)|(simp[intOf];omega))))
  ·obtain rfl:j=l.length:=by omega
   have h4:=ho.got G4.out (by simp);have HOB:=hid (OB.out.trans OO.out (fun x hx=>.inr (by have:=HB4.out;rw[List.mem_singleton.1 hx];omega)));have ML:=hid (show Mm wr [b4,b4+1] wr _ from ⟨((Mem.start wr [b4,b4+1]).ext true h4 (by simp) (by simp)).ext true h6 (by simp) (by simp)⟩);have HBK:=hid (fun w' (o:Only [b4,b4+1] wr w')=>HOB.out.trans o (fun x hx=>.inr (by have:=HB4.out;simp only[List.mem_cons,List.not_mem_nil,or_false] at hx;omega)));have HL2:=hid HE.out;clear HE
   cases hlw:lowL l need l.length with
   | none =>
    rw[hlw] at HL2;obtain rfl:res=none:=HL2.out;have m:=ML.out;rw[hlw] at m;have k:=m.out.k;dsimp only[Option.isSome,Option.getD] at m k ⊢;clear HL2 h4 h6 ho ML;go_wp2_with (first|((with_reducible refine wU ?_);clear k m;intro w m k)|((with_reducible refine lE (fun w o g k K hK=>⟨rfl,?_⟩));simp[results,Tryz.results210,go_sem,k];refine hK _ ?_;exact⟨rfl,HBK.out w o⟩))
   | some a =>
    rw[hlw] at HL2;obtain rfl:=HL2.out;have m:=ML.out;rw[hlw] at m;have k:=m.out.k;dsimp only[Option.isSome,Option.getD] at m k ⊢;obtain⟨wp,hwp⟩:∃ wp:World,wp=wr:=⟨_,rfl⟩;subst hwp;clear HL2 h4 h6 ho ML;go_wp2_with ((with_reducible refine wU ?_);clear k m;intro w m k)
    have OC:=hid m.out.only;have h4:=gB (w:=w) (b:=b4);have h6:=gB (w:=w) (b:=b4+1);obtain⟨wl2,hwl2⟩:∃ wl2:World,wl2=w:=⟨_,rfl⟩;subst hwl2;have H4:=hid h4;have H6:=hid h6;clear m k h4 h6;go_loopw [10] (fun vi wr=>∃ j:Nat,j≤l.length∧vi=.int .i64 j∧wr.heap[b4+1]? = some (.cells #[.int .i64 a,.int .i64 (higL l need a j)] 43 (0,0))∧Only [b4+1] wl2 wr) (fun vi _=>l.length-(intOf vi).toNat)
    case atStart=>exact⟨0,Nat.zero_le _,rfl,H6.out,Only.refl _ _⟩
    case round =>
     obtain⟨j,hj,rfl,h6,ho⟩:=hrel;have OO2:=hid ho;have HOW:=hid (fun w' (o:Only [b4+1] wr w')=>HBK.out w' (OC.out.trans (ho.trans o (fun x hx=>.inl hx)) (fun x hx=>.inl (by rw[List.mem_singleton.1 hx];simp))));by_cases hlt:j<l.length
     ·have HLT:=hid hlt
      have hlt2:(j:Int)<(l.length:Int):=by omega
      obtain⟨b,off,rfl,hbl,-⟩:=HV.out.at (by omega);have HX:=hid (fun w' (o:Only [b4+1] wr w')=>(HV.out.kept (HOW.out w' o)).atc hlt);have hb:=okC_bd (HK.out _ (List.getElem_mem hlt));have HS:=hid (higL_step hlt need a);generalize hs2:higL l need a (j+1)=s2 at HS;have H2:=hid hs2;generalize hs1:higL l need a j=s1 at HS h6 ⊢;generalize l[j]=x at HX HS hb;obtain⟨x1,x2,x3,x4,x5⟩:=x;simp only[CdF] at HX;dsimp only at HS hb;obtain⟨hi,hhi⟩:∃ z,x2+x3=z:=⟨_,rfl⟩;have r1:IntKind.i64.wrap (x2+x3)=hi:=by rw[IntKind.wrap_i64];omega
      rw[hhi] at HS;have HC1:=hid (fun w' o=>HCN.out hi w' o);unfold pkV at HS;generalize cntV (l.map spanC) hi=cn at HC1 HS;clear hs1 hs2 hb hhi hj ho hbl hlt;by_cases hc:need≤(cn:Int)
      focus
       have d1:decide (need≤(cn:Int))=true:=decide_eq_true hc;rw[if_pos d1] at HS;by_cases hl:s1<hi
       focus
        have dhl:decide (s1<hi)=true:=decide_eq_true hl;rw[Int.max_eq_right (Int.le_of_lt hl)] at HS
       rotate_left 1
       focus
        have dhl:decide (s1<hi)=false:=decide_eq_false hl;rw[Int.max_eq_left (by omega)] at HS
      rotate_left 2
      focus
       have d1:decide (need≤(cn:Int))=false:=decide_eq_false hc;rw[if_neg (by rw[d1];decide)] at HS
      all_goals have m:=mm1 h6;have k:=m.out.k;have c:=HX.out wr (Only.refl _ wr)
      all_goals go_wp2_with (first|((with_reducible first|refine cM (HC1.out _ (HOW.out _ m.out.only)) ?_|refine wU ?_);clear k m c;intro w m k;have c:=HX.out w m.out.only)|((with_reducible refine rG (id:=6) [0,1,2,3,4,5,6,7,8,9,10,11] [] (by kernel_rfl) (by kernel_rfl) ?_);simp only[pick,List.map_cons,List.map_nil,List.getD_cons_succ,List.getD_cons_zero];(repeat' (first|go_big_quiet_step (fail)|(refine wpQuiet_step (fun K hK=>?_);go_simp;(first|(refine hK _ ?_;clear hK K)|(split<;>(refine hK _ ?_;clear hK K))))));all_goals (refine wpQuiet_nil ?_;clear k m c;intro w m k;have c:=HX.out w m.out.only))|((with_reducible refine rG (id:=16) [0,1,2,3,4,5,6,7,8,9,10,11] [] (by kernel_rfl) (by kernel_rfl) ?_);simp only[pick,List.map_cons,List.map_nil,List.getD_cons_succ,List.getD_cons_zero];(repeat' (first|go_big_quiet_step (fail)|(refine wpQuiet_step (fun K hK=>?_);go_simp;(first|(refine hK _ ?_;clear hK K)|(split<;>(refine hK _ ?_;clear hK K))))));all_goals (refine wpQuiet_nil ?_;clear k m c;intro w m k;have c:=HX.out w m.out.only))|(go_roundw;(case rel=>exact⟨j+1,HLT.out,by go_num,(by rw[H2.out,HS.out];exact gB),OO2.out.trans gO (fun x hx=>.inl hx)⟩);(case measure=>first|(simp[intOf];done)|(simp[intOf];omega))))
     ·obtain rfl:j=l.length:=by omega
      have h4:=ho.got H4.out (by simp);have m:Mm wr [b4,b4+1] wr _:=⟨((Mem.start wr [b4,b4+1]).ext true h4 (by simp) (by simp)).ext true h6 (by simp) (by simp)⟩;have k:=m.out.k;have HF:=hid (fun w' (o:Only [b4,b4+1] wr w')=>HBK.out w' ((OC.out.trans ho (fun x hx=>.inl (by rw[List.mem_singleton.1 hx];simp))).trans o (fun x hx=>.inl hx)));clear h4 h6 ho;go_wp2_with (first|((with_reducible refine wU ?_);clear k m;intro w m k)|((with_reducible refine lE (fun w o g k K hK=>⟨rfl,?_⟩));simp[results,Tryz.results210,go_sem,k];refine hK _ ?_;exact⟨rfl,HF.out w o⟩))
theorem qInside {w:World} {p:Option Addr} {n cap:Nat} {l:List Cd} (hv:VRow cdC 5 w p n cap l) (hn:n≤1000) (x:Iv) (is:Bool) :
  Calls Tryz.prog 211 #[.slice p n cap,ivV x,.bool is] w fun e w'=>PeR w (pkX (fun c=>inH x c == is) l 0) e w'∧Only [] w w':=by
 obtain rfl:n=l.length:=hv.len.symm;have HV:=hid hv;obtain⟨lo,hi⟩:=x;unfold ivV;dsimp only;obtain⟨wo,hwo⟩:∃ wo:World,wo=w:=⟨_,rfl⟩;subst hwo;have m:=mm0 wo [];have k:=m.out.k;go_enter Tryz.func211,Tryz.ntmps211
 go_wp2_with ((with_reducible refine wU ?_);clear k m;intro w m k)
 have OB:=hid m.out.only;have hbx:=gB (w:=w) (b:=wo.heap.size);have HBX:=hid hbx;obtain⟨wl,hwl⟩:∃ wl:World,wl=w:=⟨_,rfl⟩;subst hwl;clear m k hbx;go_loopw [7,8] (fun vo vi wr=>∃ j:Nat,j≤l.length∧vi=.int .i64 j∧Own intC 3 1 wl.heap.size wr vo (pkX (fun c=>inH ⟨lo,hi⟩ c == is) (l.take j) 0)∧Only [] wl wr) (fun _ vi _=>l.length-(intOf vi).toNat)
 case atStart=>exact⟨0,Nat.zero_le _,rfl,own_nil _ _,Only.refl _ _⟩
 case round =>
  obtain⟨j,hj,rfl,hown,ho⟩:=hrel;have OO:=hid ho;have OW:=hid hown;have h6:=ho.got HBX.out (by simp);by_cases hlt:j<l.length
  ·have HLT:=hid hlt
   have hlt2:(j:Int)<(l.length:Int):=by omega
   obtain⟨b,off,rfl,hbl,-⟩:=HV.out.at (by omega);have HX:=hid (fun w' (o:Only [] wr w')=>(HV.out.kept (OB.out.nil_trans (OO.out.nil_trans o))).atc hlt)
   have HS:=hid (show pkX (fun c=>inH ⟨lo,hi⟩ c == is) (l.take (j+1)) 0=pkX (fun c=>inH ⟨lo,hi⟩ c == is) (l.take j) 0 ++ (if (inH ⟨lo,hi⟩ l[j] == is)=true then [(j:Int)] else []) by
    rw[take_snoc l hlt,pkX_snoc,List.length_take,Nat.min_eq_left (by omega),Nat.zero_add];rfl)
   have hln:=pkX_len (fun c=>inH ⟨lo,hi⟩ c == is) (l.take j) 0;rw[List.length_take] at hln;generalize hs2:pkX (fun c=>inH ⟨lo,hi⟩ c == is) (l.take (j+1)) 0=s2 at HS;have H2:=hid hs2;generalize pkX (fun c=>inH ⟨lo,hi⟩ c == is) (l.take j) 0=s1 at HS OW hln;generalize l[j]=x at HX HS;obtain⟨x1,x2,x3,x4,x5⟩:=x;simp only[CdF] at HX;have HW:=hid (fun w'=>qWthC x2 lo hi w');rw[show inH ⟨lo,hi⟩ ⟨x1,x2,x3,x4,x5⟩=wth x2 lo hi from rfl] at HS;generalize wth x2 lo hi=bt at HW HS;obtain⟨pa,cap2,rfl,-⟩:=Own.vrow (enc:=intC) (s:=1) intC_len OW.out;clear hs2 hj ho hbl hlt hown
   cases bt<;>cases is
   all_goals simp only[beq_self_eq_true,if_true,Bool.false_eq_true,if_false,List.append_nil,beq_iff_eq,Bool.true_eq_false] at HS
   all_goals have m:=mmR h6;have k:=m.out.k;have c:=HX.out wr (Only.refl _ wr)
   all_goals go_wp2_with (first|((with_reducible first|refine cM (HW.out _) ?_|refine wU ?_);clear k m c;intro w m k;have c:=HX.out w m.out.only)|((with_reducible refine rG (id:=5) [0,1,2,3,4,5,6,7,8,9,10,11] [] (by kernel_rfl) (by kernel_rfl) ?_);simp only[pick,List.map_cons,List.map_nil,List.getD_cons_succ,List.getD_cons_zero];(repeat' (first|go_big_quiet_step (with_reducible first|exact gX (HW.out _))|(refine wpQuiet_step (fun K hK=>?_);go_simp;(first|(refine hK _ ?_;clear hK K)|(split<;>(refine hK _ ?_;clear hK K))))));all_goals (refine wpQuiet_nil ?_;clear k m c;intro w m k;have c:=HX.out w m.out.only))|(go_roundw;(case rel=>exact⟨j+1,HLT.out,by go_num,(by rw[H2.out,HS.out];exact OW.out.kept gO),OO.out.nil_trans gO⟩);(case measure=>first|(simp[intOf];done)|(simp[intOf];omega)))|(at_builtin;refine stop_here ?_))
   all_goals
    have OQ:=hid (OO.out.nil_trans m.out.only);have RQ:=hid (OW.out.kept m.out.only);refine alloc_abs (G:=fun w0=>Stop (wpList _ _ _ _ _ w0)) ?_;intro w5 hb5 ho5 hs5;have B5:=hid hb5;have O5:=hid (OQ.out.nil_trans ho5);have R5:=hid (RQ.out.kept ho5);clear hb5 ho5 hs5;refine stop_go ?_;refine wpList_append_one (w0:=wl) rfl _ _ 142 rfl 3 (.int .i64 0) 1 8 Tryz.underlying142 (by kernel_rfl) rfl (by decide) intC intC_len intC_one s1 _ rfl R5.out _ (j:Int) rfl (fun j u hj=>?_) (by simp[maxLen];omega) (by omega) O5.out ?_
    focus
     rw[cell_got B5.out,←hj];simp[intC]
    intro v6 w6 hown6 ho6 _;have W6:=hid hown6;have O6:=hid ho6;clear hown6 ho6;go_wp2;go_roundw
    case rel=>exact⟨j+1,HLT.out,by go_num,(by rw[H2.out,HS.out];exact W6.out),O6.out⟩
    case measure=>first|(have:=HLT.out;simp[intOf];done)|(have:=HLT.out;simp[intOf];omega)
  ·obtain rfl:j=l.length:=by omega
   rw[List.take_length] at hown;have HN:=hid hown;have m:=mmR h6;have k:=m.out.k;go_wp2_with (first|((with_reducible refine wU ?_);clear k m;intro w m k)|((with_reducible refine lE (fun w o g k K hK=>⟨rfl,?_⟩));simp[results,Tryz.results211,go_sem];refine hK _ ?_;exact⟨⟨_,rfl,(HN.out.kept o).base OB.out.size⟩,(OB.out.nil_trans OO.out).nil_trans o⟩))
end
section
open Go.Lib (hid)
set_option maxRecDepth 100000
set_option maxHeartbeats 16000000
open Go.RowKit Go.Sort
theorem selF_in2 {l:List Cd} {f a:Nat} (h:2*a<l.length):selF l (f+1) a=match selAt l a with
 | some x=>some x
 | none=>selF l f (a+1):=by rw[selF,if_pos h];rfl
theorem selF_out {l:List Cd} {f a:Nat} (h:¬ 2*a<l.length):selF l (f+1) a=none:=by rw[selF,if_neg h]
theorem selE_bad {l:List Cd} (h:chkC l≠0):selE l=chkC l:=by unfold selE;rw[if_neg h]
theorem selE_none {l:List Cd} (h:chkC l=0) (hs:sel l=none):selE l=11:=by unfold selE;rw[if_pos h,hs]
theorem selE_some {l:List Cd} (h:chkC l=0) {x:List Int × Iv} (hs:sel l=some x):selE l=0:=by unfold selE;rw[if_pos h,hs]
theorem qInsX {w:World} {p:Option Addr} {n cap:Nat} {l:List Cd} (hv:VRow cdC 5 w p n cap l) (hn:n≤1000) (x:Iv) (is:Bool):Calls Tryz.prog 211 #[.slice p n cap,ivV x,.bool is] w fun e w'=>(∃ y:Option Addr × Nat,e=.returned (.slice y.1 (pkX (fun c=>inH x c == is) l 0).length y.2)∧Own intC 3 1 w.heap.size w' (.slice y.1 (pkX (fun c=>inH x c == is) l 0).length y.2) (pkX (fun c=>inH x c == is) l 0))∧Only [] w w':=
 (qInside hv hn x is).mono fun e w' h=>⟨by
  obtain⟨v,rfl,hown⟩:=h.1;obtain⟨p,cap,rfl,_⟩:=Own.vrow (enc:=intC) (s:=1) intC_len hown;exact⟨(p,cap),rfl,hown⟩,h.2⟩
theorem qSelect {w:World} {p:Option Addr} {n cap:Nat} {l:List Cd} (hv:VRow cdC 5 w p n cap l) (hn:n≤1000) :
  Calls Tryz.prog 135 #[.slice p n cap] w fun e w'=>SelX w l e w'∧Only [] w w':=by
 obtain rfl:n=l.length:=hv.len.symm;have HV:=hid hv;obtain⟨wo,hwo⟩:∃ wo:World,wo=w:=⟨_,rfl⟩;subst hwo;have HCK:=hid (fun w' (o:Only [] wo w')=>qCheckC (hv.kept o) (by omega));have hgd:=chkC_ok (l:=l);have HRE:=hid (show chkC l≠0→∀ w',SelX wo l (.returned (.tuple #[.slice none 0 0,.agg #[.int .i64 0,.int .i64 0],.int .i64 (chkC l)])) w' from fun h w'=>⟨_,⟨0,0⟩,[],chkC l,rfl,own_nil _ _,(selE_bad h).symm,fun h0=>absurd h0 h⟩);have HRN:=hid (show chkC l=0→sel l=none→∀ w',SelX wo l (.returned (.tuple #[.slice none 0 0,.agg #[.int .i64 0,.int .i64 0],.int .i64 11])) w' from fun h hs w'=>⟨_,⟨0,0⟩,[],11,rfl,own_nil _ _,(selE_none h hs).symm,fun h0=>absurd h0 (by decide)⟩);have HRS:=hid (show ∀ lo hi ins,chkC l=0→sel l=some (ins,⟨lo,hi⟩)→∀ w' v,Own intC 3 1 wo.heap.size w' v ins→SelX wo l (.returned (.tuple #[v,.agg #[.int .i64 lo,.int .i64 hi],.int .i64 0])) w' from fun lo hi ins h hs w' v ho=>⟨v,⟨lo,hi⟩,ins,0,rfl,ho,(selE_some h hs).symm,fun _=>⟨chkC_ok.1 h,hs⟩⟩);generalize SelX wo l=R at HRE HRN HRS ⊢;generalize chkC l=er at HCK hgd HRE HRN HRS;have m:=mm0 wo [];have k:=m.out.k;by_cases hz:er=0
 rotate_left
 ·have d0:(er != 0)=true:=by simpa using hz
  go_enter Tryz.func135,Tryz.ntmps135
  go_wp2_with (first|((with_reducible first|refine cU ?_|refine cM (HCK.out _ m.out.only) ?_|refine wU ?_);clear k m;intro w m k)|((with_reducible refine lE (fun w o g k K hK=>⟨rfl,?_⟩));simp[results,Tryz.results135,go_sem,k];refine hK _ ?_;exact⟨HRE.out hz w,o⟩))
 ·subst hz
  have hg:=hgd.1 rfl;have hl12:=hg.len;have HOK:=hid hg.ok;clear hgd hg HRE;go_enter Tryz.func135,Tryz.ntmps135
  go_wp2_with ((with_reducible first|refine cU ?_|refine cM (HCK.out _ m.out.only) ?_|refine wU ?_);clear k m;intro w m k)
  have OB:=hid m.out.only;have hbx:=gB (w:=w) (b:=wo.heap.size);have HBX:=hid hbx;obtain⟨bx,hbe⟩:∃ b,wo.heap.size=b:=⟨_,rfl⟩;rw[hbe] at HBX;have HBE:=hid hbe;rw[hbe];obtain⟨wl,hwl⟩:∃ wl:World,wl=w:=⟨_,rfl⟩;subst hwl;clear m k hbx hbe HCK;go_loopw [6] (fun va wr=>∃ (a f:Nat),va=.int .i64 a∧a≤l.length∧f+a=l.length+1∧sel l=selF l f a∧Only [] wl wr) (fun va _=>l.length+1-(intOf va).toNat)
  case atStart=>exact⟨0,l.length+1,rfl,Nat.zero_le _,rfl,rfl,Only.refl _ _⟩
  case round =>
   obtain⟨a,f,rfl,ha,hfa,hsel,ho⟩:=hrel;have OO:=hid (OB.out.nil_trans ho);have OL:=hid ho;obtain⟨f,rfl⟩:∃ g,f=g+1:=⟨f-1,by omega⟩;have hbx:=ho.got HBX.out (by simp);have hbw:=got_lt HBX.out;have r1:IntKind.i64.wrap (2*(a:Int))=2*(a:Int):=by rw[IntKind.wrap_i64];omega
   have r2:IntKind.i64.wrap ((l.length:Int)-(a:Int))=(l.length:Int)-(a:Int):=by rw[IntKind.wrap_i64];omega
   have r3:IntKind.i64.wrap ((a:Int)+1)=((a+1:Nat):Int):=by rw[IntKind.wrap_i64];omega
   by_cases hlt:2*a<l.length
   ·have d1:decide (2*(a:Int)<(l.length:Int))=true:=decide_eq_true (by omega)
    rw[selF_in2 hlt,selAt_out HOK.out a hlt] at hsel;have HH:=hid (fun w' (o:Only [] wr w')=>qHullC (HV.out.kept (OO.out.nil_trans o)) (by omega) HOK.out ((l.length:Int)-a));have HF:=hid (fun w' (o:Only [] wr w') (x:Iv) (is:Bool)=>qInsX (HV.out.kept (OO.out.nil_trans o)) hn x is);have HLT:=hid hlt;have HFA:=hid hfa;generalize hvI (l.map spanC) ((l.length:Int)-a)=hv2 at HH hsel;clear ho ha hfa hlt;rcases hv2 with _|⟨lo,hi⟩
    ·unfold hullV ivV at HH
     dsimp only at HH hsel;have HS:=hid hsel;have m:=mmR hbx;have k:=m.out.k;clear hbx hsel;go_wp2_with (first|((with_reducible first|refine cU ?_|refine cM (HH.out _ m.out.only) ?_|refine wU ?_);clear k m;intro w m k)|(go_roundw;(case rel=>exact⟨a+1,f,by go_num,(by have:=HLT.out;omega),(by have:=HFA.out;omega),HS.out,OL.out.nil_trans gO⟩);(case measure=>first|(have:=HLT.out;simp[intOf];done)|(have:=HLT.out;simp[intOf];omega))))
    ·unfold hullV ivV at HH
     dsimp only at HH hsel;have HF1:=hid (fun w' o=>HF.out w' o ⟨lo,hi⟩ false);have HF2:=hid (fun w' o=>HF.out w' o ⟨lo,hi⟩ true);simp only[beq_false] at HF1;simp only[beq_true] at HF2;unfold ivV at HF1 HF2;dsimp only at HF1 HF2;generalize pkX (fun c=>!inH ⟨lo,hi⟩ c) l 0=po at HF1 hsel;generalize pkX (inH ⟨lo,hi⟩) l 0=pi at HF2 hsel;by_cases hc:(po.length:Int)≤a
     ·have d2:decide ((po.length:Int)≤(a:Int))=true:=decide_eq_true hc
      rw[if_pos hc] at hsel;have HS:=hid hsel;have m:=mmR hbx;have k:=m.out.k;clear hsel;go_wp2_with (first|((with_reducible first|refine cU ?_|refine cM (HH.out _ m.out.only) ?_|refine wU ?_);clear k m;intro w m k)|((with_reducible refine cX (HF1.out _ m.out.only) ?_);clear k m;intro w x c2 o m k;obtain⟨px,cx⟩:=x;dsimp only at c2 ⊢;clear c2 o))
      obtain⟨wq,hwq⟩:∃ wq:World,wq=w:=⟨_,rfl⟩;subst hwq;have OQ:=hid m.out.only;refine rY (id:=9) [0,1,3] [] [5] 4 (by kernel_rfl) (by kernel_rfl) ?_;simp only[pick,List.map_cons,List.map_nil,List.getD_cons_succ,List.getD_cons_zero];(repeat (first|(refine wpCalmG_step (fun K hK=>?_);go_simp;refine hK _ ?_;clear hK K)));refine wpCalmG_nil ?_;(repeat (refine wpCalm_step (fun K hK=>?_);go_simp;refine hK _ ?_;clear hK K));refine wpCalm_nil ?_;clear m k;intro w0 o2 m k;have OW:=hid o2;have OE:=hid (OQ.out.nil_trans o2);clear o2 m k;refine yN [2] (by kernel_rfl) ?_;simp only[List.mem_cons,List.not_mem_nil,or_false,forall_eq];refine wpOp_one rfl ?_;go_wp2_with fail
      refine (HF2.out _ OE.out).mono ?_;rintro e w5 ⟨⟨⟨px,cx⟩,rfl,hown⟩,ho5⟩;go_wp2;simp only[nrm];refine⟨.inr (OW.out.nil_trans ho5),fun w6 o6=>?_⟩;have R6:=hid ((hown.kept o6).base (OL.out.nil_trans OE.out).size);have O6:=hid (OW.out.nil_trans (ho5.trans o6 (by simp)));have OE6:=hid (OE.out.nil_trans (ho5.trans o6 (by simp)));clear hown ho5 o6;refine yN [4] (by kernel_rfl) ?_;simp only[List.mem_cons,List.not_mem_nil,or_false,forall_eq];refine wpOp_one rfl ?_;go_wp2;simp only[nrm];refine⟨.inr O6.out,fun w7 o7=>?_⟩;have hb7:=(OE6.out.nil_trans o7).got hbx (by simp);have R7:=hid (R6.out.kept o7);have O7:=hid (OE6.out.nil_trans o7);clear o7 hbx;refine yN [5] (by kernel_rfl) ?_;simp only[List.mem_cons,List.not_mem_nil,or_false,forall_eq];have m:=mm1 hb7;have k:=m.out.k;refine wpOp_one rfl ?_;go_wp2;simp only[nrm];refine⟨.inl (late_of (by kernel_rfl)),tW ?_⟩;clear k m hb7;intro w m k;refine yN [6] (by kernel_rfl) ?_;simp only[List.mem_cons,List.not_mem_nil,or_false,forall_eq];refine wpOp_one rfl ?_;go_wp2;simp only[nrm];refine⟨.inl (late_of (by kernel_rfl)),tW ?_⟩;clear k m;intro w m k;unfold wpY;go_wp2_with (first|((with_reducible refine wU ?_);clear k m;intro w m k)|((with_reducible refine lE (fun w o g k K hK=>⟨rfl,?_⟩));simp[results,Tryz.results135,go_sem,k];refine hK _ ?_;exact⟨HRS.out lo hi pi (by trivial) HS.out w _ ((R7.out.kept_below o (fun x hx=>by rw[List.mem_singleton.1 hx];exact hbw)).base OB.out.size),((OO.out.nil_trans O7.out).trans o (fun x hx=>.inr (by have:=HBE.out;rw[List.mem_singleton.1 hx];omega)))⟩))
     ·have d2:decide ((po.length:Int)≤(a:Int))=false:=decide_eq_false hc
      rw[if_neg hc] at hsel;have HS:=hid hsel;have m:=mmR hbx;have k:=m.out.k;clear hbx hsel;go_wp2_with (first|((with_reducible first|refine cU ?_|refine cM (HH.out _ m.out.only) ?_|refine wU ?_);clear k m;intro w m k)|((with_reducible refine cX (HF1.out _ m.out.only) ?_);clear k m;intro w x c2 o m k;obtain⟨px,cx⟩:=x;dsimp only at c2 ⊢;clear c2 o)|(go_roundw;(case rel=>exact⟨a+1,f,by go_num,(by have:=HLT.out;omega),(by have:=HFA.out;omega),HS.out,OL.out.nil_trans gO⟩);(case measure=>first|(have:=HLT.out;simp[intOf];done)|(have:=HLT.out;simp[intOf];omega))))
   ·have d1:decide (2*(a:Int)<(l.length:Int))=false:=decide_eq_false (by omega)
    rw[selF_out hlt] at hsel;have HS:=hid hsel;have m:Mm wr [bx] wr _:=mm1 hbx;have k:=m.out.k;clear hbx;go_wp2_with (first|((with_reducible refine wU ?_);clear k m;intro w m k)|((with_reducible refine lE (fun w o g k K hK=>⟨rfl,?_⟩));simp[results,Tryz.results135,go_sem,k];refine hK _ ?_;exact⟨HRN.out (by trivial) HS.out w,OO.out.trans o (fun x hx=>.inr (by have:=HBE.out;rw[List.mem_singleton.1 hx];omega))⟩))
end
section
open Go.Lib (hid)
set_option maxRecDepth 100000
set_option maxHeartbeats 16000000
open Go.RowKit Go.Sort
theorem VRow.ati {w:World} {p:Option Addr} {n cap:Nat} {l:List Iv} (hv:VRow ivC 2 w p n cap l) (h0:0<l.length):∃ b off,p=some ⟨b,off,none⟩∧b<w.heap.size∧∀ k (hk:k<l.length) w',Only [] w w'→b<w'.heap.size∧w'.cell? ⟨b,off+k*2,none⟩=some (.int .i64 l[k].lo)∧w'.cell? ⟨b,off+k*2+1,none⟩=some (.int .i64 l[k].hi):=by
 obtain⟨b,off,hp,hb,_⟩:=hv.cell 0 l[0] (List.getElem?_eq_getElem h0);refine⟨b,off,hp,hb,fun k hk w' ho=>?_⟩;obtain⟨b',off',hp',hb',h⟩:=hv.cell k l[k] (List.getElem?_eq_getElem hk);obtain⟨rfl,rfl⟩:b=b'∧off=off':=by rw[hp] at hp';simpa using hp'
 exact⟨Nat.lt_of_lt_of_le hb ho.size,by rw[ho.cell hb (by simp)];exact h 0 _ rfl,by rw[ho.cell hb (by simp),Nat.add_assoc];exact h 1 _ rfl⟩
theorem VRow.at1i {w:World} {b off n cap:Nat} {l:List Iv} (hv:VRow ivC 2 w (some ⟨b,off,none⟩) n cap l) {k:Nat} (hk:k<l.length):b<w.heap.size∧w.cell? ⟨b,off+k*2,none⟩=some (.int .i64 l[k].lo)∧w.cell? ⟨b,off+k*2+1,none⟩=some (.int .i64 l[k].hi):=by
 obtain⟨b',off',hp,hb,h⟩:=hv.ati (by omega);simp only[Option.some.injEq,Addr.mk.injEq,and_true] at hp;obtain⟨rfl,rfl⟩:=hp;exact h k hk w (Only.refl _ w)
theorem cntv_step {v:List Iv} {k:Nat} (hk:k<v.length) (t:Int):cntV (v.take (k+1)) t=cntV (v.take k) t+if wth t v[k].lo v[k].hi=true then 1 else 0:=by
 rw[take_snoc v hk,cntV_snoc]
theorem cntv_lt {v:List Iv} (k:Nat) (t:Int):cntV (v.take k) t≤k:=by
 have:=cntV_le (v.take k) t;rw[List.length_take] at this;omega
theorem qCntV {w:World} {p:Option Addr} {n cap:Nat} {l:List Iv} (hv:VRow ivC 2 w p n cap l) (hn:n≤48) (t:Int)  :
  Calls Tryz.prog 295 #[.slice p n cap,.int .i64 t] w fun e w'=>e=.returned (.int .i64 (cntV l t:Nat))∧Only [] w w':=by
 obtain rfl:n=l.length:=hv.len.symm;have HV:=hid hv;obtain⟨wo,hwo⟩:∃ wo:World,wo=w:=⟨_,rfl⟩;subst hwo;go_enter Tryz.func295,Tryz.ntmps295
 go_wp2_with fail
 go_loopw [5,6] (fun vn vi wr=>∃ k:Nat,k≤l.length∧vi=.int .i64 k∧vn=.int .i64 (cntV (l.take k) t:Nat)∧Only [] wo wr) (fun _ vi _=>l.length-(intOf vi).toNat)
 case atStart=>exact⟨0,Nat.zero_le _,rfl,rfl,Only.refl _ _⟩
 case round =>
  obtain⟨j,hk,rfl,rfl,ho⟩:=hrel;have OO:=hid ho;by_cases hlt:j<l.length
  ·obtain⟨b,off,rfl,-,HC⟩:=HV.out.ati (by omega)
   have HX:=hid (fun w' (o:Only [] wr w')=>HC j hlt w' (OO.out.nil_trans o));have HS:=hid (cntv_step hlt t);have hle:=cntv_lt (v:=l) j t;have HLT:=hid hlt;generalize hs2:cntV (l.take (j+1)) t=s2 at HS;have H2:=hid hs2;generalize hs1:cntV (l.take j) t=s1 at HS hle ⊢;clear hs1 hs2;generalize l[j]=x at HX HS;obtain⟨x1,x2⟩:=x;dsimp only at HS HX;have r3:IntKind.i64.wrap ((s1:Int)+1)=((s1+1:Nat):Int):=by rw[IntKind.wrap_i64];omega
   have hlt2:(j:Int)<(l.length:Int):=by omega
   unfold wth at HS;clear hle HC ho hlt;by_cases h1:x1≤t
   focus
    have d1:decide (x1≤t)=true:=decide_eq_true h1;by_cases h2:t≤x2
    focus
     have d2:decide (t≤x2)=true:=decide_eq_true h2;rw[d1,d2,if_pos (by decide)] at HS
    rotate_left 1
    focus
     have d2:decide (t≤x2)=false:=decide_eq_false h2;rw[d1,d2,if_neg (by decide)] at HS
   rotate_left 2
   focus
    have d1:decide (x1≤t)=false:=decide_eq_false h1;rw[d1,Bool.false_and,if_neg (by decide)] at HS
   all_goals have m:=mm0 wr [];have k:=m.out.k;have c:=HX.out wr (Only.refl [] wr)
   all_goals go_wp2_with (first|((with_reducible refine wU ?_);clear k m c;intro w m k;have c:=HX.out w m.out.only)|(go_roundw;(case rel=>exact⟨j+1,HLT.out,by go_num,(by rw[H2.out,HS.out];first|done|rfl|simp),OO.out.nil_trans gO⟩);(case measure=>first|(simp[intOf];done)|(simp[intOf];omega))))
  ·obtain rfl:j=l.length:=by omega
   rw[List.take_length];have m:=mm0 wr [];have k:=m.out.k;go_wp2_with (first|((with_reducible refine wU ?_);clear k m;intro w m k)|((with_reducible refine lE (fun w o g k K hK=>⟨rfl,?_⟩));simp[results,Tryz.results295,go_sem];refine hK _ ?_;exact⟨rfl,OO.out.nil_trans o⟩))
theorem qIvValid {w:World} {p:Option Addr} {n cap:Nat} {l:List Iv} (hv:VRow ivC 2 w p n cap l) (hn:n≤48) :
  Calls Tryz.prog 260 #[.slice p n cap] w fun e w'=>VaR w (l.filter ivOk) e w'∧Only [] w w':=by
 obtain rfl:n=l.length:=hv.len.symm;have HV:=hid hv;have d0:decide ((48:Int)<(l.length:Int))=false:=decide_eq_false (by omega);obtain⟨wo,hwo⟩:∃ wo:World,wo=w:=⟨_,rfl⟩;subst hwo;go_enter Tryz.func260,Tryz.ntmps260
 go_wp2_with fail
 go_loopw [3,4] (fun vo vi wr=>VaI wo l vo vi wr) (fun _ vi _=>l.length-(intOf vi).toNat)
 case atStart=>exact⟨0,Nat.zero_le _,rfl,own_nil _ _,Only.refl _ _⟩
 case round =>
  obtain⟨j,hj,rfl,hown,ho⟩:=hrel;have OO:=hid ho;have OW:=hid hown;by_cases hlt:j<l.length
  ·have HLT:=hid hlt
   have hlt2:(j:Int)<(l.length:Int):=by omega
   obtain⟨b,off,rfl,-,HC⟩:=HV.out.ati (by omega);have HX:=hid (fun w' (o:Only [] wr w')=>HC j hlt w' (OO.out.nil_trans o))
   have HS:=hid (show (l.take (j+1)).filter ivOk=(l.take j).filter ivOk ++ (if ivOk l[j]=true then [l[j]] else []) by
    rw[take_snoc l hlt,List.filter_append,List.filter_cons,List.filter_nil];rfl)
   have hln:=List.length_filter_le ivOk (l.take j);rw[List.length_take] at hln;generalize hs2:(l.take (j+1)).filter ivOk=s2 at HS;have H2:=hid hs2;generalize (l.take j).filter ivOk=s1 at HS OW hln;have HK:=hid (fun w'=>qDCheck l[j] w');generalize l[j]=x at HX HS HK;generalize ivOk x=ok at HK HS;obtain⟨x1,x2⟩:=x;unfold ivV at HK;dsimp only at HX HK HS;obtain⟨pa,cap2,rfl,-⟩:=Own.vrow (enc:=ivC) (s:=2) ivC_len OW.out;clear hs2 hj ho hlt hown HC
   cases ok
   all_goals simp only[if_true,Bool.false_eq_true,if_false,List.append_nil] at HS HK
   all_goals have m:=mm0 wr [];have k:=m.out.k;have c:=HX.out wr (Only.refl _ wr)
   all_goals go_wp2_with (first|((with_reducible first|refine cM (HK.out _) ?_|refine wU ?_);clear k m c;intro w m k;have c:=HX.out w m.out.only)|(go_roundw;(case rel=>exact⟨j+1,HLT.out,by go_num,(by rw[H2.out,HS.out];exact OW.out.kept gO),OO.out.nil_trans gO⟩);(case measure=>first|(simp[intOf];done)|(simp[intOf];omega)))|(at_builtin;refine stop_here ?_))
   have OQ:=hid (OO.out.nil_trans m.out.only);have RQ:=hid (OW.out.kept m.out.only);refine alloc_abs (G:=fun w0=>Stop (wpList _ _ _ _ _ w0)) ?_;intro w5 hb5 ho5 hs5;have B5:=hid hb5;have O5:=hid (OQ.out.nil_trans ho5);have R5:=hid (RQ.out.kept ho5);clear hb5 ho5 hs5;refine stop_go ?_;refine wpList_append_one (w0:=wo) rfl _ _ 182 rfl 43 (.agg #[.int .i64 0,.int .i64 0]) 2 16 Tryz.underlying182 (by kernel_rfl) rfl (by decide) ivC ivC_len ivC_one s1 _ rfl R5.out _ ⟨x1,x2⟩ rfl (fun j u hj=>?_) (by simp[maxLen];omega) (by omega) O5.out ?_
   focus
    rw[cell_got B5.out,←hj];simp[ivC]
   intro v6 w6 hown6 ho6 _;have W6:=hid hown6;have O6:=hid ho6;clear hown6 ho6;go_wp2;go_roundw
   case rel=>exact⟨j+1,HLT.out,by go_num,(by rw[H2.out,HS.out];exact W6.out),O6.out⟩
   case measure=>first|(have:=HLT.out;simp[intOf];done)|(have:=HLT.out;simp[intOf];omega)
  ·obtain rfl:j=l.length:=by omega
   rw[List.take_length] at hown;have HN:=hid hown;have m:=mm0 wr [];have k:=m.out.k;go_wp2_with (first|((with_reducible refine wU ?_);clear k m;intro w m k)|((with_reducible refine lE (fun w o g k K hK=>⟨rfl,?_⟩));simp[results,Tryz.results260,go_sem];refine hK _ ?_;exact⟨⟨_,rfl,HN.out.kept o⟩,OO.out.nil_trans o⟩))
theorem hvv_loops (v:List Iv) (need:Int):hvI v need=match lowV v (v.take v.length) need with
 | none=>none
 | some a=>some ⟨a,higV v (v.take v.length) need a⟩:=by
 rw[List.take_length];rfl
theorem lowv_step {v:List Iv} {k:Nat} (hk:k<v.length) (need:Int):lowV v (v.take (k+1)) need=if pkV v need v[k].lo=true then minO (lowV v (v.take k) need) v[k].lo else lowV v (v.take k) need:=by
 rw[take_snoc v hk,lowV_snoc]
theorem higv_step {v:List Iv} {k:Nat} (hk:k<v.length) (need a:Int):higV v (v.take (k+1)) need a=if pkV v need v[k].hi=true then max (higV v (v.take k) need a) v[k].hi else higV v (v.take k) need a:=by
 rw[take_snoc v hk,higV_snoc]
theorem qHull {w:World} {p:Option Addr} {n cap:Nat} {l:List Iv} (hv:VRow ivC 2 w p n cap l) (hn:n≤48) (need:Int) (h1:1≤need) :
  Calls Tryz.prog 261 #[.slice p n cap,.int .i64 need] w fun e w'=>e=.returned (hullV (hullI l need))∧Only [] w w':=by
 obtain rfl:n=l.length:=hv.len.symm;have HVL:=hid (fun w' (o:Only [] w w')=>qIvValid (hv.kept o) hn);have hfl:=List.length_filter_le ivOk l;have HE:=hid (hvv_loops (l.filter ivOk) need);rw[hvI_eq l need h1];generalize l.filter ivOk=v at HE HVL hfl ⊢;generalize hvI v need=res at HE ⊢;have dn:decide ((0:Int)<need)=true:=decide_eq_true (by omega);have hv48:v.length≤48:=by omega
 obtain⟨wo,hwo⟩:∃ wo:World,wo=w:=⟨_,rfl⟩;subst hwo;have m:=mm0 wo [];have k:=m.out.k;go_enter Tryz.func261,Tryz.ntmps261
 go_wp2_with ((with_reducible first|refine cU ?_|refine wU ?_);clear k m;intro w m k)
 refine (HVL.out _ m.out.only).mono ?_;rintro e w2 ⟨⟨v',rfl,hown⟩,ho2⟩;have hg:=fun x hx=>hown.block_ge x hx;obtain⟨p2,cap2,rfl,hv2⟩:=Own.vrow (enc:=ivC) (s:=2) ivC_len hown;have hlt4:=got_lt (gB (w:=w) (b:=wo.heap.size))
 have hpb:∀ a,p2=some a→wo.heap.size<a.block∧a.block<w2.heap.size:=fun a ha=>by
  rcases hown with ⟨h,-⟩|⟨g,cp,h,hge,hr⟩
  ·rw[ha] at h;cases h
  ·simp only[Value.slice.injEq] at h
   rw[ha] at h;obtain⟨h,-⟩:=h;simp only[Option.some.injEq] at h;subst h;exact⟨Nat.lt_of_lt_of_le hlt4 hge,hr.lt⟩
 have M2:=hid (⟨m.out.call ho2⟩:Mm wo [] w2 _);have OB2:=hid (m.out.only.nil_trans ho2);clear m k hg hown ho2;obtain⟨wq,hwq⟩:∃ wq:World,wq=w2:=⟨_,rfl⟩;subst hwq;have m:=M2.out.re;simp only[ownL,if_true] at m;have k:=m.out.k;go_wp2_with ((with_reducible refine wU ?_);clear k m;intro w m k)
 have g4:=gB (w:=w) (b:=wo.heap.size);have g6:=gB (w:=w) (b:=wq.heap.size);have HB4:Hid (wo.heap.size<wq.heap.size):=hid (got_lt M2.out.out.got.1);have OB:=hid (OB2.out.trans m.out.only (fun x hx=>.inr (by rw[List.mem_singleton.1 hx];exact Nat.le_refl _)));have hvl:=hv2.kept' m.out.only (fun a ha=>by have:=hpb a ha;simp;omega);obtain⟨b4,hb4⟩:∃ b,wo.heap.size=b:=⟨_,rfl⟩;obtain⟨b7,hb7⟩:∃ b,wq.heap.size=b:=⟨_,rfl⟩;rw[hb4] at g4 hpb HB4 ⊢;rw[hb7] at g6 hpb HB4 ⊢;have HBE:=hid hb4;have G4:=hid g4;have G6:=hid g6;clear k m g4 g6 hb4 hb7 hlt4 M2 OB2;obtain⟨wl,hwl⟩:∃ wl:World,wl=w:=⟨_,rfl⟩;subst hwl;have HVV:=hid (fun w' (o:Only [b4,b7] wl w')=>hvl.kept' o (fun a ha=>by have:=hpb a ha;simp;omega));have HBK:=hid (fun w' (o:Only [b4,b7] wl w')=>OB.out.trans o (fun x hx=>.inr (by have:=HBE.out;have:=HB4.out;simp only[List.mem_cons,List.not_mem_nil,or_false] at hx;omega)));have HIN:Hid (∀ x∈[b7],x∈[b4,b7]∨wl.heap.size≤x):=hid (by simp);clear hvl hv2 hpb HVL;go_loopw [8,9] (fun vf vi wr=>∃ j:Nat,j≤v.length∧vi=.int .i64 j∧vf=.bool (lowV v (v.take j) need).isSome∧wr.heap[b7]? = some (.cells #[.int .i64 ((lowV v (v.take j) need).getD 0),.int .i64 0] 43 (0,0))∧Only [b7] wl wr) (fun _ vi _=>v.length-(intOf vi).toNat)
 case atStart=>exact⟨0,Nat.zero_le _,rfl,rfl,G6.out,Only.refl _ _⟩
 case round =>
  obtain⟨j,hj,rfl,rfl,h6,ho⟩:=hrel;have OO7:=hid ho;have OO:=hid ((Only.refl [b4,b7] wl).trans ho (fun x hx=>.inl (by rw[List.mem_singleton.1 hx];simp)));have HOW:=hid (fun w' (o:Only [b7] wr w')=>OO.out.trans o (fun x hx=>.inl (by rw[List.mem_singleton.1 hx];simp)));by_cases hlt:j<v.length
  ·have HLT:=hid hlt
   have hlt2:(j:Int)<(v.length:Int):=by omega
   obtain⟨b,off,rfl,-,-⟩:=(HVV.out wl (Only.refl _ _)).ati (by omega);have HX:=hid (fun w' (o:Only [b7] wr w')=>(HVV.out w' (HOW.out w' o)).at1i hlt);have HS:=hid (lowv_step hlt need);generalize hs2:lowV v (v.take (j+1)) need=s2 at HS;have H2:=hid hs2;generalize hs1:lowV v (v.take j) need=s1 at HS h6 ⊢;generalize v[j]=x at HX HS;obtain⟨lo,hi⟩:=x;dsimp only at HS HX;have HC1:=hid (fun w' o=>qCntV (HVV.out w' (HOW.out w' o)) hv48 lo);unfold pkV at HS;generalize cntV v lo=cn at HC1 HS;clear hs1 hs2 hj ho hlt;by_cases hc:need≤(cn:Int)
   focus
    have d1:decide (need≤(cn:Int))=true:=decide_eq_true hc;rw[if_pos d1] at HS;rcases s1 with _|val
    focus
     skip
    rotate_left 1
    focus
     by_cases hl:lo<val
     focus
      have dhl:decide (lo<val)=true:=decide_eq_true hl
     rotate_left 1
     focus
      have dhl:decide (lo<val)=false:=decide_eq_false hl
   rotate_left 3
   focus
    have d1:decide (need≤(cn:Int))=false:=decide_eq_false hc;rw[if_neg (by rw[d1];decide)] at HS;rcases s1 with _|val
   all_goals have HS2:=hid HS.out
   all_goals first|simp only[minO,hl,if_true,if_false] at HS2|simp only[minO,hl,if_true] at HS2|simp only[minO] at HS2|skip
   all_goals clear HS
   all_goals simp only[Option.isSome,Option.getD] at h6 ⊢
   all_goals have m:=mm1 h6;have k:=m.out.k;have c:=HX.out wr (Only.refl _ wr)
   all_goals go_wp2_with (first|((with_reducible first|refine cM (HC1.out _ m.out.only) ?_|refine wU ?_);clear k m c;intro w m k;have c:=HX.out w m.out.only)|((with_reducible refine rG (id:=7) [0,1,2,3,4,5,6,7,8,9,10,11,12,13,14,15,16,17,18,19,20,21,22] [] (by kernel_rfl) (by kernel_rfl) ?_);simp only[pick,List.map_cons,List.map_nil,List.getD_cons_succ,List.getD_cons_zero];(repeat' (first|go_big_quiet_step (with_reducible first|exact gX (HC1.out _ gOP))|(refine wpQuiet_step (fun K hK=>?_);go_simp;(first|(refine hK _ ?_;clear hK K)|(split<;>(refine hK _ ?_;clear hK K))))));all_goals (refine wpQuiet_nil ?_;clear k m c;intro w m k;have c:=HX.out w m.out.only))|(go_roundw;(case rel=>exact⟨j+1,HLT.out,by go_num,(by rw[H2.out,HS2.out]),(by rw[H2.out,HS2.out];exact gB),OO7.out.trans gO (fun x hx=>.inl hx)⟩);(case measure=>first|(simp[intOf];done)|(simp[intOf];omega))))
  ·obtain rfl:j=v.length:=by omega
   have h4:=ho.got G4.out (by have:=HB4.out;simp;omega);have HOB:=hid (HBK.out _ OO.out);have ML:=hid (show Mm wr [b4,b7] wr _ from ⟨((Mem.start wr [b4,b7]).ext true h4 (by simp) (by simp)).ext true h6 (by have:=HB4.out;simp;omega) (by simp)⟩);have HBK2:=hid (fun w' (o:Only [b4,b7] wr w')=>HBK.out w' (OO.out.trans o (fun x hx=>.inl hx)));have HL2:=hid HE.out;clear HE;rw[List.take_length] at ML;rw[List.take_length] at HL2;rw[List.take_length]
   cases hlw:lowV v v need with
   | none =>
    rw[hlw] at HL2;obtain rfl:res=none:=HL2.out;have m:=ML.out;rw[hlw] at m;have k:=m.out.k;dsimp only[Option.isSome,Option.getD] at m k ⊢;clear HL2 h4 h6 ho ML;go_wp2_with (first|((with_reducible refine wU ?_);clear k m;intro w m k)|((with_reducible refine lE (fun w o g k K hK=>⟨rfl,?_⟩));simp[results,Tryz.results261,go_sem,k];refine hK _ ?_;exact⟨rfl,HBK2.out w o⟩))
   | some a =>
    rw[hlw] at HL2;obtain rfl:=HL2.out;have m:=ML.out;rw[hlw] at m;have k:=m.out.k;dsimp only[Option.isSome,Option.getD] at m k ⊢;obtain⟨wp,hwp⟩:∃ wp:World,wp=wr:=⟨_,rfl⟩;subst hwp;clear HL2 h4 h6 ho ML;go_wp2_with ((with_reducible refine wU ?_);clear k m;intro w m k)
    have OC:=hid m.out.only;have h4:=gB (w:=w) (b:=b4);have h6:=gB (w:=w) (b:=b7);obtain⟨wl2,hwl2⟩:∃ wl2:World,wl2=w:=⟨_,rfl⟩;subst hwl2;have H4:=hid h4;have H6:=hid h6;clear m k h4 h6;go_loopw [10] (fun vi wr=>∃ j:Nat,j≤v.length∧vi=.int .i64 j∧wr.heap[b7]? = some (.cells #[.int .i64 a,.int .i64 (higV v (v.take j) need a)] 43 (0,0))∧Only [b7] wl2 wr) (fun vi _=>v.length-(intOf vi).toNat)
    case atStart=>exact⟨0,Nat.zero_le _,rfl,H6.out,Only.refl _ _⟩
    case round =>
     obtain⟨j,hj,rfl,h6,ho⟩:=hrel;have OO2:=hid ho;have HOW:=hid (fun w' (o:Only [b7] wr w')=>OO.out.trans (OC.out.trans (ho.trans o (fun x hx=>.inl hx)) (fun x hx=>.inl (by rw[List.mem_singleton.1 hx];simp))) (fun x hx=>.inl hx));by_cases hlt:j<v.length
     ·have HLT:=hid hlt
      have hlt2:(j:Int)<(v.length:Int):=by omega
      obtain⟨b,off,rfl,-,-⟩:=(HVV.out wl (Only.refl _ _)).ati (by omega);have HX:=hid (fun w' (o:Only [b7] wr w')=>(HVV.out w' (HOW.out w' o)).at1i hlt);have HS:=hid (higv_step hlt need a);generalize hs2:higV v (v.take (j+1)) need a=s2 at HS;have H2:=hid hs2;generalize hs1:higV v (v.take j) need a=s1 at HS h6 ⊢;generalize v[j]=x at HX HS;obtain⟨lo,hi⟩:=x;dsimp only at HS HX;have HC1:=hid (fun w' o=>qCntV (HVV.out w' (HOW.out w' o)) hv48 hi);unfold pkV at HS;generalize cntV v hi=cn at HC1 HS;clear hs1 hs2 hj ho hlt;by_cases hc:need≤(cn:Int)
      focus
       have d1:decide (need≤(cn:Int))=true:=decide_eq_true hc;rw[if_pos d1] at HS
      rotate_left 1
      focus
       have d1:decide (need≤(cn:Int))=false:=decide_eq_false hc;rw[if_neg (by rw[d1];decide)] at HS
      all_goals have m:=mm1 h6;have k:=m.out.k;have c:=HX.out wr (Only.refl _ wr)
      all_goals go_wp2_with (first|((with_reducible first|refine cM (HC1.out _ m.out.only) ?_|refine wU ?_);clear k m c;intro w m k;have c:=HX.out w m.out.only)|((with_reducible refine rG (id:=7) [0,1,2,3,4,5,6,7,8,9,10,11,12,13,14,15,16,17,18,19,20,21,22] [] (by kernel_rfl) (by kernel_rfl) ?_);simp only[pick,List.map_cons,List.map_nil,List.getD_cons_succ,List.getD_cons_zero];(repeat' (first|go_big_quiet_step (with_reducible first|exact gX (HC1.out _ gOP))|(refine wpQuiet_step (fun K hK=>?_);go_simp;(first|(refine hK _ ?_;clear hK K)|(split<;>(refine hK _ ?_;clear hK K))))));all_goals (refine wpQuiet_nil ?_;clear k m c;intro w m k;have c:=HX.out w m.out.only))|((with_reducible refine rG (id:=17) [0,1,2,3,4,5,6,7,8] [9] (by kernel_rfl) (by kernel_rfl) ?_);simp only[pick,List.map_cons,List.map_nil,List.getD_cons_succ,List.getD_cons_zero];(repeat' (first|go_big_quiet_step (with_reducible first|exact gX (HC1.out _ gOP))|(refine wpQuiet_step (fun K hK=>?_);go_simp;(first|(refine hK _ ?_;clear hK K)|(split<;>(refine hK _ ?_;clear hK K))))));all_goals (refine wpQuiet_nil ?_;clear k m c;intro w m k;have c:=HX.out w m.out.only))|(go_roundw;(case rel=>exact⟨j+1,HLT.out,by go_num,(by rw[H2.out,HS.out];exact gB),OO2.out.trans gO (fun x hx=>.inl hx)⟩);(case measure=>first|(simp[intOf];done)|(simp[intOf];omega))))
     ·obtain rfl:j=v.length:=by omega
      have h4:=ho.got H4.out (by have:=HB4.out;simp;omega);rw[List.take_length] at h6;have m:Mm wr [b4,b7] wr _:=⟨((Mem.start wr [b4,b7]).ext true h4 (by simp) (by simp)).ext true h6 (by have:=HB4.out;simp;omega) (by simp)⟩;have k:=m.out.k;have HF:=hid (fun w' (o:Only [b4,b7] wr w')=>HBK2.out w' ((OC.out.trans ho (fun x hx=>.inl (by rw[List.mem_singleton.1 hx];simp))).trans o (fun x hx=>.inl hx)));clear h4 h6 ho;go_wp2_with (first|((with_reducible refine wU ?_);clear k m;intro w m k)|((with_reducible refine lE (fun w o g k K hK=>⟨rfl,?_⟩));simp[results,Tryz.results261,go_sem,k];refine hK _ ?_;exact⟨rfl,HF.out w o⟩))
theorem qHonI {w:World} {p:Option Addr} {n cap:Nat} {l:List Iv} (hv:VRow ivC 2 w p n cap l) (hn:n≤48) (f:Int) :
  Calls Tryz.prog 209 #[.slice p n cap,.int .i64 f] w fun e w'=>e=.returned (hullV (honI l f))∧Only [] w w':=by
 have HVL:=hid (fun w' (o:Only [] w w')=>qIvValid (hv.kept o) hn);have HH:=hid (fun (h1:1≤((l.filter ivOk).length:Int)-f) w' (o:Only [] w w')=>qHull (hv.kept o) hn _ h1);have hfl:=List.length_filter_le ivOk l;have hnl:=hv.len;unfold honI;generalize hvl:l.filter ivOk=v at HVL HH hfl ⊢;generalize hullI l ((v.length:Int)-f)=rs at HH ⊢;obtain⟨res,HE⟩:∃ r,Hid ((if f<0∨(v.length:Int)≤f then none else rs)=r):=⟨_,hid rfl⟩;rw[HE.out];clear hvl;obtain⟨wo,hwo⟩:∃ wo:World,wo=w:=⟨_,rfl⟩;subst hwo;have m:=mm0 wo [];have k:=m.out.k;go_enter Tryz.func209,Tryz.ntmps209
 go_wp2_with ((with_reducible first|refine cU ?_|refine wU ?_);clear k m;intro w m k)
 refine (HVL.out _ m.out.only).mono ?_;rintro e w2 ⟨⟨v',rfl,hown⟩,ho2⟩;obtain⟨p2,cap2,rfl,-⟩:=Own.vrow (enc:=ivC) (s:=2) ivC_len hown;have M2:=hid (⟨m.out.call ho2⟩:Mm wo [] w2 _);have HK:=hid (m.out.only.nil_trans ho2);clear m k hown ho2;obtain⟨wq,hwq⟩:∃ wq:World,wq=w2:=⟨_,rfl⟩;subst hwq;have m:=M2.out.re;simp only[ownL,if_true] at m;have k:=m.out.k;generalize v.length=n2 at HH hfl HE ⊢;by_cases h1:f<0
 focus
  have dh1:decide (f<0)=true:=decide_eq_true h1;rw[if_pos (.inl h1)] at HE;obtain rfl:=HE.out
 rotate_left 1
 focus
  have dh1:decide (f<0)=false:=decide_eq_false h1;by_cases h2:(n2:Int)≤f
  focus
   have dh2:decide ((n2:Int)≤f)=true:=decide_eq_true h2;rw[if_pos (.inr h2)] at HE;obtain rfl:=HE.out
  rotate_left 1
  focus
   have dh2:decide ((n2:Int)≤f)=false:=decide_eq_false h2;rw[if_neg (by omega)] at HE;obtain rfl:=HE.out;have r1:IntKind.i64.wrap ((n2:Int)-f)=(n2:Int)-f:=by rw[IntKind.wrap_i64];omega
   replace HH:=hid (HH.out (by omega));rcases rs with _|⟨a1,a2⟩
   focus
    simp only[hullV,ivV] at HH
   rotate_left 1
   focus
    simp only[hullV,ivV] at HH
 all_goals clear M2 hfl
 all_goals go_wp2_with (first|((with_reducible first|refine cM (HH.out _ (HK.out.trans m.out.only (fun x hx=>.inr (by rw[List.mem_singleton.1 hx];exact Nat.le_refl _)))) ?_|refine wU ?_);clear k m;intro w m k)|((with_reducible refine lE (fun w o g k K hK=>⟨rfl,?_⟩));simp[results,Tryz.results209,go_sem,k];refine hK _ ?_;exact⟨rfl,HK.out.trans o (fun x hx=>.inr (by rw[List.mem_singleton.1 hx];exact Nat.le_refl _))⟩))
end
end Go.Proofs.YtedgpfgccpnjnaaGreat
