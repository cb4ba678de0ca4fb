/- Id Ie If -/
import Derived.Test.YtppjhbjmfkiejaaGreatFOm
namespace Go.Proofs.YtppjhbjmfkiejaaGreat
set_option linter.all false
open List (getD_cons_succ getD_cons_zero getElem_mem length_take map_cons map_nil mem_singleton)
open IntKind (wrap_i64)
set_option maxRecDepth 100000
set_option maxHeartbeats 8000000
open Go.RowKit Go.Sort
section
open Go.Lib (hid)
structure RecOk (un:Int) (x:lI):Prop where
 a0:0<=x.at_
 a1:x.at_<=un
 c0: -4503599627370496<=x.clk
 c1:x.clk<=4503599627370496
 iv:bM ⟨x.lo,x.hi⟩=true
theorem JC {s:eG}:∀ {l:List lI} {la:Int},0<=la->zZ s la l=true->(∀ x∈l,la<=x.at_/\RecOk s.un x)/\l.Pairwise (fun x y=>x.at_<=y.at_)
 | [],_,_,_=>⟨by simp,List.Pairwise.nil⟩
 |x::r,la,h0,h=>by
  unfold zZ vOk at h;simp only[Bool.and_eq_true,Bool.not_eq_true',decide_eq_false_iff_not] at h;obtain⟨⟨⟨⟨⟨⟨h1,h2⟩,h3⟩,h4⟩,h5⟩,h6⟩,h7⟩:=h;unfold MF at h5;have h5':=of_decide_eq_true h5;obtain⟨k1,k2⟩:=JC (by omega) h7;refine⟨fun y hy=>?_,List.pairwise_cons.2 ⟨fun y hy=>(k1 y hy).1,k2⟩⟩;rcases List.mem_cons.1 hy with rfl|hy
  ·exact⟨by omega,⟨by omega,by omega,h5'.1,h5'.2,h6⟩⟩
  ·obtain⟨q1,q2⟩:=k1 y hy
   exact⟨by omega,q2⟩
theorem chkS_un {s:eG} (h:qQ s=0):s.un<=1125899906842624:=by
 obtain⟨h1,h⟩:=pG h (by decide);obtain⟨h2,h⟩:=pG h (by decide);obtain⟨h3,h⟩:=lZ h;obtain⟨h4,h⟩:=lZ h;obtain⟨h5,h⟩:=nJ h (by decide);obtain⟨h6,h⟩:=lZ h;obtain⟨_,h⟩:=nJ h (by decide);obtain⟨h8,_⟩:=nJ h (by decide);exact (bR.1 h8).2
theorem ZA {s:eG} {l:List lI} {n:Int} (h:LV s l n=0):(∀ x∈l.filter (fun x=>x.nd == n),RecOk 1125899906842624 x)/\(l.filter (fun x=>x.nd == n)).Pairwise (fun x y=>x.at_<=y.at_):=by
 unfold LV at h;by_cases h1:qQ s=0
 ·rw[if_pos h1] at h
  obtain⟨h2,-⟩:=nJ h (by decide);unfold pX at h2;rw[Bool.and_eq_true] at h2;obtain⟨k1,k2⟩:=JC (Int.le_refl 0) h2.2;have hu:=chkS_un h1;refine⟨fun x hx=>?_,k2.filter _⟩;have q:=(k1 x (List.mem_filter.1 hx).1).2;exact⟨q.a0,Int.le_trans q.a1 hu,q.c0,q.c1,q.iv⟩
 ·rw[if_neg h1] at h;exact absurd h h1
theorem QJ {w:World} (s:dU) (hs:s.Ok w) {l:List lI} {p:Option Addr} {cp:Nat} (ha:aR rQ 9 w p l.length cp l) (hl:l.length<=1000000) (n:Int) :
  Calls Tryz.prog 18 #[fG s,.slice p l.length cp,.int .i64 n] w fun e w'=>∃ v,e=.returned (.tuple #[v,.int .i64 (LV s.sc l n)])/\Own C9 3 1 w.heap.size w' v (if LV s.sc l n=0 then (l.filter (fun x=>x.nd == n)).map (fun x=>x.clk-x.at_) else [])/\Only [] w w':=by
 have HOF:=hid (fun w' (o:Only [] w w')=>QC s (hs.kept o) (ha.kept o) hl n);have HFO:=hid (@ZA s.sc l n);have hfl:(l.filter (fun x=>x.nd == n)).length<=1000000:=Nat.le_trans (List.length_filter_le ..) hl;clear ha hs;unfold fG at *;generalize LV s.sc l n=e at *;generalize l.filter (fun x=>x.nd == n)=fl at *;obtain⟨L,hL⟩:∃ L,(if e=0 then fl.map (fun x=>x.clk-x.at_) else [])=L:=⟨_,rfl⟩;rw[hL];obtain⟨wo,hwo⟩:∃ wo:World,wo=w:=⟨_,rfl⟩;subst hwo;have HL:=hid hL;clear hL;have m:=bJ wo [];have k:=m.out.k;go_enter Tryz.func18,Tryz.ntmps18
 go_wp2_with ((with_reducible first|refine cU ?_|refine wU ?_);clear k m;intro w m k)
 refine (HOF.out _ m.out.only).mono ?_;rintro r w2 ⟨v,rfl,hown,o2⟩;replace m:Mm wo [] w2 _:=⟨m.out.call o2⟩;clear k HOF;have k:=m.out.k;have OB:=hid m.out.only;by_cases h0:e=0
 ·rw [if_pos h0] at hown
  replace HL:Hid (L=fl.map (fun x=>x.clk-x.at_)):=hid (by rw[<-HL.out,if_pos h0]);have HF:=hid (HFO.out h0).1;subst h0;obtain⟨pv,cv,rfl,hv⟩:=hown.dI iQ;have HV:=hid hv;clear hown hv HFO o2;go_wp2_with ((with_reducible first|refine cU ?_|refine wU ?_);clear k m;intro w m k)
  clear k m;obtain⟨wl,hwl⟩:∃ wl:World,wl=w2:=⟨_,rfl⟩;subst hwl;go_loopw [10,25] (fun va vi wr=>∃ i:Nat,i<=fl.length/\vi=.int .i64 i/\Own C9 3 1 wl.heap.size wr va ((fl.take i).map (fun x=>x.clk-x.at_))/\Only [] wl wr) (fun va vi _=>fl.length-(intOf vi).toNat)
  case atStart=>exact⟨0,Nat.zero_le _,rfl,bU _ _,Only.refl _ _⟩
  case round =>
   obtain⟨i,hi,rfl,hown,ho⟩:=hrel;have O1:=hid ho;have OW:=hid hown;obtain⟨pa,ca,rfl,-⟩:=hown.dI QY;clear ho hown;by_cases hlt:i<fl.length
   ·have hlt2:decide ((i:Int)<(fl.length:Int))=true:=dW (by omega)
    have hlt3:(i:Int)<(fl.length:Int):=by omega
    have ei:IntKind.i64.wrap ((i:Int)+1)=((i+1:Nat):Int):=by rw[wrap_i64];omega
    obtain⟨bk,off,rfl,-⟩:=HV.out.I8 (Only.refl [] wl) hlt;obtain⟨x,hx⟩:∃ x,fl[i]=x:=⟨_,rfl⟩;have hok:=HF.out _ (getElem_mem hlt)
    have HX:=hid (show ∀ w',Only [] wr w'->bk<w'.heap.size/\w'.cell? ⟨bk,off+i*9,none⟩=some (.int .i64 x.at_)/\w'.cell? ⟨bk,off+i*9+1,none⟩=some (.int .i64 x.nd)/\w'.cell? ⟨bk,off+i*9+2,none⟩=some (.int .i64 x.raw)/\w'.cell? ⟨bk,off+i*9+3,none⟩=some (.int .i64 x.clk)/\w'.cell? ⟨bk,off+i*9+4,none⟩=some (.int .i64 x.stp)/\w'.cell? ⟨bk,off+i*9+5,none⟩=some (.int .i64 x.lo)/\w'.cell? ⟨bk,off+i*9+6,none⟩=some (.int .i64 x.hi)/\w'.cell? ⟨bk,off+i*9+7,none⟩=some (.int .i64 x.kd)/\w'.cell? ⟨bk,off+i*9+8,none⟩=some (.int .i64 x.vl) from fun w' o=>by
     obtain⟨b',o',e,q⟩:=HV.out.I8 (O1.out.aA o) hlt
     cases e
     rw[hx] at q;exact q)
    have HT:=hid (show (fl.take (i+1)).map (fun x=>x.clk-x.at_)=(fl.take i).map (fun x=>x.clk-x.at_) ++ [x.clk-x.at_] by
     rw[eH fl hlt,List.map_append,hx];rfl)
    have hal:((fl.take i).map (fun x=>x.clk-x.at_)).length<=i:=by rw[List.length_map,length_take];omega
    generalize (fl.take i).map (fun x=>x.clk-x.at_)=acc at OW HT hal;rw[hx] at hok;clear hx;obtain⟨x0,x1,x2,x3,x4,x5,x6,x7,x8⟩:=x;obtain⟨a0,a1,c0,c1,-⟩:=hok;dsimp only at HX HT a0 a1 c0 c1;have es:IntKind.i64.wrap (x3-x0)=x3-x0:=by rw[wrap_i64];omega
    have m:=bJ wr [];have k:=m.out.k;have c:=HX.out wr (Only.refl _ _);go_wp2_with (first|((with_reducible first|refine cU ?_|refine wU ?_);clear k m c;intro w m k;have c:=HX.out w m.out.only)|(at_builtin;refine aV ?_))
    refine aF (G:=fun w0=>Stop (wpList _ _ _ _ _ w0)) ?_;intro w5 hb5 ho5 hs5;rw[World.size_alloc] at hb5;have B5:=hid hb5;have O5:=hid ((O1.out.aA ((Only.refl [] wr).alloc _)).aA ho5);have R5:=hid (OW.out.kept (((Only.refl [] wr).alloc _).aA ho5));clear hb5 ho5 hs5 m k c;refine bD ?_;refine dF (B:=wl.heap.size) rfl _ _ 52 rfl 3 (.int .i64 0) 1 8 Tryz.underlying52 (by kernel_rfl) rfl (by decide) C9 QY itC_one acc _ rfl R5.out _ (x3-x0) rfl (fun j u hj=>by rw[aB B5.out,<-hj];simp[C9]) (by simp[maxLen];omega) (by omega) O5.out.size ?_;intro v6 w6 hown6 hk6 ho6;have W6:=hid hown6;have O6:=hid (O5.out.trans ho6 fun x hx=>.inr (R5.out.FH x hx).1);clear hown6 hk6 ho6;go_wp2;go_roundw
    case rel=>exact⟨i+1,by omega,by go_num,(by rw[HT.out];exact W6.out),O6.out⟩
    case measure=>first|(simp[intOf];done)|(simp[intOf];omega)
   ·obtain rfl:i=fl.length:=by omega
    have hlt2:decide ((fl.length:Int)<(fl.length:Int))=false:=by simp
    rw[List.take_length,List.length_map] at OW |-;have m:=bJ wr [];have k:=m.out.k;go_wp2_with (first|((with_reducible first|refine cU ?_|refine wU ?_);clear k m;intro w m k)|((with_reducible refine lE (fun w o g k K hK=>⟨rfl,?_⟩));simp[results,Tryz.results18,go_sem];refine hK _ ?_;exact⟨_,rfl,(by rw[HL.out];exact (OW.out.kept o).lower OB.out.size),(OB.out.aA O1.out).aA o⟩))
 ·have d0:(e != 0)=true:=by simpa using h0
  replace HL:Hid (L=[]):=hid (by rw[<-HL.out,if_neg h0]);clear h0 hown HFO o2;go_wp2_with (first|((with_reducible first|refine cU ?_|refine wU ?_);clear k m;intro w m k)|((with_reducible refine lE (fun w o g k K hK=>⟨rfl,?_⟩));simp[results,Tryz.results18,go_sem];refine hK _ ?_;exact⟨_,rfl,(by rw[HL.out];exact bU _ _),o⟩))
end
section
def alC (H L la hi lo:Int) (rs:Bool) (sn nt r1 r2 r3:Int):List Value:=[.int .i64 H,.int .i64 L,.int .i64 1,.int .i64 1,.int .i64 0,.int .i64 la,.int .i64 hi,.int .i64 lo,.bool rs,.int .i64 sn,.int .i64 nt,.int .i64 r1,.int .i64 r2,.int .i64 r3]
theorem zA (n:Int) (b:Bool) (w:World) :
  Calls Tryz.prog 57 #[.int .i64 n,.bool b] w fun e w'=>e=.returned (.int .i64 (if b=true then IntKind.i64.wrap (n+1) else 0))/\Only [] w w':=by
 obtain⟨q,hq⟩:∃ q,IntKind.i64.wrap (n+1)=q:=⟨_,rfl⟩;rw[hq]
 cases b
 all_goals
  simp only[Bool.false_eq_true,if_true,if_false];have m:=bJ w [];have k:=m.out.k;go_enter Tryz.func57,Tryz.ntmps57
  go_wp2_with (first|((with_reducible refine wU ?_);clear k m;intro w m k)|((with_reducible refine lE (fun w o g k K hK=>⟨rfl,?_⟩));simp[results,Tryz.results57,go_sem];refine hK _ ?_;exact⟨rfl,o⟩))
theorem uV {w:World} {b:Nat} (h:w.heap[b]? = some (.cells #[.bool true] 4 (0,0))) (n lo hi:Int) (h0:lo<=n) (h1:n<=hi) :
  Calls Tryz.prog 56 #[.int .i64 n,.int .i64 lo,.int .i64 hi,.pointer (some ⟨b,0,none⟩)] w fun e w'=>e=.returned (.tuple #[])/\w'.heap[b]? = some (.cells #[.bool true] 4 (0,0))/\Only [b] w w':=by
 have d0:decide (lo<=n)=true:=dW h0;have d1:decide (n<=hi)=true:=dW h1;have m:=kD h;have k:=m.out.k;clear h h0 h1;go_enter Tryz.func56,Tryz.ntmps56
 go_wp2_with (first|((with_reducible first|refine cU ?_|refine wU ?_);clear k m;intro w m k)|((with_reducible refine lN ?_ ?_ (fun w o g=>?_));(. rfl);(. rfl);exact⟨rfl,Has.h w g,o⟩))
theorem J5 (H L:Int) (h0: -8000000000000000000<=H/\H<=8000000000000000000) (h1: -8000000000000000000<=L/\L<=8000000000000000000) (h2:L<=H) (w:World) :
  Calls Tryz.prog 34 #[.agg #[.int .i64 H,.int .i64 L,.int .i64 1,.int .i64 1,.int .i64 0]] w fun e w'=>e=.returned (.int .i64 0)/\Only [] w w':=by
 have hmf:∀ (fn:Fn) (first cap:Array Value) (w:World),(Instr.makeFunc fn first cap).run Tryz.prog w=.ok (.func fn first cap) w:=fun _ _ _ _=>rfl;have d0:decide (H<L)=false:=dD (by omega);have HB:=Lib.hid (And.intro h0 h1);clear h0 h1 h2;have m:=bJ w [];have k:=m.out.k;go_enter Tryz.func34,Tryz.ntmps34
 go_wp2_with (first|((with_reducible first|refine cP (uV gB _ _ _ HB.out.1.1 HB.out.1.2) ?_|refine cP (uV gB _ _ _ HB.out.2.1 HB.out.2.2) ?_|refine cP (uV gB 1 1 1000 (by decide) (by decide)) ?_|refine cP (uV gB 0 0 1125899906842624 (by decide) (by decide)) ?_|refine cU ?_|refine wU ?_);clear k m;intro w m k)|((with_reducible refine lE (fun w o g k K hK=>⟨rfl,?_⟩));simp[results,Tryz.results34,go_sem];refine hK _ ?_;exact⟨rfl,o⟩))
theorem pFeedA {w:World} {b:Nat} {H L la hi lo sn nt r1 r2 r3:Int} (h:w.heap[b]? = some (.cells (alC H L la 0 lo false sn nt r1 r2 r3).toArray 151 (0,0))) (at_ v:Int) (a0:0<=at_) (a1:at_<=1125899906842624) (a2:la<=at_) (v0:H<v) (v1:L<=v) :
  Calls Tryz.prog 36 #[.pointer (some ⟨b,0,none⟩),.int .i64 at_,.int .i64 v] w fun e w'=>e=.returned (.tuple #[.int .i64 1,.int .i64 0])/\w'.heap[b]? = some (.cells (alC H L at_ 0 0 true at_ at_ (IntKind.i64.wrap (r1+1)) r2 r3).toArray 151 (0,0))/\Only [b] w w':=by
 unfold alC at *;obtain⟨q1,hq1⟩:∃ q,IntKind.i64.wrap (r1+1)=q:=⟨_,rfl⟩;rw[hq1];have d0:decide (at_<0)=false:=dD (by omega);have d1:decide ((1125899906842624:Int)<at_)=false:=dD (by omega);have d2:decide (at_<la)=false:=dD (by omega);have d3:decide (H<v)=true:=decide_eq_true v0;have d4:decide (v<L)=false:=dD (by omega);have e1:IntKind.i64.wrap ((0:Int)+1)=1:=by decide
 have HX1:=Lib.hid (fun w'=>zA 0 true w');have HX2:=Lib.hid (fun w'=>zA lo false w');simp only[Bool.false_eq_true,if_true,if_false] at HX1 HX2;rw[e1] at HX1;have m:=kD h;have k:=m.out.k;clear h a0 a1 a2 v0 v1;go_enter Tryz.func36,Tryz.ntmps36
 go_wp2_with (first|((with_reducible refine rG (id:=8) [0,1,2,3,4,5,6,7,8,9,10,11,12,13,14] [15] (by kernel_rfl) (by kernel_rfl) ?_);simp only[pick,map_cons,map_nil,getD_cons_succ,getD_cons_zero];(repeat' (first|go_big_quiet_step (with_reducible first|exact gX (HX1.out _)|exact gX (HX2.out _))|(refine wpQuiet_step (fun K hK=>?_);go_simp;(first|(refine hK _ ?_;clear hK K)|(split<;>(refine hK _ ?_;clear hK K))))));all_goals (refine wpQuiet_nil ?_;clear k m;intro w m k))|((with_reducible refine rG (id:=9) [0,1,2,3,4,5,6,7,8,9,10,11,12,13,14] [15] (by kernel_rfl) (by kernel_rfl) ?_);simp only[pick,map_cons,map_nil,getD_cons_succ,getD_cons_zero];(repeat' (first|go_big_quiet_step (with_reducible first|exact gX (HX1.out _)|exact gX (HX2.out _))|(refine wpQuiet_step (fun K hK=>?_);go_simp;(first|(refine hK _ ?_;clear hK K)|(split<;>(refine hK _ ?_;clear hK K))))));all_goals (refine wpQuiet_nil ?_;clear k m;intro w m k))|((with_reducible refine rG (id:=10) [0,1,2,3,4,5,6,7,8,9,10,11,12,13,14,15,16,17] [] (by kernel_rfl) (by kernel_rfl) ?_);simp only[pick,map_cons,map_nil,getD_cons_succ,getD_cons_zero];(repeat' (first|go_big_quiet_step (with_reducible first|exact gX (HX1.out _)|exact gX (HX2.out _))|(refine wpQuiet_step (fun K hK=>?_);go_simp;(first|(refine hK _ ?_;clear hK K)|(split<;>(refine hK _ ?_;clear hK K))))));all_goals (refine wpQuiet_nil ?_;clear k m;intro w m k))|((with_reducible refine rG (id:=15) [0,1,2,3,4,5,6,7,8,9,10,11,12,13,14,15,16] [] (by kernel_rfl) (by kernel_rfl) ?_);simp only[pick,map_cons,map_nil,getD_cons_succ,getD_cons_zero];(repeat' (first|go_big_quiet_step (with_reducible first|exact gX (HX1.out _)|exact gX (HX2.out _))|(refine wpQuiet_step (fun K hK=>?_);go_simp;(first|(refine hK _ ?_;clear hK K)|(split<;>(refine hK _ ?_;clear hK K))))));all_goals (refine wpQuiet_nil ?_;clear k m;intro w m k))|((with_reducible refine rG (id:=20) [0,1,2,3,4,5,6,7,8,9,10,11,12,13,14,15,16,17,18,19,20,21,22,23,24,25,26,27] [] (by kernel_rfl) (by kernel_rfl) ?_);simp only[pick,map_cons,map_nil,getD_cons_succ,getD_cons_zero];(repeat' (first|go_big_quiet_step (with_reducible first|exact gX (HX1.out _)|exact gX (HX2.out _))|(refine wpQuiet_step (fun K hK=>?_);go_simp;(first|(refine hK _ ?_;clear hK K)|(split<;>(refine hK _ ?_;clear hK K))))));all_goals (refine wpQuiet_nil ?_;clear k m;intro w m k))|((with_reducible first|refine cU ?_|refine wU ?_);clear k m;intro w m k)|((with_reducible refine lE (fun w o g k K hK=>⟨rfl,?_⟩));simp[results,Tryz.results36,go_sem];refine hK _ ?_;exact⟨rfl,Has.h w g,o⟩))
theorem pFeedB {w:World} {b:Nat} {H L la hi lo sn nt r1 r2 r3:Int} (h:w.heap[b]? = some (.cells (alC H L la hi lo true sn nt r1 r2 r3).toArray 151 (0,0))) (at_ v:Int) (a0:0<=at_) (a1:at_<=1125899906842624) (a2:la<=at_) (v0:H<v) (v1:L<=v) (n0:0<=nt) (n1:nt<=at_) :
  Calls Tryz.prog 36 #[.pointer (some ⟨b,0,none⟩),.int .i64 at_,.int .i64 v] w fun e w'=>e=.returned (.tuple #[.int .i64 3,.int .i64 0])/\w'.heap[b]? = some (.cells (alC H L at_ (IntKind.i64.wrap (hi+1)) 0 true sn at_ r1 r2 (IntKind.i64.wrap (r3+1))).toArray 151 (0,0))/\Only [b] w w':=by
 unfold alC at *;obtain⟨q1,hq1⟩:∃ q,IntKind.i64.wrap (r3+1)=q:=⟨_,rfl⟩;obtain⟨q2,hq2⟩:∃ q,IntKind.i64.wrap (hi+1)=q:=⟨_,rfl⟩;rw[hq1,hq2];have d0:decide (at_<0)=false:=dD (by omega);have d1:decide ((1125899906842624:Int)<at_)=false:=dD (by omega);have d2:decide (at_<la)=false:=dD (by omega);have d3:decide (H<v)=true:=decide_eq_true v0;have d4:decide (v<L)=false:=dD (by omega);have e1:IntKind.i64.wrap (at_-nt)=at_-nt:=by rw[wrap_i64];omega
 have d5:decide (0<=at_-nt)=true:=dW (by omega);have d6:decide (nt<=at_)=true:=dW (by omega);clear n0 n1;have HX1:=Lib.hid (fun w'=>zA hi true w');have HX2:=Lib.hid (fun w'=>zA lo false w');simp only[Bool.false_eq_true,if_true,if_false] at HX1 HX2;rw[hq2] at HX1;have m:=kD h;have k:=m.out.k;clear h a0 a1 a2 v0 v1;go_enter Tryz.func36,Tryz.ntmps36
 go_wp2_with (first|((with_reducible refine rG (id:=8) [0,1,2,3,4,5,6,7,8,9,10,11,12,13,14] [15] (by kernel_rfl) (by kernel_rfl) ?_);simp only[pick,map_cons,map_nil,getD_cons_succ,getD_cons_zero];(repeat' (first|go_big_quiet_step (with_reducible first|exact gX (HX1.out _)|exact gX (HX2.out _))|(refine wpQuiet_step (fun K hK=>?_);go_simp;(first|(refine hK _ ?_;clear hK K)|(split<;>(refine hK _ ?_;clear hK K))))));all_goals (refine wpQuiet_nil ?_;clear k m;intro w m k))|((with_reducible refine rG (id:=9) [0,1,2,3,4,5,6,7,8,9,10,11,12,13,14] [15] (by kernel_rfl) (by kernel_rfl) ?_);simp only[pick,map_cons,map_nil,getD_cons_succ,getD_cons_zero];(repeat' (first|go_big_quiet_step (with_reducible first|exact gX (HX1.out _)|exact gX (HX2.out _))|(refine wpQuiet_step (fun K hK=>?_);go_simp;(first|(refine hK _ ?_;clear hK K)|(split<;>(refine hK _ ?_;clear hK K))))));all_goals (refine wpQuiet_nil ?_;clear k m;intro w m k))|((with_reducible refine rG (id:=10) [0,1,2,3,4,5,6,7,8,9,10,11,12,13,14,15,16,17] [] (by kernel_rfl) (by kernel_rfl) ?_);simp only[pick,map_cons,map_nil,getD_cons_succ,getD_cons_zero];(repeat' (first|go_big_quiet_step (with_reducible first|exact gX (HX1.out _)|exact gX (HX2.out _))|(refine wpQuiet_step (fun K hK=>?_);go_simp;(first|(refine hK _ ?_;clear hK K)|(split<;>(refine hK _ ?_;clear hK K))))));all_goals (refine wpQuiet_nil ?_;clear k m;intro w m k))|((with_reducible refine rG (id:=15) [0,1,2,3,4,5,6,7,8,9,10,11,12,13,14,15,16] [] (by kernel_rfl) (by kernel_rfl) ?_);simp only[pick,map_cons,map_nil,getD_cons_succ,getD_cons_zero];(repeat' (first|go_big_quiet_step (with_reducible first|exact gX (HX1.out _)|exact gX (HX2.out _))|(refine wpQuiet_step (fun K hK=>?_);go_simp;(first|(refine hK _ ?_;clear hK K)|(split<;>(refine hK _ ?_;clear hK K))))));all_goals (refine wpQuiet_nil ?_;clear k m;intro w m k))|((with_reducible refine rG (id:=20) [0,1,2,3,4,5,6,7,8,9,10,11,12,13,14,15,16,17,18,19,20,21,22,23,24,25,26,27] [] (by kernel_rfl) (by kernel_rfl) ?_);simp only[pick,map_cons,map_nil,getD_cons_succ,getD_cons_zero];(repeat' (first|go_big_quiet_step (with_reducible first|exact gX (HX1.out _)|exact gX (HX2.out _))|(refine wpQuiet_step (fun K hK=>?_);go_simp;(first|(refine hK _ ?_;clear hK K)|(split<;>(refine hK _ ?_;clear hK K))))));all_goals (refine wpQuiet_nil ?_;clear k m;intro w m k))|((with_reducible first|refine cU ?_|refine wU ?_);clear k m;intro w m k)|((with_reducible refine lE (fun w o g k K hK=>⟨rfl,?_⟩));simp[results,Tryz.results36,go_sem];refine hK _ ?_;exact⟨rfl,Has.h w g,o⟩))
end
section
open Go.Lib (hid)
theorem pAlNew (H L:Int) (h0: -8000000000000000000<=H/\H<=8000000000000000000) (h1: -8000000000000000000<=L/\L<=8000000000000000000) (h2:L<=H) (w:World) :
  Calls Tryz.prog 35 #[.agg #[.int .i64 H,.int .i64 L,.int .i64 1,.int .i64 1,.int .i64 0]] w fun e w'=>(∃ b,e=.returned (.pointer (some ⟨b,0,none⟩))/\w.heap.size<=b/\w'.heap[b]? = some (.cells (alC H L 0 0 0 false 0 0 0 0 0).toArray 151 (0,0)))/\Only [] w w':=by
 have HC:=hid (fun w'=>J5 H L h0 h1 h2 w');clear h0 h1 h2;obtain⟨wo,hwo⟩:∃ wo:World,wo=w:=⟨_,rfl⟩;subst hwo;have m:=bJ wo [];have k:=m.out.k;go_enter Tryz.func35,Tryz.ntmps35
 go_wp2_with (first|((with_reducible first|refine cM (HC.out _) ?_|refine wU ?_);clear k m;intro w m k)|((with_reducible refine lE (fun w o g k K hK=>⟨rfl,?_⟩));simp[results,Tryz.results35,go_sem];refine hK _ ?_;exact⟨⟨_,rfl,by omega,Has.h w g⟩,o⟩))
structure Ntc where
 a:Int
 k:Int
 v:Int
def ntC (x:Ntc):List Value:=[.int .i64 x.a,.int .i64 x.k,.int .i64 x.v]
theorem zB (x:Ntc):(ntC x).length=3:=rfl
theorem ntC_one (x:Ntc):∀ u∈ntC x,u.oneCell'=true:=by simp[ntC,Value.oneCell']
def rV (x:lI):Int:=max (x.hi-x.clk) (x.clk-x.lo)
def J9:Bool->List lI->List Ntc
 | _,[]=>[]
 | b,x::r=>⟨x.at_,if b=true then 3 else 1,rV x⟩::J9 true r
theorem GQ:∀ (l:List lI) (b:Bool),(J9 b l).length=l.length
 | [],_=>rfl
 | x::r,b=>by unfold J9;rw[List.length_cons,List.length_cons,GQ r]
theorem J8 (x:lI):∀ (l:List lI) (b:Bool),J9 b (l ++ [x])=J9 b l ++ [⟨x.at_,if (b || decide (0<l.length))=true then 3 else 1,rV x⟩]
 | [],b=>by simp[J9]
 |y::r,b=>by
  rw[List.cons_append];unfold J9;rw[J8 x r true];simp
theorem XR {w:World} (s:dU) (hs:s.Ok w) {l:List lI} {p:Option Addr} {cp:Nat} (ha:aR rQ 9 w p l.length cp l) (hl:l.length<=1000000) (n H L:Int) (h0: -8000000000000000000<=H/\H<=8000000000000000000) (h1: -8000000000000000000<=L/\L<=8000000000000000000) (h2:L<=H) (hb:∀ x∈l.filter (fun x=>x.nd == n),H<rV x/\L<=rV x) :
  Calls Tryz.prog 19 #[fG s,.slice p l.length cp,.int .i64 n,.agg #[.int .i64 H,.int .i64 L,.int .i64 1,.int .i64 1,.int .i64 0]] w fun e w'=>∃ v,e=.returned (.tuple #[v,.int .i64 (LV s.sc l n)])/\Own ntC 74 3 w.heap.size w' v (if LV s.sc l n=0 then J9 false (l.filter (fun x=>x.nd == n)) else [])/\Only [] w w':=by
 have HOF:=hid (fun w' (o:Only [] w w')=>QC s (hs.kept o) (ha.kept o) hl n);have HFO:=hid (@ZA s.sc l n);have hfl:(l.filter (fun x=>x.nd == n)).length<=1000000:=Nat.le_trans (List.length_filter_le ..) hl;have HCK:=hid (fun w'=>J5 H L h0 h1 h2 w');have HNW:=hid (fun w'=>pAlNew H L h0 h1 h2 w');have HBD:=hid hb;clear ha hs h0 h1 h2 hb;unfold fG at *;generalize LV s.sc l n=e at *;generalize l.filter (fun x=>x.nd == n)=fl at *;obtain⟨nl,hL⟩:∃ nl,(if e=0 then J9 false fl else [])=nl:=⟨_,rfl⟩;rw[hL];obtain⟨wo,hwo⟩:∃ wo:World,wo=w:=⟨_,rfl⟩;subst hwo;have HL:=hid hL;clear hL;have m:=bJ wo [];have k:=m.out.k;go_enter Tryz.func19,Tryz.ntmps19
 go_wp2_with ((with_reducible first|refine cU ?_|refine wU ?_);clear k m;intro w m k)
 refine (HOF.out _ m.out.only).mono ?_;rintro r w2 ⟨v,rfl,hown,o2⟩;replace m:Mm wo [] w2 _:=⟨m.out.call o2⟩;clear k HOF;have k:=m.out.k;by_cases h0:e=0
 ·rw [if_pos h0] at hown
  replace HL:Hid (nl=J9 false fl):=hid (by rw[<-HL.out,if_pos h0]);have HF:=hid (HFO.out h0);subst h0;obtain⟨pv,cv,rfl,hv⟩:=hown.dI iQ;have HV:=hid hv;have OV:=hid m.out.only;clear hown hv HFO o2;have hcb:=gB (w:=w2) (b:=wo.heap.size+1);clear k m;have m:=jZ hcb;have k:=m.out.k;clear hcb;go_wp2_with ((with_reducible first|refine cM (HCK.out _) ?_|refine cU ?_|refine wU ?_);clear k m;intro w m k)
  have O2:=m.out.only;refine (HNW.out _).mono ?_;rintro r w3 ⟨⟨ba,rfl,hba,hal⟩,o3⟩;have OA:=hid (O2.aA o3);have HBA:=hid (Nat.le_trans O2.size hba);have HBL:=hid (aD hal);have HAL:=hid hal;clear k m O2 o3 hba hal HCK HNW;have m:=bJ w3 [];have k:=m.out.k;go_wp2_with ((with_reducible first|refine cU ?_|refine wU ?_);clear k m;intro w m k)
  clear k m;go_loopw [14,39] (fun va vi wr=>∃ (i:Nat) (la hi lo:Int) (rs:Bool) (sn nt r1 r2 r3:Int),i<=fl.length/\vi=.int .i64 i/\Own ntC 74 3 w3.heap.size wr va (J9 false (fl.take i))/\wr.heap[ba]? = some (.cells (alC H L la hi lo rs sn nt r1 r2 r3).toArray 151 (0,0))/\((i=0/\rs=false/\hi=0/\la=0)\/(0<i/\rs=true/\0<=nt/\∀ x∈fl.drop i,la<=x.at_/\nt<=x.at_))/\Only [ba] w3 wr) (fun va vi _=>fl.length-(intOf vi).toNat)
  case atStart=>exact⟨0,0,0,0,false,0,0,0,0,0,Nat.zero_le _,rfl,bU _ _,HAL.out,.inl ⟨rfl,rfl,rfl,rfl⟩,Only.refl _ _⟩
  case round =>
   obtain⟨i,la,hi,lo,rs,sn,nt,r1,r2,r3,hi',rfl,hown,hal,hst,ho⟩:=hrel;have O1:=hid ho;have OW:=hid hown;have HA:=hid hal;have OV2:=hid (OA.out.trans ho (fun y hy=>.inr (by rw[mem_singleton.1 hy];exact HBA.out)));have HBW:=hid (Nat.lt_of_lt_of_le HBL.out ho.size);obtain⟨pa,ca,rfl,-⟩:=hown.dI zB;clear ho hown hal;by_cases hlt:i<fl.length
   ·have hlt2:decide ((i:Int)<(fl.length:Int))=true:=dW (by omega)
    have hlt3:(i:Int)<(fl.length:Int):=by omega
    have ei:IntKind.i64.wrap ((i:Int)+1)=((i+1:Nat):Int):=by rw[wrap_i64];omega
    obtain⟨bk,off,rfl,-⟩:=HV.out.I8 (Only.refl [] w2) hlt;obtain⟨x,hx⟩:∃ x,fl[i]=x:=⟨_,rfl⟩;have hok:=HF.out.1 _ (getElem_mem hlt);have hbd:=HBD.out _ (getElem_mem hlt)
    have HX:=hid (show ∀ w',Only [] wr w'->bk<w'.heap.size/\w'.cell? ⟨bk,off+i*9,none⟩=some (.int .i64 x.at_)/\w'.cell? ⟨bk,off+i*9+1,none⟩=some (.int .i64 x.nd)/\w'.cell? ⟨bk,off+i*9+2,none⟩=some (.int .i64 x.raw)/\w'.cell? ⟨bk,off+i*9+3,none⟩=some (.int .i64 x.clk)/\w'.cell? ⟨bk,off+i*9+4,none⟩=some (.int .i64 x.stp)/\w'.cell? ⟨bk,off+i*9+5,none⟩=some (.int .i64 x.lo)/\w'.cell? ⟨bk,off+i*9+6,none⟩=some (.int .i64 x.hi)/\w'.cell? ⟨bk,off+i*9+7,none⟩=some (.int .i64 x.kd)/\w'.cell? ⟨bk,off+i*9+8,none⟩=some (.int .i64 x.vl) from fun w' o=>by
     obtain⟨b',o',e,q⟩:=HV.out.I8 (OV2.out.aA o) hlt
     cases e
     rw[hx] at q;exact q)
    have HT:=hid (show J9 false (fl.take (i+1))=J9 false (fl.take i) ++ [⟨x.at_,if decide (0<i)=true then 3 else 1,rV x⟩] by
     rw[eH fl hlt,J8,hx,length_take,Nat.min_eq_left (Nat.le_of_lt hlt),Bool.false_or])
    have HNX:=hid (show ∀ y∈fl.drop (i+1),x.at_<=y.at_ from fun y hy=>by
     have hp:=HF.out.2.drop (i:=i);rw[List.drop_eq_getElem_cons hlt,hx] at hp;exact (List.pairwise_cons.1 hp).1 y hy)
    have hal:(J9 false (fl.take i)).length<=i:=by rw[GQ,length_take];omega
    have hxd:x∈fl.drop i:=by rw[List.drop_eq_getElem_cons hlt,hx];exact List.mem_cons_self ..
    generalize J9 false (fl.take i)=acc at OW HT hal;rw[hx] at hok hbd
    obtain⟨kd,la',hi2,lo',sn',q1,q2,q3,hkd,HFD⟩:∃ kd la' hi2 lo' sn' q1 q2 q3,kd=(if decide (0<i)=true then 3 else 1)/\Hid (∀ w',w'.heap[ba]? = some (.cells (alC H L la hi lo rs sn nt r1 r2 r3).toArray 151 (0,0))->Calls Tryz.prog 36 #[.pointer (some ⟨ba,0,none⟩),.int .i64 x.at_,.int .i64 (rV x)] w' fun e w''=>e=.returned (.tuple #[.int .i64 kd,.int .i64 0])/\w''.heap[ba]? = some (.cells (alC H L x.at_ hi2 lo' true sn' x.at_ q1 q2 q3).toArray 151 (0,0))/\Only [ba] w' w''):=by
     rcases hst with ⟨rfl,rfl,rfl,rfl⟩|⟨hi0,rfl,hn0,hle⟩
     ·exact⟨1,0,_,_,_,_,_,_,rfl,hid (fun w' h=>pFeedA (hi:=0) h _ _ hok.a0 hok.a1 hok.a0 hbd.1 hbd.2)⟩
     ·exact⟨3,0,_,_,_,_,_,_,by rw[dW hi0];rfl,hid (fun w' h=>pFeedB h _ _ hok.a0 hok.a1 (hle x hxd).1 hbd.1 hbd.2 hn0 (hle x hxd).2)⟩
    have dk:(kd != 0)=true:=by rw[hkd];split<;>rfl
    rw[<-hkd] at HT;clear hx hst hkd hbd hxd;obtain⟨x0,x1,x2,x3,x4,x5,x6,x7,x8⟩:=x;obtain⟨a0,a1,c0,c1,hiv⟩:=hok;unfold rV at HT HFD;dsimp only at HX HT a0 a1 c0 c1 hiv HFD HNX;unfold bM at hiv;have hiv:=of_decide_eq_true hiv;dsimp only at hiv;have e1:IntKind.i64.wrap (x6-x3)=x6-x3:=by rw[wrap_i64];omega
    have e2:IntKind.i64.wrap (x3-x5)=x3-x5:=by rw[wrap_i64];omega
    have HA0:=hid a0;clear a0 a1 c0 c1 hiv;have m:=bJ wr [];have k:=m.out.k;have c:=HX.out wr (Only.refl _ _);go_wp2_with ((with_reducible first|refine cU ?_|refine wU ?_);clear k m c;intro w m k;have c:=HX.out w m.out.only)
    refine (HFD.out _ (m.out.only.got HA.out (by simp))).mono ?_;rintro r w5 ⟨rfl,hal5,o5⟩;have H5:=hid hal5
    replace m:Mm wr [ba] w5 _:=(m.weak (S':=[ba]) (by simp)).oth o5 (fun b hb=>.inl hb) (fun q hq hm=>by
     have h1:=HBW.out;rw[mem_singleton] at hq hm;rw[hq] at hm;dsimp only at hm;omega)
    clear k c hal5 o5;have k:=m.out.k;go_wp2_with (first|((with_reducible first|refine cU ?_|refine wU ?_);clear k m;intro w m k)|(at_builtin;refine aV ?_))
    have O5:=m.out.only;refine aF (G:=fun w0=>Stop (wpList _ _ _ _ _ w0)) ?_;intro w6 hb6 ho6 hs6;have B6:=hid hb6;have O6:=hid ((O1.out.trans O5 (fun y hy=>.inl hy)).aA ho6);have R6:=hid ((OW.out.jB O5 (fun y hy=>by rw[mem_singleton.1 hy];exact HBL.out)).kept ho6);have G6:=hid (ho6.got H5.out (by simp));clear hb6 ho6 hs6 m k O5;refine bD ?_;refine dF (B:=w3.heap.size) rfl _ _ 68 rfl 74 (.agg #[.int .i64 0,.int .i64 0,.int .i64 0]) 3 24 Tryz.underlying68 (by kernel_rfl) rfl (by decide) ntC zB ntC_one acc _ rfl R6.out _ ⟨x0,kd,max (x6-x3) (x3-x5)⟩ rfl (fun j u hj=>by rw[aB B6.out,<-hj];simp[ntC]) (by simp[maxLen];omega) (by omega) O6.out.size ?_;intro v6 w7 hown6 hk6 ho6;have W6:=hid hown6;have O7:=hid (O6.out.trans ho6 fun x hx=>.inr (R6.out.FH x hx).1);have G7:=hid (ho6.got G6.out (fun hm=>by have h1:=(R6.out.FH _ hm).1;have h2:=HBL.out;omega));clear hown6 hk6 ho6;go_wp2;go_roundw
    case rel=>exact⟨i+1,_,_,_,_,_,_,_,_,_,by omega,by go_num,(by rw[HT.out];exact W6.out),G7.out,.inr ⟨by omega,rfl,HA0.out,fun y hy=>⟨HNX.out y hy,HNX.out y hy⟩⟩,O7.out⟩
    case measure=>first|(simp[intOf];done)|(simp[intOf];omega)
   ·obtain rfl:i=fl.length:=by omega
    have hlt2:decide ((fl.length:Int)<(fl.length:Int))=false:=by simp
    rw[List.take_length] at OW |-;have OZ:=hid (OV.out.aA OV2.out);have HSZ:=hid (Nat.le_trans OV.out.size OA.out.size);have m:=bJ wr [];have k:=m.out.k;go_wp2_with (first|((with_reducible first|refine cU ?_|refine wU ?_);clear k m;intro w m k)|((with_reducible refine lE (fun w o g k K hK=>⟨rfl,?_⟩));simp[results,Tryz.results19,go_sem];refine hK _ ?_;exact⟨_,rfl,(by rw[HL.out];exact (OW.out.kept o).lower HSZ.out),OZ.out.aA o⟩))
 ·have d0:(e != 0)=true:=by simpa using h0
  replace HL:Hid (nl=[]):=hid (by rw[<-HL.out,if_neg h0]);clear h0 hown HFO;go_wp2_with (first|((with_reducible first|refine cU ?_|refine wU ?_);clear k m;intro w m k)|((with_reducible refine lE (fun w o g k K hK=>⟨rfl,?_⟩));simp[results,Tryz.results19,go_sem];refine hK _ ?_;exact⟨_,rfl,(by rw[HL.out];exact bU _ _),o⟩))
end
end Go.Proofs.YtppjhbjmfkiejaaGreat
