/- Rr1 Rr2 Rr3 -/
import Derived.Test.YtedgpfgccpnjnaaGreatFRq2
import Derived.Test.YtedgpfgccpnjnaaGreatFJj
namespace Go.Proofs.YtedgpfgccpnjnaaGreat
section
set_option maxRecDepth 100000
set_option maxHeartbeats 4000000
open Go.RowKit Go.Sort
instance sv4 {a b c d v:Value} {xs ys:List Value} {j:Nat} [h:SetV xs j v ys]:SetV (a::b::c::d::xs) (j+4) v (a::b::c::d::ys):=⟨by simp only[List.set_cons_succ,h.h]⟩
theorem qClamp (n lo hi:Int) (w:World) :
  Calls Tryz.prog 221 #[.int .i64 n,.int .i64 lo,.int .i64 hi] w fun e w'=>e=.returned (.int .i64 (clampI n lo hi))∧Only [] w w':=by
 obtain⟨res,HE⟩:∃ zz,Hid (clampI n lo hi=zz):=⟨_,Lib.hid rfl⟩;rw[HE.out];unfold clampI at HE;have m:=mm0 w [];have k:=m.out.k;go_enter Tryz.func221,Tryz.ntmps221
 go_wp2_with (first|((with_reducible refine wU ?_);clear k m;intro w m k)|((with_reducible refine lE (fun w o g k K hK=>⟨rfl,?_⟩));simp[results,Tryz.results221,go_sem];refine hK _ ?_;clear hK K k;rw[←HE.out];(go_tidy;grind)))
theorem qSub (a b:Int) (a0: -9223372036854775808≤a) (a1:a≤9223372036854775807) (b0: -9223372036854775808≤b) (b1:b≤9223372036854775807) (w:World) :
  Calls Tryz.prog 184 #[.int .i64 a,.int .i64 b] w fun e w'=>e=.returned (.tuple #[.int .i64 (orZ (a-b)),.bool (inI (a-b))])∧Only [] w w':=by
 by_cases hb:b<0
 focus
  have dhb:decide (b<0)=true:=decide_eq_true hb;have hp:decide (0<b)=false:=decide_eq_false (by omega);have r0:IntKind.i64.wrap (9223372036854775807+b)=9223372036854775807+b:=by rw[IntKind.wrap_i64];omega
  by_cases hh:9223372036854775807+b<a
  focus
   have dhh:decide (9223372036854775807+b<a)=true:=decide_eq_true hh;rw[orZ_no (by omega),inI_no (by omega)]
  rotate_left 1
  focus
   have dhh:decide (9223372036854775807+b<a)=false:=decide_eq_false hh;rw[orZ_yes (by omega) (by omega),inI_yes (by omega) (by omega)];have r1:IntKind.i64.wrap (a-b)=a-b:=by rw[IntKind.wrap_i64];omega
 rotate_left 2
 focus
  have dhb:decide (b<0)=false:=decide_eq_false hb;by_cases hp:0<b
  focus
   have dhp:decide (0<b)=true:=decide_eq_true hp;have r0:IntKind.i64.wrap (-9223372036854775808+b)= -9223372036854775808+b:=by rw[IntKind.wrap_i64];omega
   by_cases hh:a < -9223372036854775808+b
   focus
    have dhh:decide (a < -9223372036854775808+b)=true:=decide_eq_true hh;rw[orZ_no (by omega),inI_no (by omega)]
   rotate_left 1
   focus
    have dhh:decide (a < -9223372036854775808+b)=false:=decide_eq_false hh;rw[orZ_yes (by omega) (by omega),inI_yes (by omega) (by omega)];have r1:IntKind.i64.wrap (a-b)=a-b:=by rw[IntKind.wrap_i64];omega
  rotate_left 2
  focus
   have dhp:decide (0<b)=false:=decide_eq_false hp;rw[orZ_yes (by omega) (by omega),inI_yes (by omega) (by omega)];have r1:IntKind.i64.wrap (a-b)=a-b:=by rw[IntKind.wrap_i64];omega
 all_goals
  have m:=mm0 w [];have k:=m.out.k;go_enter Tryz.func184,Tryz.ntmps184
  go_wp2_with (first|((with_reducible refine wU ?_);clear k m;intro w m k)|((with_reducible refine lE (fun w o g k K hK=>⟨rfl,?_⟩));simp[results,Tryz.results184,go_sem];refine hK _ ?_;exact⟨rfl,o⟩))
theorem qWidth (x:Iv) (w:World) :
  Calls Tryz.prog 107 #[ivV x] w fun e w'=>e=.returned (.int .i64 (widI x))∧Only [] w w':=by
 have HC:=Lib.hid (fun w'=>qDCheck x w');obtain⟨res,HE⟩:∃ zz,Hid (widI x=zz):=⟨_,Lib.hid rfl⟩;rw[HE.out];unfold widI at HE;have hb:=fun h=>ivOk_iff.1 (show ivOk x=true from h);obtain⟨lo,hi⟩:=x;dsimp only at HE hb;generalize ivOk ⟨lo,hi⟩=b at HC HE hb;unfold ivV at HC ⊢;dsimp only at HC ⊢
 cases b
 focus
  simp only[Bool.false_eq_true,if_false] at HC HE
 rotate_left 1
 focus
  simp only[if_true] at HC HE;obtain⟨h1,h2,h3⟩:=hb rfl;have HS:=Lib.hid (fun w'=>qSub hi lo (by omega) (by omega) (by omega) (by omega) w');by_cases hh:hi-lo≤9223372036854775807
  focus
   rw[orZ_yes (by omega) hh,inI_yes (by omega) hh] at HS;rw[if_pos hh] at HE
  rotate_left 1
  focus
   rw[orZ_no (by omega),inI_no (by omega)] at HS;rw[if_neg hh] at HE
 all_goals
  obtain rfl:=HE.out;clear HE hb;have m:=mm0 w [];have k:=m.out.k;go_enter Tryz.func107,Tryz.ntmps107
  go_wp2_with (first|((with_reducible first|refine cM (HC.out _) ?_|refine cM (HS.out _) ?_|refine wU ?_);clear k m;intro w m k)|((with_reducible refine lE (fun w o g k K hK=>⟨rfl,?_⟩));simp[results,Tryz.results107,go_sem];refine hK _ ?_;exact⟨rfl,o⟩))
end
section
open Go.Lib (hid)
set_option maxRecDepth 100000
set_option maxHeartbeats 8000000
open Go.RowKit Go.Sort
def QSvAt (w:World) (b:Nat) (s:Sv):Prop:=w.heap[b]? = some (.cells #[.int .i64 s.c.kp,.int .i64 s.c.ki,.int .i64 s.c.lim,.int .i64 s.c.sf,.int .i64 s.c.sl,.int .i64 s.itg,.int .i64 s.smp,.int .i64 s.frq] 130 (0,0))
theorem qSvNew (c:Sc) (h:svchk c=0) (w:World) :
  Calls Tryz.prog 26 #[scV c] w fun e w'=>(∃ b,e=.returned (.pointer (some ⟨b,0,none⟩))∧w.heap.size≤b∧QSvAt w' b ⟨c,0,0,0⟩)∧Only [] w w':=by
 have HC:=hid (fun w'=>qSvChk c w');rw[h] at HC;obtain⟨kp,ki,lm,sf,sl⟩:=c;unfold scV at HC ⊢;unfold QSvAt;dsimp only at HC ⊢;obtain⟨wo,hwo⟩:∃ wo:World,wo=w:=⟨_,rfl⟩;subst hwo;have m:=mm0 wo [];have k:=m.out.k;go_enter Tryz.func26,Tryz.ntmps26
 go_wp2_with (first|((with_reducible first|refine cM (HC.out _) ?_|refine wU ?_);clear k m;intro w m k)|((with_reducible refine lE (fun w o g k K hK=>⟨rfl,?_⟩));simp[results,Tryz.results26,go_sem];refine hK _ ?_;exact⟨⟨_,rfl,by omega,Has.h w g⟩,o⟩))
theorem qSlope (off span:Int) (a0: -1125899906842624≤off) (a1:off≤1125899906842624) (b0:1≤span) (b1:span≤1125899906842624) (w:World) :
  Calls Tryz.prog 220 #[.int .i64 off,.int .i64 span] w fun e w'=>e=.returned (.int .i64 (slS off span))∧Only [] w w':=by
 have HM:=hid (fun w=>o_same (rmuldiv off 1000000000 span w (by omega) (by omega) (by omega) (by omega) (by omega) (by omega)));have h0:inI (off*1000000000 / span)=false→off≠0:=fun h e=>by subst e;simp[inI] at h
 obtain⟨res,HE⟩:∃ zz,Hid (slS off span=zz):=⟨_,hid rfl⟩;rw[HE.out];unfold slS at HE;generalize inI (off*1000000000 / span)=b at HM HE h0;generalize orZ (off*1000000000 / span)=v at HM HE;have HC:=hid (qClamp v (-1000000000) 1000000000);have HC1:=hid (qClamp (-1000000000) (-1000000000) 1000000000);have HC2:=hid (qClamp 1000000000 (-1000000000) 1000000000);rw[show clampI (-1000000000) (-1000000000) 1000000000= -1000000000 from rfl] at HC1;rw[show clampI 1000000000 (-1000000000) 1000000000=1000000000 from rfl] at HC2
 cases b
 focus
  have h1:=h0 rfl;rw[if_neg (by decide)] at HE;by_cases h2:0<off
  focus
   have d0:decide (0<off)=true:=decide_eq_true h2;have d1:decide (off<0)=false:=decide_eq_false (by omega);rw[if_pos h2] at HE
  rotate_left 1
  focus
   have d0:decide (0<off)=false:=decide_eq_false h2;have d1:decide (off<0)=true:=decide_eq_true (by omega);rw[if_neg h2] at HE
 rotate_left 2
 focus
  rw[if_pos rfl] at HE
 all_goals
  obtain rfl:=HE.out;clear HE h0;have m:=mm0 w [];have k:=m.out.k;go_enter Tryz.func220,Tryz.ntmps220
  go_wp2_with (first|((with_reducible first|refine cM (HM.out _) ?_|refine cM (HC.out _) ?_|refine cM (HC1.out _) ?_|refine cM (HC2.out _) ?_|refine wU ?_);clear k m;intro w m k)|((with_reducible refine lE (fun w o g k K hK=>⟨rfl,?_⟩));simp[results,Tryz.results220,go_sem];refine hK _ ?_;exact⟨rfl,o⟩))
theorem qGain (k0 z:Int) (a0:0≤k0) (a1:k0≤1048576) (b0: -1000000000≤z) (b1:z≤1000000000) (w:World) :
  Calls Tryz.prog 222 #[.int .i64 k0,.int .i64 z] w fun e w'=>e=.returned (.int .i64 (gnS k0 z))∧Only [] w w':=by
 have b: -1048576000000000≤k0*z∧k0*z≤1048576000000000:=by
  have a:=Int.mul_le_mul_of_nonneg_left (c:=k0) b1 a0;have b:=Int.mul_le_mul_of_nonneg_left (c:=k0) b0 a0;have c:=Int.mul_le_mul_of_nonneg_right (c:=(1000000000:Int)) a1 (by omega);rw[show k0* -1000000000= -(k0*1000000000) by omega] at b;omega
 have HE:Hid (gnS k0 z=orZ (k0*z / 65536)):=hid rfl;obtain⟨q,hq⟩:∃ q,k0*z=q:=⟨_,rfl⟩;rw[hq] at b HE;have r1:IntKind.i64.wrap (k0*z)=q:=by rw[IntKind.wrap_i64,hq];omega
 have HM:=hid (fun w=>o_same (rfloor q 65536 w (by omega) (by omega) (by omega) (by omega)));rw[orZ_yes (by omega) (by omega)] at HE;rw[HE.out];clear HE hq b;have m:=mm0 w [];have k:=m.out.k;go_enter Tryz.func222,Tryz.ntmps222
 go_wp2_with (first|((with_reducible first|refine cM (HM.out _) ?_|refine wU ?_);clear k m;intro w m k)|((with_reducible refine lE (fun w o g k K hK=>⟨rfl,?_⟩));simp[results,Tryz.results222,go_sem];refine hK _ ?_;exact⟨rfl,o⟩))
theorem qSample {w:World} {b:Nat} {s:Sv} (hs:QSvAt w b s) (hok:SvOk s) (off span:Int) :
  Calls Tryz.prog 141 #[.pointer (some ⟨b,0,none⟩),.int .i64 off,.int .i64 span] w fun e w'=>e=.returned (.tuple #[acV (smpE s off span).1,.int .i64 (smpE s off span).2.1])∧QSvAt w' b (smpE s off span).2.2∧Only [b] w w':=by
 obtain⟨⟨kp,ki,lim,sf,sl⟩,itg,smp,frq⟩:=s;obtain⟨q1,q2,q3,q4,q5,q6,q7,q8,q9,qa⟩:=hok;dsimp only at q1 q2 q3 q4 q5 q6 q7 q8 q9 qa;obtain⟨res,HE⟩:∃ zz,Hid (smpE ⟨⟨kp,ki,lim,sf,sl⟩,itg,smp,frq⟩ off span=zz):=⟨_,hid rfl⟩;rw[HE.out];unfold smpE at HE;unfold QSvAt acV at *;dsimp only at hs;by_cases a0:off < -1125899906842624
 focus
  have da0:decide (off < -1125899906842624)=true:=decide_eq_true a0;rw[if_neg (by simp only[wth_iff];omega)] at HE
 rotate_left 1
 focus
  have da0:decide (off < -1125899906842624)=false:=decide_eq_false a0;by_cases a1:1125899906842624<off
  focus
   have da1:decide (1125899906842624<off)=true:=decide_eq_true a1;rw[if_neg (by simp only[wth_iff];omega)] at HE
  rotate_left 1
  focus
   have da1:decide (1125899906842624<off)=false:=decide_eq_false a1;by_cases b0:span<1
   focus
    have db0:decide (span<1)=true:=decide_eq_true b0;rw[if_neg (by simp only[wth_iff];omega)] at HE
   rotate_left 1
   focus
    have db0:decide (span<1)=false:=decide_eq_false b0;by_cases b1:1125899906842624<span
    focus
     have db1:decide (1125899906842624<span)=true:=decide_eq_true b1;rw[if_neg (by simp only[wth_iff];omega)] at HE
    rotate_left 1
    focus
     have db1:decide (1125899906842624<span)=false:=decide_eq_false b1;rw[if_pos (by simp only[wth_iff];omega)] at HE;have HL:=hid (qSlope off span (by omega) (by omega) (by omega) (by omega));have hb:=slS_bd off span;unfold smpS frS itS thS at HE;dsimp only at HE;generalize slS off span=e at HL HE hb;have HG1:=hid (qGain ki e q3 q4 hb.1 hb.2);have HG2:=hid (qGain kp e q1 q2 hb.1 hb.2);have g1:=gn_bd q3 q4 hb.1 hb.2;have g2:=gn_bd q1 q2 hb.1 hb.2;generalize gnS ki e=x1 at HG1 HE g1;generalize gnS kp e=x2 at HG2 HE g2;have HC1:=hid (qClamp (itg+x1) (-lim) lim);have c1:=clampI_bd (n:=itg+x1) (lo:=-lim) (hi:=lim) (by omega);have r1:IntKind.i64.wrap (itg+x1)=itg+x1:=by rw[IntKind.wrap_i64];omega
     have r2:IntKind.i64.wrap (-lim)= -lim:=by rw[IntKind.wrap_i64];omega
     have r3:IntKind.i64.wrap (-off)= -off:=by rw[IntKind.wrap_i64];omega
     generalize clampI (itg+x1) (-lim) lim=y1 at HC1 HE c1;have HC2:=hid (qClamp (x2+y1) (-lim) lim);have r4:IntKind.i64.wrap (x2+y1)=x2+y1:=by rw[IntKind.wrap_i64];omega
     generalize clampI (x2+y1) (-lim) lim=y2 at HC2 HE;clear hb g1 g2 c1 a0 a1 b0 b1
 all_goals
  clear q1 q2 q3 q4 q5 q6 q7 q8 q9 qa;have m:=mm1 hs;have k:=m.out.k;clear hs;go_enter Tryz.func141,Tryz.ntmps141
  go_wp2_with (first|((with_reducible first|refine cM (HL.out _) ?_|refine cM (HC1.out _) ?_|refine cM (HC2.out _) ?_|refine cM (HG1.out _) ?_|refine cM (HG2.out _) ?_|refine wU ?_);clear k m;intro w m k)|((with_reducible refine rG (id:=15) [0,1,2,3,4,5,6,7,8,9,10,11,12,13,14,15,16,17,18,19,20,21,22,23,24,25,26] [27] (by kernel_rfl) (by kernel_rfl) ?_);simp only[pick,List.map_cons,List.map_nil,List.getD_cons_succ,List.getD_cons_zero];(repeat' (first|go_big_quiet_step (with_reducible first|exact gX (HL.out _)|exact gX (HC1.out _)|exact gX (HC2.out _)|exact gX (HG1.out _)|exact gX (HG2.out _))|(refine wpQuiet_step (fun K hK=>?_);go_simp;(first|(refine hK _ ?_;clear hK K)|(split<;>(refine hK _ ?_;clear hK K))))));all_goals (refine wpQuiet_nil ?_;clear k m;intro w m k))|((with_reducible refine rG (id:=16) [0,1,2,3,4,5,6,7,8,9,10,11,12,13,14,15,16,17,18,19,20,21,22,23,24,25,26] [27] (by kernel_rfl) (by kernel_rfl) ?_);simp only[pick,List.map_cons,List.map_nil,List.getD_cons_succ,List.getD_cons_zero];(repeat' (first|go_big_quiet_step (with_reducible first|exact gX (HL.out _)|exact gX (HC1.out _)|exact gX (HC2.out _)|exact gX (HG1.out _)|exact gX (HG2.out _))|(refine wpQuiet_step (fun K hK=>?_);go_simp;(first|(refine hK _ ?_;clear hK K)|(split<;>(refine hK _ ?_;clear hK K))))));all_goals (refine wpQuiet_nil ?_;clear k m;intro w m k))|((with_reducible refine lE (fun w o g k K hK=>⟨rfl,?_⟩));simp[results,Tryz.results141,go_sem,k];refine hK _ ?_;clear hK K k;rw[←HE.out];(go_tidy;grind)))
end
section
open Go.Lib (hid)
set_option maxRecDepth 100000
set_option maxHeartbeats 4000000
open Go.RowKit Go.Sort
def QCkAt (w:World) (b:Nat) (c:Ck):Prop:=w.heap[b]? = some (.cells #[.int .i64 c.raw,.int .i64 c.time,.int .i64 c.ppb,.int .i64 0,.int .i64 0,.int .i64 c.steps] 174 (0,0))
theorem qCIn (n m:Int) (h0:0≤m) (hm:m≤9223372036854775807) (w:World) :
  Calls Tryz.prog 150 #[.int .i64 n,.int .i64 m] w fun e w'=>e=.returned (.bool (wth n (-m) m))∧Only [] w w':=by
 obtain⟨res,HE⟩:∃ zz,Hid (wth n (-m) m=zz):=⟨_,hid rfl⟩;rw[HE.out];unfold wth at HE;have r1:IntKind.i64.wrap (-m)= -m:=by rw[IntKind.wrap_i64];omega
 clear h0 hm;have m:=mm0 w [];have k:=m.out.k;go_enter Tryz.func150,Tryz.ntmps150
 go_wp2_with (first|((with_reducible refine wU ?_);clear k m;intro w m k)|((with_reducible refine lE (fun w o g k K hK=>⟨rfl,?_⟩));simp[results,Tryz.results150,go_sem];refine hK _ ?_;clear hK K k;rw[←HE.out];(go_tidy;grind)))
theorem qCValid (raw time:Int) (w:World) :
  Calls Tryz.prog 99 #[.agg #[.int .i64 raw,.int .i64 time,.int .i64 0,.int .i64 0,.int .i64 0,.int .i64 0]] w fun e w'=>e=.returned (.bool (isT raw && isT time))∧Only [] w w':=by
 have H1:=hid (fun w'=>qCIn raw 4503599627370496 (by omega) (by omega) w');have H2:=hid (fun w'=>qCIn time 4503599627370496 (by omega) (by omega) w');have H3:=hid (fun w'=>qCIn 0 4503599627370496 (by omega) (by omega) w');have H4:=hid (fun w'=>qCIn 0 500000 (by omega) (by omega) w');rw[show wth 0 (-4503599627370496) 4503599627370496=true from rfl] at H3;rw[show wth 0 (-500000) 500000=true from rfl] at H4;unfold isT;generalize wth raw (-4503599627370496) 4503599627370496=a at H1 ⊢;generalize wth time (-4503599627370496) 4503599627370496=b at H2 ⊢
 cases a
 rotate_left
 cases b
 all_goals have m:=mm0 w [];have k:=m.out.k
 all_goals go_enter Tryz.func99,Tryz.ntmps99
 all_goals go_wp2_with (first|((with_reducible first|refine cM (H1.out _) ?_|refine cM (H2.out _) ?_|refine cM (H3.out _) ?_|refine cM (H4.out _) ?_|refine wU ?_);clear k m;intro w m k)|((with_reducible refine lE (fun w o g k K hK=>⟨rfl,?_⟩));simp[results,Tryz.results99,go_sem];refine hK _ ?_;exact⟨rfl,o⟩))
def QNewR (w0:World) (raw time:Int) (e:Ending) (w:World):Prop:=
 ((isT raw && isT time)=false∧e=.returned (.pointer none))∨((isT raw && isT time)=true∧∃ b,e=.returned (.pointer (some ⟨b,0,none⟩))∧w0.heap.size≤b∧QCkAt w b ⟨raw,time,0,0⟩)
theorem qCOf (raw time:Int) (w:World) :
  Calls Tryz.prog 56 #[.agg #[.int .i64 raw,.int .i64 time,.int .i64 0,.int .i64 0,.int .i64 0,.int .i64 0]] w fun e w'=>QNewR w raw time e w'∧Only [] w w':=by
 have HV:=hid (fun w'=>qCValid raw time w');unfold QNewR QCkAt;generalize (isT raw && isT time)=b at HV ⊢;obtain⟨wo,hwo⟩:∃ wo:World,wo=w:=⟨_,rfl⟩;subst hwo
 cases b
 all_goals have m:=mm0 wo [];have k:=m.out.k
 all_goals go_enter Tryz.func56,Tryz.ntmps56
 all_goals go_wp2_with (first|((with_reducible first|refine cM (HV.out _) ?_|refine wU ?_);clear k m;intro w m k)|((with_reducible refine lE (fun w o g k K hK=>⟨rfl,?_⟩));simp[results,Tryz.results56,go_sem];refine hK _ ?_;clear hK K k;skip;first|exact⟨.inl ⟨by trivial,rfl⟩,o⟩|exact⟨.inr ⟨by trivial,_,rfl,by omega,Has.h w g⟩,o⟩))
theorem qCNew (raw time:Int) (w:World) :
  Calls Tryz.prog 25 #[.int .i64 raw,.int .i64 time] w fun e w'=>QNewR w raw time e w'∧Only [] w w':=by
 have HO:=hid (fun w'=>qCOf raw time w');obtain⟨wo,hwo⟩:∃ wo:World,wo=w:=⟨_,rfl⟩;subst hwo;have m:=mm0 wo [];have k:=m.out.k;go_enter Tryz.func25,Tryz.ntmps25
 go_wp2_with ((with_reducible first|refine cU ?_|refine wU ?_);clear k m;intro w m k)
 refine (HO.out _).mono ?_;rintro e w2 ⟨hr,ho⟩;have O2:=hid (m.out.only.nil_trans ho);have hs:=m.out.only.size;clear k m HO ho;rcases hr with ⟨h0,rfl⟩|⟨h0,b,rfl,hb,hc⟩
 ·have m:=mm0 w2 [];have k:=m.out.k
  go_wp2_with (first|((with_reducible refine wU ?_);clear k m;intro w m k)|((with_reducible refine lE (fun w o g k K hK=>⟨rfl,?_⟩));simp[results,Tryz.results25,go_sem];refine hK _ ?_;exact⟨.inl ⟨h0,rfl⟩,O2.out.nil_trans o⟩))
 ·unfold QCkAt at hc
  have m:=mmR hc;have k:=m.out.k;go_wp2_with (first|((with_reducible refine wU ?_);clear k m;intro w m k)|((with_reducible refine lE (fun w o g k K hK=>⟨rfl,?_⟩));simp[results,Tryz.results25,go_sem];refine hK _ ?_;exact⟨.inr ⟨h0,b,rfl,by omega,Has.h w g⟩,O2.out.nil_trans o⟩))
theorem part_eq (d ppb:Int):d / 1000000000*ppb+d % 1000000000*ppb / 1000000000=d*ppb / 1000000000:=by
 have h:=Int.emod_add_mul_ediv d 1000000000;generalize d / 1000000000=q at *;generalize d % 1000000000=r at *;rw[←h,Int.add_mul,Int.mul_assoc,Int.add_mul_ediv_left _ _ (by decide)];omega
theorem qPart (d ppb:Int) (h0:0≤d) (h1:d≤9007199254740992) (h2: -500000≤ppb) (h3:ppb≤500000) (w:World) :
  Calls Tryz.prog 230 #[.int .i64 d,.int .i64 ppb] w fun e w'=>e=.returned (.int .i64 (d*ppb / 1000000000))∧Only [] w w':=by
 have hb:=part_bd h0 h1 h2 h3;have HE:=part_eq d ppb;obtain⟨q,hq⟩:∃ q,d / 1000000000=q:=⟨_,rfl⟩;obtain⟨r,hr⟩:∃ r,d % 1000000000=r:=⟨_,rfl⟩;have t1:d.tdiv 1000000000=q:=by rw[←hq];exact Int.tdiv_eq_ediv_of_nonneg h0
 have t2:d.tmod 1000000000=r:=by rw[←hr];exact Int.tmod_eq_emod_of_nonneg h0
 have q0:0≤q∧q≤9007199254740992:=by omega
 have r0:0≤r∧r≤999999999:=by omega
 obtain⟨x,hx⟩:∃ x,r*ppb=x:=⟨_,rfl⟩;obtain⟨y,hy⟩:∃ y,q*ppb=y:=⟨_,rfl⟩
 have x0: -499999999500000≤x∧x≤499999999500000:=by
  have a:=Int.mul_le_mul_of_nonneg_left (c:=r) h2 r0.1;have b:=Int.mul_le_mul_of_nonneg_left (c:=r) h3 r0.1;omega
 rw[hq,hr,hx,hy] at HE;rw[←HE] at hb ⊢;have a1:IntKind.i64.wrap (q)=q:=by rw[IntKind.wrap_i64];omega
 have a2:IntKind.i64.wrap (r)=r:=by rw[IntKind.wrap_i64];omega
 have a3:IntKind.i64.wrap (r*ppb)=x:=by rw[IntKind.wrap_i64,hx];omega
 have a4:IntKind.i64.wrap (q*ppb)=y:=by rw[IntKind.wrap_i64,hy];omega
 clear HE hq hr hx hy h0 h1 h2 h3 q0 r0;by_cases hn:0≤x
 focus
  have t3:x.tdiv 1000000000=x / 1000000000:=Int.tdiv_eq_ediv_of_nonneg hn;have t4:x.tmod 1000000000=x % 1000000000:=Int.tmod_eq_emod_of_nonneg hn;have d0:decide (x % 1000000000<0)=false:=decide_eq_false (by omega);have a5:IntKind.i64.wrap (x / 1000000000)=x / 1000000000:=by rw[IntKind.wrap_i64];omega
  have a6:IntKind.i64.wrap (x % 1000000000)=x % 1000000000:=by rw[IntKind.wrap_i64];omega
  have a7:IntKind.i64.wrap (y+x / 1000000000)=y+x / 1000000000:=by rw[IntKind.wrap_i64];omega
 rotate_left 1
 focus
  obtain⟨u,hu⟩:∃ u,x.tdiv 1000000000=u:=⟨_,rfl⟩;obtain⟨v,hv⟩:∃ v,x.tmod 1000000000=v:=⟨_,rfl⟩;have e1:u= -((-x) / 1000000000):=by rw[←hu,show x= -(-x) by omega,Int.neg_tdiv,Int.tdiv_eq_ediv_of_nonneg (by omega)];omega
  have e2:v= -((-x) % 1000000000):=by rw[←hv,show x= -(-x) by omega,Int.neg_tmod,Int.tmod_eq_emod_of_nonneg (by omega)];omega
  obtain⟨z,hz⟩:∃ z,x / 1000000000=z:=⟨_,rfl⟩;rw[hz] at hb ⊢;have a5:IntKind.i64.wrap (u)=u:=by rw[IntKind.wrap_i64];omega
  have a6:IntKind.i64.wrap (v)=v:=by rw[IntKind.wrap_i64];omega
  have a9:IntKind.i64.wrap (y+z)=y+z:=by rw[IntKind.wrap_i64];omega
  by_cases hv0:v<0
  focus
   have dhv0:decide (v<0)=true:=decide_eq_true hv0;have a7:IntKind.i64.wrap (u-1)=z:=by rw[IntKind.wrap_i64];omega
   clear e1 e2 hz
  rotate_left 1
  focus
   have dhv0:decide (v<0)=false:=decide_eq_false hv0;obtain rfl:u=z:=by omega
   clear e1 e2 hz
 all_goals
  clear hb x0 hn;have m:=mm0 w [];have k:=m.out.k;go_enter Tryz.func230,Tryz.ntmps230
  go_wp2_with (first|((with_reducible refine wU ?_);clear k m;intro w m k)|((with_reducible refine lE (fun w o g k K hK=>⟨rfl,?_⟩));simp[results,Tryz.results230,go_sem];refine hK _ ?_;exact⟨rfl,o⟩))
theorem qSign0  (w:World) :
  Calls Tryz.prog 231 #[.int .i64 0] w fun e w'=>e=.returned (.int .i64 0)∧Only [] w w':=by
 have m:=mm0 w [];have k:=m.out.k;go_enter Tryz.func231,Tryz.ntmps231
 go_wp2_with (first|((with_reducible refine wU ?_);clear k m;intro w m k)|((with_reducible refine lE (fun w o g k K hK=>⟨rfl,?_⟩));simp[results,Tryz.results231,go_sem];refine hK _ ?_;exact⟨rfl,o⟩))
theorem qLen0 (raw time ppb steps:Int) (w:World) :
  Calls Tryz.prog 229 #[.agg #[.int .i64 raw,.int .i64 time,.int .i64 ppb,.int .i64 0,.int .i64 0,.int .i64 steps]] w fun e w'=>e=.returned (.int .i64 0)∧Only [] w w':=by
 have m:=mm0 w [];have k:=m.out.k;go_enter Tryz.func229,Tryz.ntmps229
 go_wp2_with (first|((with_reducible refine rG (id:=4) [0,1,2,3,4,5,6,7,8,9] [] (by kernel_rfl) (by kernel_rfl) ?_);simp only[pick,List.map_cons,List.map_nil,List.getD_cons_succ,List.getD_cons_zero];(repeat' (first|go_big_quiet_step (fail)|(refine wpQuiet_step (fun K hK=>?_);go_simp;(first|(refine hK _ ?_;clear hK K)|(split<;>(refine hK _ ?_;clear hK K))))));all_goals (refine wpQuiet_nil ?_;clear k m;intro w m k))|((with_reducible refine wU ?_);clear k m;intro w m k)|((with_reducible refine lE (fun w o g k K hK=>⟨rfl,?_⟩));simp[results,Tryz.results229,go_sem];refine hK _ ?_;exact⟨rfl,o⟩))
theorem qShown (raw time ppb steps d:Int) (h0:0≤d) (h1:d≤9007199254740992) (h2: -500000≤ppb) (h3:ppb≤500000) (h4: -4503599627370496≤time) (h5:time≤4503599627370496) (w:World) :
  Calls Tryz.prog 149 #[.agg #[.int .i64 raw,.int .i64 time,.int .i64 ppb,.int .i64 0,.int .i64 0,.int .i64 steps],.int .i64 d] w fun e w'=>e=.returned (.int .i64 (time+d+d*ppb / 1000000000))∧Only [] w w':=by
 have hb:=part_bd h0 h1 h2 h3;have HP:=hid (fun w'=>qPart d ppb h0 h1 h2 h3 w');have HP0:=hid (fun w'=>qPart 0 ppb (by omega) (by omega) h2 h3 w');rw[Int.zero_mul,Int.zero_ediv] at HP0;have HL:=hid (fun w'=>qLen0 raw time ppb steps w');have HS:=hid (fun w'=>qSign0 w');generalize d*ppb / 1000000000=q at HP hb ⊢;have hm:min d 0=0:=by omega
 have r1:IntKind.i64.wrap (time+d)=time+d:=by rw[IntKind.wrap_i64];omega
 have r2:IntKind.i64.wrap (time+d+q)=time+d+q:=by rw[IntKind.wrap_i64];omega
 have r3:IntKind.i64.wrap (ppb)=ppb:=by rw[IntKind.wrap_i64];omega
 have r4:IntKind.i64.wrap (time)=time:=by rw[IntKind.wrap_i64];omega
 have r5:IntKind.i64.wrap (d)=d:=by rw[IntKind.wrap_i64];omega
 clear h0 h1 h2 h3 h4 h5 hb;have m:=mm0 w [];have k:=m.out.k;go_enter Tryz.func149,Tryz.ntmps149
 go_wp2_with (first|((with_reducible first|refine cM (HP.out _) ?_|refine cM (HP0.out _) ?_|refine cM (HL.out _) ?_|refine cM (HS.out _) ?_|refine wU ?_);clear k m;intro w m k)|((with_reducible refine rG (id:=2) [0,1,2,3,4,5,6,7,8,9,10,11,12,13,14,15,16,17,18,19,20,21,22,23,24,25,26,27] [] (by kernel_rfl) (by kernel_rfl) ?_);simp only[pick,List.map_cons,List.map_nil,List.getD_cons_succ,List.getD_cons_zero];(repeat' (first|go_big_quiet_step (with_reducible first|exact gX (HP.out _)|exact gX (HP0.out _)|exact gX (HL.out _)|exact gX (HS.out _))|(refine wpQuiet_step (fun K hK=>?_);go_simp;(first|(refine hK _ ?_;clear hK K)|(split<;>(refine hK _ ?_;clear hK K))))));all_goals (refine wpQuiet_nil ?_;clear k m;intro w m k))|((with_reducible refine lE (fun w o g k K hK=>⟨rfl,?_⟩));simp[results,Tryz.results149,go_sem];refine hK _ ?_;exact⟨rfl,o⟩))
theorem qCNow {w:World} {b:Nat} {c:Ck} (hc:QCkAt w b c) (hok:CkOk c) (r:Int)  :
  Calls Tryz.prog 75 #[.pointer (some ⟨b,0,none⟩),.int .i64 r] w fun e w'=>e=.returned (.tuple #[.int .i64 (cNow c r).1,.int .i64 (cNow c r).2])∧Only [] w w':=by
 have HK:=hid hok;obtain⟨raw,time,ppb,steps⟩:=c;obtain⟨b0,b1,b2,b3,b4,b5,b6,b7⟩:=hok;unfold QCkAt at hc;dsimp only at hc b0 b1 b2 b3 b4 b5 b6 b7;obtain⟨res,HE⟩:∃ zz,Hid (cNow ⟨raw,time,ppb,steps⟩ r=zz):=⟨_,hid rfl⟩;rw[HE.out];unfold cNow at HE;dsimp only at HE;by_cases h1:r<raw
 focus
  have dh1:decide (r<raw)=true:=decide_eq_true h1;rw[if_pos h1] at HE
 rotate_left 1
 focus
  have dh1:decide (r<raw)=false:=decide_eq_false h1;by_cases h2:4503599627370496<r
  focus
   have dh2:decide (4503599627370496<r)=true:=decide_eq_true h2;rw[if_neg h1,if_pos h2] at HE
  rotate_left 1
  focus
   have dh2:decide (4503599627370496<r)=false:=decide_eq_false h2;rw[if_neg h1,if_neg h2] at HE;obtain⟨d,hd⟩:∃ d,r-raw=d:=⟨_,rfl⟩;have HSH:=hid (fun w'=>qShown raw time ppb steps d (by omega) (by omega) b4 b5 b2 b3 w');have hsb:cShow ⟨raw,time,ppb,steps⟩ r=time+d+d*ppb / 1000000000:=by unfold cShow;dsimp only;rw[hd]
   have hpb:=part_bd (e:=d) (ppb:=ppb) (by omega) (by omega) b4 b5;rw[hsb] at HE;generalize d*ppb / 1000000000=q at HSH HE hpb;obtain⟨t,ht⟩:∃ t,time+d+q=t:=⟨_,rfl⟩;rw[ht] at HE HSH;have HI:=hid (fun w'=>qCIn t 4503599627370496 (by omega) (by omega) w');unfold isT at HE;generalize wth t (-4503599627370496) 4503599627370496=x at HI HE;have r1:IntKind.i64.wrap (r-raw)=d:=by rw[IntKind.wrap_i64];omega
   clear h1 h2 hd hsb hpb ht
 all_goals
  clear HK b0 b1 b2 b3 b4 b5 b6 b7;have m:=mmR hc;have k:=m.out.k;clear hc;go_enter Tryz.func75,Tryz.ntmps75
  go_wp2_with (first|((with_reducible first|refine cM (HSH.out _) ?_|refine cM (HI.out _) ?_|refine wU ?_);clear k m;intro w m k)|((with_reducible refine rG (id:=7) [0,1,2,3,4,5,6,7,8,9,10,11,12] [] (by kernel_rfl) (by kernel_rfl) ?_);simp only[pick,List.map_cons,List.map_nil,List.getD_cons_succ,List.getD_cons_zero];(repeat' (first|go_big_quiet_step (with_reducible first|exact gX (HSH.out _)|exact gX (HI.out _))|(refine wpQuiet_step (fun K hK=>?_);go_simp;(first|(refine hK _ ?_;clear hK K)|(split<;>(refine hK _ ?_;clear hK K))))));all_goals (refine wpQuiet_nil ?_;clear k m;intro w m k))|((with_reducible refine lE (fun w o g k K hK=>⟨rfl,?_⟩));simp[results,Tryz.results75,go_sem];refine hK _ ?_;clear hK K k;rw[←HE.out];(go_tidy;grind)))
def mvC (c:Ck) (r:Int):Ck × Int:=if (cNow c r).2=0 then (⟨r,cShow c r,c.ppb,c.steps⟩,0) else (⟨0,0,0,0⟩,(cNow c r).2)
theorem qMoved {w:World} {b:Nat} {c:Ck} (hc:QCkAt w b c) (hok:CkOk c) (r:Int)  :
  Calls Tryz.prog 226 #[.pointer (some ⟨b,0,none⟩),.int .i64 r] w fun e w'=>e=.returned (.tuple #[.agg #[.int .i64 (mvC c r).1.raw,.int .i64 (mvC c r).1.time,.int .i64 (mvC c r).1.ppb,.int .i64 0,.int .i64 0,.int .i64 (mvC c r).1.steps],.int .i64 (mvC c r).2])∧Only [] w w':=by
 have HN:=hid (fun w' (h:QCkAt w' b c)=>qCNow h hok r);have hx:=now_ok (c:=c) (r:=r);obtain⟨res,HE⟩:∃ zz,Hid (mvC c r=zz):=⟨_,hid rfl⟩;rw[HE.out];unfold mvC at HE;obtain⟨raw,time,ppb,steps⟩:=c;obtain⟨b0,b1,b2,b3,b4,b5,b6,b7⟩:=hok;unfold QCkAt at hc HN;dsimp only at hc HN hx HE b0 b1 b2 b3 b4 b5 b6 b7;obtain⟨⟨nv,ne⟩,q2⟩:∃ a,cNow ⟨raw,time,ppb,steps⟩ r=a:=⟨_,rfl⟩;rw[q2] at HN HE hx;dsimp only at HN HE hx;by_cases hz:ne=0
 focus
  subst hz;obtain⟨q1,q2,q3,q4⟩:=hx rfl;obtain rfl:nv=cShow ⟨raw,time,ppb,steps⟩ r:=by simpa using q4
  rw[if_pos rfl] at HE;generalize cShow ⟨raw,time,ppb,steps⟩ r=t at HE HN;obtain⟨d,hd⟩:∃ d,r-raw=d:=⟨_,rfl⟩;have HP:=hid (fun w'=>qPart d 0 (by omega) (by omega) (by omega) (by omega) w');rw[Int.mul_zero,Int.zero_ediv] at HP;have HS:=hid (fun w'=>qSign0 w');have r1:IntKind.i64.wrap (r-raw)=d:=by rw[IntKind.wrap_i64];omega
  clear q1 q2 q3 q4 hd
 rotate_left 1
 focus
  have d0:(ne != 0)=true:=by simpa using hz
  rw[if_neg hz] at HE;clear hz
 all_goals
  obtain rfl:=HE.out;clear hx HE b0 b1 b2 b3 b4 b5 b6 b7;have m:=mmR hc;have k:=m.out.k;clear hc;go_enter Tryz.func226,Tryz.ntmps226
  go_wp2_with (first|((with_reducible first|refine cM (HN.out _ gB) ?_|refine cM (HP.out _) ?_|refine cM (HS.out _) ?_|refine wU ?_);clear k m;intro w m k)|((with_reducible refine rG (id:=5) [0,1,2,3,4,5,6,7,8,9,10,11,12,13,14] [] (by kernel_rfl) (by kernel_rfl) ?_);simp only[pick,List.map_cons,List.map_nil,List.getD_cons_succ,List.getD_cons_zero];(repeat' (first|go_big_quiet_step (with_reducible first|exact gX (HN.out _ gB)|exact gX (HP.out _)|exact gX (HS.out _))|(refine wpQuiet_step (fun K hK=>?_);go_simp;(first|(refine hK _ ?_;clear hK K)|(split<;>(refine hK _ ?_;clear hK K))))));all_goals (refine wpQuiet_nil ?_;clear k m;intro w m k))|((with_reducible refine rG (id:=6) [0,1,2,3,4,5,6,7,8] [9] (by kernel_rfl) (by kernel_rfl) ?_);simp only[pick,List.map_cons,List.map_nil,List.getD_cons_succ,List.getD_cons_zero];(repeat' (first|go_big_quiet_step (with_reducible first|exact gX (HN.out _ gB)|exact gX (HP.out _)|exact gX (HS.out _))|(refine wpQuiet_step (fun K hK=>?_);go_simp;(first|(refine hK _ ?_;clear hK K)|(split<;>(refine hK _ ?_;clear hK K))))));all_goals (refine wpQuiet_nil ?_;clear k m;intro w m k))|((with_reducible refine lE (fun w o g k K hK=>⟨rfl,?_⟩));simp[results,Tryz.results226,go_sem,k];refine hK _ ?_;exact⟨rfl,o⟩))
theorem qClkFreq {w:World} {b:Nat} {c:Ck} (hc:QCkAt w b c) (hok:CkOk c) (r:Int) (x:Int) (x0: -500000≤x) (x1:x≤500000)  :
  Calls Tryz.prog 146 #[.pointer (some ⟨b,0,none⟩),.int .i64 r,.int .i64 x] w fun e w'=>e=.returned (.int .i64 (cFreq c r x).1)∧QCkAt w' b (cFreq c r x).2∧Only [b] w w':=by
 have HI:=hid (fun w'=>qCIn x 500000 (by decide) (by decide) w');rw[show wth x (-500000) 500000=true from wth_iff.2 ⟨x0,x1⟩] at HI;have HM:=hid (fun w' (h:QCkAt w' b c)=>qMoved h hok r);obtain⟨res,HE⟩:∃ zz,Hid (cFreq c r x=zz):=⟨_,hid rfl⟩;rw[HE.out];unfold cFreq at HE;have hmv:Hid (mvC c r=if (cNow c r).2=0 then (⟨r,cShow c r,c.ppb,c.steps⟩,0) else (⟨0,0,0,0⟩,(cNow c r).2)):=hid rfl;have hsh:(cNow c r).2=0→ -4503599627370496≤cShow c r∧cShow c r≤4503599627370496:=fun h=>wth_iff.1 (now_ok h).2.2.1;generalize mvC c r=mv at HM hmv;generalize cShow c r=sh at HE hmv hsh;generalize (cNow c r).2=ne at HE hmv hsh;obtain⟨raw,time,ppb,steps⟩:=c;obtain⟨b0,b1,b2,b3,b4,b5,b6,b7⟩:=hok;unfold QCkAt at *;dsimp only at *;by_cases hz:ne=0
 focus
  subst hz;obtain⟨s0,s1⟩:=hsh rfl;rw[if_pos rfl] at HE hmv;obtain rfl:=hmv.out;clear hmv hsh;clear s0 s1
 rotate_left 1
 focus
  have d0:(ne != 0)=true:=by simpa using hz
  rw[if_neg hz] at HE hmv;obtain rfl:=hmv.out;clear hmv hsh hz
 all_goals
  obtain rfl:=HE.out;clear HE b0 b1 b2 b3 b4 b5 b6 b7 x0 x1;dsimp only at HM;have m:=mm1 hc;have k:=m.out.k;clear hc;go_enter Tryz.func146,Tryz.ntmps146
  go_wp2_with (first|((with_reducible first|refine cM (HI.out _) ?_|refine cM (HI2.out _) ?_|refine cM (HM.out _ gB) ?_|refine wU ?_);clear k m;intro w m k)|((with_reducible refine lE (fun w o g k K hK=>⟨rfl,?_⟩));simp[results,Tryz.results146,go_sem];refine hK _ ?_;exact⟨rfl,Has.h w g,o⟩))
theorem qClkStep {w:World} {b:Nat} {c:Ck} (hc:QCkAt w b c) (hok:CkOk c) (r:Int) (x:Int) (x0: -4503599627370496≤x) (x1:x≤4503599627370496)  :
  Calls Tryz.prog 145 #[.pointer (some ⟨b,0,none⟩),.int .i64 r,.int .i64 x] w fun e w'=>e=.returned (.int .i64 (cStep c r x).1)∧QCkAt w' b (cStep c r x).2∧Only [b] w w':=by
 have HI:=hid (fun w'=>qCIn x 4503599627370496 (by decide) (by decide) w');rw[show wth x (-4503599627370496) 4503599627370496=true from wth_iff.2 ⟨x0,x1⟩] at HI;have HM:=hid (fun w' (h:QCkAt w' b c)=>qMoved h hok r);obtain⟨res,HE⟩:∃ zz,Hid (cStep c r x=zz):=⟨_,hid rfl⟩;rw[HE.out];unfold cStep at HE;have hmv:Hid (mvC c r=if (cNow c r).2=0 then (⟨r,cShow c r,c.ppb,c.steps⟩,0) else (⟨0,0,0,0⟩,(cNow c r).2)):=hid rfl;have hsh:(cNow c r).2=0→ -4503599627370496≤cShow c r∧cShow c r≤4503599627370496:=fun h=>wth_iff.1 (now_ok h).2.2.1;generalize mvC c r=mv at HM hmv;generalize cShow c r=sh at HE hmv hsh;generalize (cNow c r).2=ne at HE hmv hsh;obtain⟨raw,time,ppb,steps⟩:=c;obtain⟨b0,b1,b2,b3,b4,b5,b6,b7⟩:=hok;unfold QCkAt at *;dsimp only at *;by_cases hz:ne=0
 focus
  subst hz;obtain⟨s0,s1⟩:=hsh rfl;rw[if_pos rfl] at HE hmv;obtain rfl:=hmv.out;clear hmv hsh;unfold st1 isT at HE;obtain⟨y,hy⟩:∃ y,sh+x=y:=⟨_,rfl⟩;have HI2:=hid (fun w'=>qCIn y 4503599627370496 (by decide) (by decide) w');rw[hy] at HE;generalize wth y (-4503599627370496) 4503599627370496=by' at HI2 HE
  have r1:IntKind.i64.wrap (sh+x)=y:=by rw[IntKind.wrap_i64];omega
  have r2:steps≠9223372036854775807→IntKind.i64.wrap (steps+1)=steps+1:=fun h=>by rw[IntKind.wrap_i64];omega
  clear s0 s1 hy
  cases by'
  focus
   simp only[Bool.false_eq_true,if_false,Int.reduceEq] at HE;clear r2
  rotate_left 1
  focus
   simp only[if_true] at HE;by_cases hs:steps=9223372036854775807
   focus
    subst hs;simp only[if_true,Int.reduceEq,if_false] at HE;clear r2
   rotate_left 1
   focus
    have d1:(steps == 9223372036854775807)=false:=by simpa using hs
    have r3:=r2 hs;simp only[hs,if_false,if_true] at HE;clear r2 hs
 rotate_left 3
 focus
  have d0:(ne != 0)=true:=by simpa using hz
  rw[if_neg hz] at HE hmv;obtain rfl:=hmv.out;clear hmv hsh hz
 all_goals
  obtain rfl:=HE.out;clear HE b0 b1 b2 b3 b4 b5 b6 b7 x0 x1;dsimp only at HM;have m:=mm1 hc;have k:=m.out.k;clear hc;go_enter Tryz.func145,Tryz.ntmps145
  go_wp2_with (first|((with_reducible first|refine cM (HI.out _) ?_|refine cM (HI2.out _) ?_|refine cM (HM.out _ gB) ?_|refine wU ?_);clear k m;intro w m k)|((with_reducible refine lE (fun w o g k K hK=>⟨rfl,?_⟩));simp[results,Tryz.results145,go_sem];refine hK _ ?_;exact⟨rfl,Has.h w g,o⟩))
theorem qClkState {w:World} {b:Nat} {c:Ck} (hc:QCkAt w b c)  :
  Calls Tryz.prog 83 #[.pointer (some ⟨b,0,none⟩)] w fun e w'=>e=.returned (.agg #[.int .i64 c.raw,.int .i64 c.time,.int .i64 c.ppb,.int .i64 0,.int .i64 0,.int .i64 c.steps])∧Only [] w w':=by
 unfold QCkAt at hc;have m:=mmR hc;have k:=m.out.k;clear hc;go_enter Tryz.func83,Tryz.ntmps83
 go_wp2_with (first|((with_reducible refine wU ?_);clear k m;intro w m k)|((with_reducible refine lE (fun w o g k K hK=>⟨rfl,?_⟩));simp[results,Tryz.results83,go_sem,k];refine hK _ ?_;exact⟨rfl,o⟩))
end
end Go.Proofs.YtedgpfgccpnjnaaGreat
