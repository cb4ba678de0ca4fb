/- R8 R9 Rq1 -/
import Derived.Test.YtedgpfgccpnjnaaGreatFRt0
import Derived.Test.YtedgpfgccpnjnaaGreatFJ9
namespace Go.Proofs.YtedgpfgccpnjnaaGreat
section
set_option maxRecDepth 100000
set_option maxHeartbeats 4000000
open Go.RowKit
theorem qDCheck (x:Iv) (w:World) :
  Calls Tryz.prog 181 #[ivV x] w fun e w'=>e=.returned (.int .i64 (if ivOk x then 0 else 3))∧Only [] w w':=by
 obtain⟨lo,hi⟩:=x;obtain⟨res,HE⟩:∃ r,Hid ((if ivOk ⟨lo,hi⟩ then (0:Int) else 3)=r):=⟨_,Lib.hid rfl⟩;rw[HE.out];unfold ivOk at HE;unfold ivV;dsimp only at HE ⊢;have m:=mm0 w [];have k:=m.out.k;go_enter Tryz.func181,Tryz.ntmps181
 go_wp2_with (first|((with_reducible refine wU ?_);clear k m;intro w m k)|((with_reducible refine lE (fun w o g k K hK=>⟨rfl,?_⟩));simp[results,Tryz.results181,go_sem];refine hK _ ?_;clear hK K k;rw[←HE.out];(go_tidy;simp only[decide_eq_true_eq];first|(rw[if_pos (by omega)])|(rw[if_neg (by omega)])|grind)))
theorem qValid (lo hi:Int) (w:World) :
  Calls Tryz.prog 183 #[.int .i64 lo,.int .i64 hi] w fun e w'=>e=.returned (.tuple #[ivV (ckd lo hi).1,.int .i64 (ckd lo hi).2])∧Only [] w w':=by
 have HA:=Lib.hid (qDCheck ⟨lo,hi⟩);obtain⟨res,HE⟩:∃ r,Hid (ckd lo hi=r):=⟨_,Lib.hid rfl⟩;rw[HE.out];unfold ckd at HE;generalize ivOk ⟨lo,hi⟩=oka at HA HE;unfold ivV at HA ⊢;dsimp only at HA ⊢;have m:=mm0 w [];have k:=m.out.k;go_enter Tryz.func183,Tryz.ntmps183
 go_wp2_with (first|((with_reducible first|refine cM (HA.out _) ?_|refine wU ?_);clear k m;intro w m k)|((with_reducible refine lF (fun w k=>⟨rfl,?_⟩));rw[←HE.out];simp[results,Tryz.results183,go_sem,k]))
 all_goals first|rfl|(clear k m;go_tidy;grind)|trace_state
theorem qMeet (a b:Iv) (w:World) :
  Calls Tryz.prog 134 #[ivV a,ivV b] w fun e w'=>e=.returned (meetV (meetI a b))∧Only [] w w':=by
 obtain⟨al,ah⟩:=a;obtain⟨bl,bh⟩:=b;have HA:=Lib.hid (qDCheck ⟨al,ah⟩);have HB:=Lib.hid (qDCheck ⟨bl,bh⟩);obtain⟨res,HE⟩:∃ r,Hid (meetI ⟨al,ah⟩ ⟨bl,bh⟩=r):=⟨_,Lib.hid rfl⟩;rw[HE.out];unfold meetI at HE;generalize ivOk ⟨al,ah⟩=oka at HA HE;generalize ivOk ⟨bl,bh⟩=okb at HB HE;unfold ivV at HA HB ⊢;dsimp only at HA HB HE ⊢;have m:=mm0 w [];have k:=m.out.k;go_enter Tryz.func134,Tryz.ntmps134
 go_wp2_with (first|((with_reducible first|refine cM (HA.out _) ?_|refine cM (HB.out _) ?_|refine wU ?_);clear k m;intro w m k)|((with_reducible refine lF (fun w k=>⟨rfl,?_⟩));rw[←HE.out];simp[results,Tryz.results134,go_sem,k]))
 all_goals first|rfl|(clear k m;go_tidy;grind [meetV])|trace_state
end
section
open Go.Lib (hid)
set_option maxRecDepth 100000
set_option maxHeartbeats 4000000
open Go.RowKit
theorem qElapsed (raw tol:Int) (w:World) :
  Calls Tryz.prog 182 #[.int .i64 raw,.int .i64 tol] w fun e w'=>e=.returned (.tuple (if elOk raw tol=true then #[.int .i64 (elLo raw tol),.int .i64 (elHi raw tol),.int .i64 0] else #[.int .i64 0,.int .i64 0,.int .i64 3]))∧Only [] w w':=by
 by_cases h0:raw<0
 ·have a0:decide (raw<0)=true:=decide_eq_true h0
  rw[show elOk raw tol=false from by unfold elOk;rw[decide_eq_false_iff_not];omega];have m:=mm0 w [];have k:=m.out.k;go_enter Tryz.func182,Tryz.ntmps182
  go_wp2_with (first|((with_reducible refine wU ?_);clear k m;intro w m k)|((with_reducible refine lE (fun w o g k K hK=>⟨rfl,?_⟩));simp[results,Tryz.results182,go_sem];refine hK _ ?_;exact⟨rfl,o⟩))
 ·have a0:decide (raw<0)=false:=decide_eq_false h0
  by_cases h1:2251799813685248<raw
  ·have a1:decide (2251799813685248<raw)=true:=decide_eq_true h1
   rw[show elOk raw tol=false from by unfold elOk;rw[decide_eq_false_iff_not];omega];have m:=mm0 w [];have k:=m.out.k;go_enter Tryz.func182,Tryz.ntmps182
   go_wp2_with (first|((with_reducible refine wU ?_);clear k m;intro w m k)|((with_reducible refine lE (fun w o g k K hK=>⟨rfl,?_⟩));simp[results,Tryz.results182,go_sem];refine hK _ ?_;exact⟨rfl,o⟩))
  ·have a1:decide (2251799813685248<raw)=false:=decide_eq_false h1
   by_cases h2:tol<0
   ·have a2:decide (tol<0)=true:=decide_eq_true h2
    rw[show elOk raw tol=false from by unfold elOk;rw[decide_eq_false_iff_not];omega];have m:=mm0 w [];have k:=m.out.k;go_enter Tryz.func182,Tryz.ntmps182
    go_wp2_with (first|((with_reducible refine wU ?_);clear k m;intro w m k)|((with_reducible refine lE (fun w o g k K hK=>⟨rfl,?_⟩));simp[results,Tryz.results182,go_sem];refine hK _ ?_;exact⟨rfl,o⟩))
   ·have a2:decide (tol<0)=false:=decide_eq_false h2
    by_cases h3:500000<tol
    ·have a3:decide (500000<tol)=true:=decide_eq_true h3
     rw[show elOk raw tol=false from by unfold elOk;rw[decide_eq_false_iff_not];omega];have m:=mm0 w [];have k:=m.out.k;go_enter Tryz.func182,Tryz.ntmps182
     go_wp2_with (first|((with_reducible refine wU ?_);clear k m;intro w m k)|((with_reducible refine lE (fun w o g k K hK=>⟨rfl,?_⟩));simp[results,Tryz.results182,go_sem];refine hK _ ?_;exact⟨rfl,o⟩))
    ·have a3:decide (500000<tol)=false:=decide_eq_false h3
     have hok:elOk raw tol=true:=elOk_iff.2 (by omega);have hl:=lo_bd hok;have hh:=hi_bd hok;have HE:Hid (elLo raw tol=max 0 ((raw-1)*1000000000 / (1000000000+tol)+1)∧elHi raw tol= -(-(raw+1)*1000000000 / (1000000000-tol))-1):=hid ⟨rfl,rfl⟩;have HM1:=hid (fun w'=>o_same (rmuldiv (raw-1) 1000000000 (1000000000+tol) w' (by omega) (by omega) (by omega) (by omega) (by omega) (by omega)));have HM2:=hid (fun w'=>o_same (rmuldiv (-(raw+1)) 1000000000 (1000000000-tol) w' (by omega) (by omega) (by omega) (by omega) (by omega) (by omega)));generalize (raw-1)*1000000000 / (1000000000+tol)=x1 at hl HE HM1;generalize -(raw+1)*1000000000 / (1000000000-tol)=x2 at hh HE HM2;rw[orZ_yes (by omega) (by omega),inI_yes (by omega) (by omega)] at HM1 HM2;rw[hok];generalize elLo raw tol=y1 at HE ⊢;generalize elHi raw tol=y2 at HE ⊢;obtain⟨l1,l2⟩:=hl;obtain⟨g1,g2⟩:=hh;have r1:IntKind.i64.wrap (raw-1)=raw-1:=by rw[IntKind.wrap_i64];omega
     have r2:IntKind.i64.wrap (raw+1)=raw+1:=by rw[IntKind.wrap_i64];omega
     have r3:IntKind.i64.wrap (-(raw+1))= -(raw+1):=by rw[IntKind.wrap_i64];omega
     have r4:IntKind.i64.wrap (1000000000+tol)=1000000000+tol:=by rw[IntKind.wrap_i64];omega
     have r5:IntKind.i64.wrap (1000000000-tol)=1000000000-tol:=by rw[IntKind.wrap_i64];omega
     have r6:IntKind.i64.wrap (x1+1)=x1+1:=by rw[IntKind.wrap_i64];omega
     have r7:IntKind.i64.wrap (-x2)= -x2:=by rw[IntKind.wrap_i64];omega
     have r8:IntKind.i64.wrap (-x2-1)= -x2-1:=by rw[IntKind.wrap_i64];omega
     clear hok;have m:=mm0 w [];have k:=m.out.k;go_enter Tryz.func182,Tryz.ntmps182
     go_wp2_with (first|((with_reducible first|refine cM (HM1.out _) ?_|refine cM (HM2.out _) ?_|refine wU ?_);clear k m;intro w m k)|((with_reducible refine lE (fun w o g k K hK=>⟨rfl,?_⟩));simp[results,Tryz.results182,go_sem];refine hK _ ?_;exact⟨by rw[HE.out.1,HE.out.2];rfl,o⟩))
theorem qAge (x:Iv) (raw tol:Int) (w:World) :
  Calls Tryz.prog 185 #[ivV x,.int .i64 raw,.int .i64 tol] w fun e w'=>e=.returned (.tuple #[ivV (ageI x raw tol).1,.int .i64 (ageI x raw tol).2])∧Only [] w w':=by
 obtain⟨lo,hi⟩:=x;have HC:=hid (fun w'=>qDCheck ⟨lo,hi⟩ w');have HE:=hid (fun w'=>qElapsed raw tol w');have hib:=fun h=>ivOk_iff.1 (show ivOk ⟨lo,hi⟩=true from h);have heb:=fun h=>el_bd (show elOk raw tol=true from h);have HR:Hid (ageI ⟨lo,hi⟩ raw tol=if ivOk ⟨lo,hi⟩=true then (if elOk raw tol=true then ckd (lo+elLo raw tol) (hi+elHi raw tol) else (⟨0,0⟩,3)) else (⟨0,0⟩,2)):=hid rfl;generalize ageI ⟨lo,hi⟩ raw tol=res at HR ⊢;have HV:=hid (fun w'=>qValid (lo+elLo raw tol) (hi+elHi raw tol) w');generalize ckd (lo+elLo raw tol) (hi+elHi raw tol)=cv at HV HR;generalize hia:ivOk ⟨lo,hi⟩=oka at HC HR hib;generalize elOk raw tol=oke at HE HR heb;generalize elLo raw tol=el at *;generalize elHi raw tol=eh at *;clear hia;obtain⟨⟨c1,c2⟩,ce⟩:=cv;unfold ivV at HC HV ⊢;dsimp only at HC HV ⊢
 cases oka with
 | false =>
  obtain rfl:res=(⟨0,0⟩,2):=by have:=HR.out;simpa using this
  clear HR hib heb HE HV;have m:=mm0 w [];have k:=m.out.k;go_enter Tryz.func185,Tryz.ntmps185
  go_wp2_with (first|((with_reducible first|refine cM (HC.out _) ?_|refine wU ?_);clear k m;intro w m k)|((with_reducible refine lE (fun w o g k K hK=>⟨rfl,?_⟩));simp[results,Tryz.results185,go_sem,k];refine hK _ ?_;exact⟨rfl,o⟩))
 | true =>
  cases oke with
  | false =>
   obtain rfl:res=(⟨0,0⟩,3):=by have:=HR.out;simpa using this
   clear HR hib heb HV;have m:=mm0 w [];have k:=m.out.k;go_enter Tryz.func185,Tryz.ntmps185
   go_wp2_with (first|((with_reducible first|refine cM (HC.out _) ?_|refine cM (HE.out _) ?_|refine wU ?_);clear k m;intro w m k)|((with_reducible refine lE (fun w o g k K hK=>⟨rfl,?_⟩));simp[results,Tryz.results185,go_sem,k];refine hK _ ?_;exact⟨rfl,o⟩))
  | true =>
   obtain rfl:res=(⟨c1,c2⟩,ce):=by have:=HR.out;simpa using this
   obtain⟨i1,i2,i3⟩:=hib rfl;obtain⟨e1,e2,e3,e4⟩:=heb rfl;dsimp only at i1 i2 i3;have r1:IntKind.i64.wrap (lo+el)=lo+el:=by rw[IntKind.wrap_i64];omega
   have r2:IntKind.i64.wrap (hi+eh)=hi+eh:=by rw[IntKind.wrap_i64];omega
   have r3:IntKind.i64.wrap (hi+eh-0)=hi+eh:=by rw[IntKind.wrap_i64];omega
   have r4:decide (eh<0)=false:=decide_eq_false (by omega);clear HR hib heb i1 i2 i3 e1 e2 e3 e4;have m:=mm0 w [];have k:=m.out.k;go_enter Tryz.func185,Tryz.ntmps185
   go_wp2_with (first|((with_reducible first|refine cM (HC.out _) ?_|refine cM (HE.out _) ?_|refine cM (HV.out _) ?_|refine wU ?_);clear k m;intro w m k)|((with_reducible refine lE (fun w o g k K hK=>⟨rfl,?_⟩));simp[results,Tryz.results185,go_sem,k];refine hK _ ?_;exact⟨rfl,o⟩))
theorem qTrip (x:Iv) (raw tol:Int) (w:World) :
  Calls Tryz.prog 105 #[ivV x,.int .i64 raw,.int .i64 0,.int .i64 tol] w fun e w'=>e=.returned (.tuple #[ivV (tripI x raw tol).1,.int .i64 (tripI x raw tol).2])∧Only [] w w':=by
 obtain⟨lo,hi⟩:=x;have HC:=hid (fun w'=>qDCheck ⟨lo,hi⟩ w');have HE:=hid (fun w'=>qElapsed raw tol w');have hib:=fun h=>ivOk_iff.1 (show ivOk ⟨lo,hi⟩=true from h);have heb:=fun h=>el_bd (show elOk raw tol=true from h);have HR:Hid (tripI ⟨lo,hi⟩ raw tol=if ivOk ⟨lo,hi⟩=true then (if elOk raw tol=true then ckd (lo) (hi+elHi raw tol) else (⟨0,0⟩,3)) else (⟨0,0⟩,2)):=hid rfl;generalize tripI ⟨lo,hi⟩ raw tol=res at HR ⊢;have HV:=hid (fun w'=>qValid (lo) (hi+elHi raw tol) w');generalize ckd (lo) (hi+elHi raw tol)=cv at HV HR;generalize hia:ivOk ⟨lo,hi⟩=oka at HC HR hib;generalize elOk raw tol=oke at HE HR heb;generalize elLo raw tol=el at *;generalize elHi raw tol=eh at *;clear hia;obtain⟨⟨c1,c2⟩,ce⟩:=cv;unfold ivV at HC HV ⊢;dsimp only at HC HV ⊢
 cases oka with
 | false =>
  obtain rfl:res=(⟨0,0⟩,2):=by have:=HR.out;simpa using this
  clear HR hib heb HE HV;have m:=mm0 w [];have k:=m.out.k;go_enter Tryz.func105,Tryz.ntmps105
  go_wp2_with (first|((with_reducible first|refine cM (HC.out _) ?_|refine wU ?_);clear k m;intro w m k)|((with_reducible refine lE (fun w o g k K hK=>⟨rfl,?_⟩));simp[results,Tryz.results105,go_sem,k];refine hK _ ?_;exact⟨rfl,o⟩))
 | true =>
  cases oke with
  | false =>
   obtain rfl:res=(⟨0,0⟩,3):=by have:=HR.out;simpa using this
   clear HR hib heb HV;have m:=mm0 w [];have k:=m.out.k;go_enter Tryz.func105,Tryz.ntmps105
   go_wp2_with (first|((with_reducible first|refine cM (HC.out _) ?_|refine cM (HE.out _) ?_|refine wU ?_);clear k m;intro w m k)|((with_reducible refine lE (fun w o g k K hK=>⟨rfl,?_⟩));simp[results,Tryz.results105,go_sem,k];refine hK _ ?_;exact⟨rfl,o⟩))
  | true =>
   obtain rfl:res=(⟨c1,c2⟩,ce):=by have:=HR.out;simpa using this
   obtain⟨i1,i2,i3⟩:=hib rfl;obtain⟨e1,e2,e3,e4⟩:=heb rfl;dsimp only at i1 i2 i3;have r1:IntKind.i64.wrap (lo+el)=lo+el:=by rw[IntKind.wrap_i64];omega
   have r2:IntKind.i64.wrap (hi+eh)=hi+eh:=by rw[IntKind.wrap_i64];omega
   have r3:IntKind.i64.wrap (hi+eh-0)=hi+eh:=by rw[IntKind.wrap_i64];omega
   have r4:decide (eh<0)=false:=decide_eq_false (by omega);clear HR hib heb i1 i2 i3 e1 e2 e3 e4;have m:=mm0 w [];have k:=m.out.k;go_enter Tryz.func105,Tryz.ntmps105
   go_wp2_with (first|((with_reducible first|refine cM (HC.out _) ?_|refine cM (HE.out _) ?_|refine cM (HV.out _) ?_|refine wU ?_);clear k m;intro w m k)|((with_reducible refine lE (fun w o g k K hK=>⟨rfl,?_⟩));simp[results,Tryz.results105,go_sem,k];refine hK _ ?_;exact⟨rfl,o⟩))
end
section
open Go.Lib (hid)
set_option maxRecDepth 100000
set_option maxHeartbeats 4000000
open Go.RowKit
theorem qIsTime (n:Int) (w:World) :
  Calls Tryz.prog 109 #[.int .i64 n] w fun e w'=>e=.returned (.bool (isT n))∧Only [] w w':=by
 obtain⟨res,HE⟩:∃ r,Hid (isT n=r):=⟨_,hid rfl⟩;rw[HE.out];unfold isT wth at HE;have m:=mm0 w [];have k:=m.out.k;go_enter Tryz.func109,Tryz.ntmps109
 go_wp2_with (first|((with_reducible refine wU ?_);clear k m;intro w m k)|((with_reducible refine lE (fun w o g k K hK=>⟨rfl,?_⟩));simp[results,Tryz.results109,go_sem];refine hK _ ?_;clear hK K k;rw[←HE.out];(go_tidy;grind)))
theorem qIsTol (n:Int) (w:World) :
  Calls Tryz.prog 110 #[.int .i64 n] w fun e w'=>e=.returned (.bool (isTl n))∧Only [] w w':=by
 obtain⟨res,HE⟩:∃ r,Hid (isTl n=r):=⟨_,hid rfl⟩;rw[HE.out];unfold isTl wth at HE;have m:=mm0 w [];have k:=m.out.k;go_enter Tryz.func110,Tryz.ntmps110
 go_wp2_with (first|((with_reducible refine wU ?_);clear k m;intro w m k)|((with_reducible refine lE (fun w o g k K hK=>⟨rfl,?_⟩));simp[results,Tryz.results110,go_sem];refine hK _ ?_;clear hK K k;rw[←HE.out];(go_tidy;grind)))
theorem qGrowth (d tol:Int) (h0:0≤d) (h1:d≤9007199254740992) (h2:0≤tol) (h3:tol≤500000) (w:World) :
  Calls Tryz.prog 112 #[.int .i64 d,.int .i64 tol] w fun e w'=>e=.returned (.int .i64 (grwS d tol))∧Only [] w w':=by
 have hm:=md_bd (a:=tol) (b:=-d) (c:=1000000000) h2 (by omega) (by omega);have HE:Hid (grwS d tol= -(-d*tol / 1000000000)):=hid rfl;have HM:=hid (fun w'=>o_same (rmuldiv (-d) tol 1000000000 w' (by omega) (by omega) (by omega) (by omega) (by omega) (by omega)));rw[Int.mul_comm tol] at hm
 have hb: -9007199254740992≤ -d*tol / 1000000000∧ -d*tol / 1000000000≤0:=by
  by_cases hn: -d<0
  ·have:=hm.2 hn;omega
  ·have:=hm.1 (by omega);omega
 generalize -d*tol / 1000000000=q at HM HE hb;rw[orZ_yes (by omega) (by omega),inI_yes (by omega) (by omega)] at HM;have r1:IntKind.i64.wrap (-d)= -d:=by rw[IntKind.wrap_i64];omega
 have r2:IntKind.i64.wrap (-q)= -q:=by rw[IntKind.wrap_i64];omega
 clear hm;have m:=mm0 w [];have k:=m.out.k;go_enter Tryz.func112,Tryz.ntmps112
 go_wp2_with (first|((with_reducible first|refine cM (HM.out _) ?_|refine wU ?_);clear k m;intro w m k)|((with_reducible refine lE (fun w o g k K hK=>⟨rfl,?_⟩));simp[results,Tryz.results112,go_sem];refine hK _ ?_;exact⟨by rw[HE.out],o⟩))
theorem qSChk (s:Smp) (w:World) :
  Calls Tryz.prog 113 #[smV s] w fun e w'=>e=.returned (.int .i64 (schk s))∧Only [] w w':=by
 obtain⟨a,b,c,d⟩:=s;obtain⟨res,HE⟩:∃ r,Hid (schk ⟨a,b,c,d⟩=r):=⟨_,hid rfl⟩;rw[HE.out];unfold schk at HE;dsimp only at HE;have H1:=hid (fun w'=>qIsTime a w');have H2:=hid (fun w'=>qIsTime d w');generalize isT a=t1 at H1 HE;generalize isT d=t2 at H2 HE;unfold isSp wth at HE;unfold smV;dsimp only;have m:=mm0 w [];have k:=m.out.k;go_enter Tryz.func113,Tryz.ntmps113
 go_wp2_with (first|((with_reducible first|refine cM (H1.out _) ?_|refine cM (H2.out _) ?_|refine wU ?_);clear k m;intro w m k)|((with_reducible refine lE (fun w o g k K hK=>⟨rfl,?_⟩));simp[results,Tryz.results113,go_sem];refine hK _ ?_;clear hK K k;rw[←HE.out];(go_tidy;grind)))
theorem qSDist (s:Smp) (w:World) :
  Calls Tryz.prog 80 #[smV s] w fun e w'=>e=.returned (.int .i64 (sdist s))∧Only [] w w':=by
 obtain⟨a,b,c,d⟩:=s;have HC:=hid (fun w'=>qSChk ⟨a,b,c,d⟩ w');have hb:=fun h=>schk_ok.1 (show schk ⟨a,b,c,d⟩=0 from h);have HE:Hid (sdist ⟨a,b,c,d⟩=if schk ⟨a,b,c,d⟩=0 then (b+1) / 2+c else 0):=hid rfl;generalize sdist ⟨a,b,c,d⟩=res at HE ⊢;generalize schk ⟨a,b,c,d⟩=er at HC HE hb;unfold smV at HC ⊢;dsimp only at HC hb ⊢;by_cases hz:er=0
 focus
  obtain⟨_,⟨b0,b1⟩,⟨c0,c1⟩,_⟩:=hb hz;subst hz;have q1:(b+1).tdiv 2=(b+1) / 2:=Int.tdiv_eq_ediv_of_nonneg (by omega);obtain⟨q,hq⟩:∃ q,(b+1) / 2=q:=⟨_,rfl⟩;have hqb:0≤q∧q≤4503599627370496:=by omega
  rw[hq] at HE q1;have r1:IntKind.i64.wrap (b+1)=b+1:=by rw[IntKind.wrap_i64];omega
  have r2:IntKind.i64.wrap q=q:=by rw[IntKind.wrap_i64];omega
  have r3:IntKind.i64.wrap (q+c)=q+c:=by rw[IntKind.wrap_i64];omega
  obtain rfl:res=q+c:=by rw[HE.out,if_pos rfl]
  clear HE hb hq hqb b0 b1 c0 c1
 rotate_left
 focus
  have q1:(er != 0)=true:=by simpa using hz
  obtain rfl:res=0:=by rw[HE.out,if_neg hz]
  clear HE hb hz
 rotate_left
 all_goals
  have m:=mm0 w [];have k:=m.out.k;go_enter Tryz.func80,Tryz.ntmps80
  go_wp2_with (first|((with_reducible first|refine cM (HC.out _) ?_|refine wU ?_);clear k m;intro w m k)|((with_reducible refine lE (fun w o g k K hK=>⟨rfl,?_⟩));simp[results,Tryz.results80,go_sem];refine hK _ ?_;exact⟨rfl,o⟩))
theorem qOChk (r:Rot) (w:World) :
  Calls Tryz.prog 186 #[roV r] w fun e w'=>e=.returned (.int .i64 (ochk r))∧Only [] w w':=by
 obtain⟨a,b,c,d⟩:=r;obtain⟨res,HE⟩:∃ r,Hid (ochk ⟨a,b,c,d⟩=r):=⟨_,hid rfl⟩;rw[HE.out];unfold ochk isSp wth at HE;dsimp only at HE;unfold roV;dsimp only;have m:=mm0 w [];have k:=m.out.k;go_enter Tryz.func186,Tryz.ntmps186
 go_wp2_with (first|((with_reducible refine wU ?_);clear k m;intro w m k)|((with_reducible refine lE (fun w o g k K hK=>⟨rfl,?_⟩));simp[results,Tryz.results186,go_sem];refine hK _ ?_;clear hK K k;rw[←HE.out];(go_tidy;grind)))
end
end Go.Proofs.YtedgpfgccpnjnaaGreat
