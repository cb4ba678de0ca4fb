/- Texts of one chain: C1, C2, C3, Cz. Conditions: those named in each theorem. -/
import Derived.Test.YtppjhbjmfkiejaaGreatFV5
import Derived.Test.YtppjhbjmfkiejaaGreatFV6
namespace Go.Proofs.YtppjhbjmfkiejaaGreat
open IntKind (wrap_i64 wrap_u64)
open IntKind (wrap)
set_option maxRecDepth 100000
set_option maxHeartbeats 4000000
section
open Go.RowKit
def U9 (lo hi:Int):Iv × Int:=if bU ⟨lo,hi⟩=true then (⟨lo,hi⟩,0) else (⟨0,0⟩,3)
def lX (raw tol:Int):Bool:=decide (0<=raw/\raw<=2251799813685248/\0<=tol/\tol<=500000)
def zC (raw tol:Int):Int:=max 0 ((raw-1)*1000000000 / (1000000000+tol)+1)
def sS (raw tol:Int):Int:=-(-(raw+1)*1000000000 / (1000000000-tol))-1
def wJ (x:Iv) (raw tol:Int):Iv × Int:=if bU x=true then (if lX raw tol=true then U9 (x.lo+zC raw tol) (x.hi+sS raw tol) else (⟨0,0⟩,3)) else (⟨0,0⟩,2)
def qL (x:Iv) (raw tol:Int):Iv × Int:=if bU x=true then (if lX raw tol=true then U9 x.lo (x.hi+sS raw tol) else (⟨0,0⟩,3)) else (⟨0,0⟩,2)
def vW (a b:Iv):Option Iv:=if bU a=true/\bU b=true/\max a.lo b.lo<=min a.hi b.hi then some ⟨max a.lo b.lo,min a.hi b.hi⟩ else none
def F8 (x:Iv):Int:=if bU x=true then (if x.hi-x.lo<=9223372036854775807 then x.hi-x.lo else 9223372036854775807) else 0
theorem nR {x:Iv}:bU x=true↔x.lo<=x.hi/\ -8000000000000000000<=x.lo/\x.hi<=8000000000000000000:=by simp[bU]
theorem CZ {raw tol:Int}:lX raw tol=true↔0<=raw/\raw<=2251799813685248/\0<=tol/\tol<=500000:=by simp[lX]
theorem lo_bd {raw tol:Int} (h:lX raw tol=true): -1<=(raw-1)*1000000000 / (1000000000+tol)/\(raw-1)*1000000000 / (1000000000+tol)<=2251799813685248:=by
 obtain⟨h0,h1,h2,h3⟩:=CZ.1 h;constructor
 ·rw[Int.le_ediv_iff_mul_le (by omega)];omega
 ·refine Int.ediv_le_of_le_mul (by omega) ?_
  have:=Int.mul_le_mul_of_nonneg_left (a:=1000000000) (b:=1000000000+tol) (c:=2251799813685248) (by omega) (by omega);omega
theorem hi_bd {raw tol:Int} (h:lX raw tol=true): -4503599627370500<= -(raw+1)*1000000000 / (1000000000-tol)/\ -(raw+1)*1000000000 / (1000000000-tol)<= -1:=by
 obtain⟨h0,h1,h2,h3⟩:=CZ.1 h;constructor
 ·rw[Int.le_ediv_iff_mul_le (by omega)]
  have:=Int.mul_le_mul_of_nonpos_left (a:=-4503599627370500) (b:=1000000000-tol) (c:=999500000) (by omega) (by omega);omega
 ·have: -(raw+1)*1000000000 / (1000000000-tol)<0:=by
   refine Int.ediv_neg_of_neg_of_pos ?_ (by omega);omega
  omega
theorem el_bd {raw tol:Int} (h:lX raw tol=true):0<=zC raw tol/\zC raw tol<=2251799813685249/\0<=sS raw tol/\sS raw tol<=4503599627370499:=by
 have h1:=lo_bd h;have h2:=hi_bd h;unfold zC sS;omega
end
section
open Go.RowKit
theorem CG (lo hi:Int) (w:World) :
  Calls Tryz.prog 110 #[.int .i64 lo,.int .i64 hi] w fun e w'=>e=.returned (.tuple #[dV (U9 lo hi).1,.int .i64 (U9 lo hi).2])/\Oy [] w w':=by
 have HC:=aA (fun w'=>dD ⟨lo,hi⟩ w');have HR:Hid (U9 lo hi=if bU ⟨lo,hi⟩=true then (⟨lo,hi⟩,0) else (⟨0,0⟩,3)):=aA rfl;generalize U9 lo hi=res at HR |-;obtain⟨⟨r0,r1⟩,re⟩:=res
 cases hok:bU ⟨lo,hi⟩
 ·rw[hok] at HC HR
  obtain⟨⟨rfl,rfl⟩,rfl⟩:(r0=0/\r1=0)/\re=3:=by have:=HR.out;simpa using this
  unfold dV at HC |-;dsimp only at HC |-;clear HR hok;go_enter Tryz.func110,Tryz.ntmps110
  go_upto_region 2 with (fail)
  refine kZ (G:=fun w0=>Code.wp _ _ _ _ w0) (R:=fun w1=>w1.heap[w.heap.size]? = some (.cells #[.int .i64 0,.int .i64 0] 39 (0,0))/\w1.heap[w.heap.size+1]? = some (.cells #[.int .i64 lo,.int .i64 hi] 39 (0,0))/\Oy [] w w1) ?_ ?_
  ·skip
   have k0:=bG w (.cells #[.int .i64 0,.int .i64 0] 39);have k1:=bG (w.alloc (.cells #[.int .i64 0,.int .i64 0] 39)) (.cells #[.int .i64 lo,.int .i64 hi] 39);simp only[World.size_alloc] at k0 k1;exact⟨(alloc_old k0),k1,(((aR [] w).alloc _).alloc _)⟩
  rintro w1 ⟨h1,h2,ho1⟩;obtain⟨b1,hb1⟩:∃ b,w.heap.size=b:=⟨_,rfl⟩;obtain⟨b2,hb2⟩:∃ b,w.heap.size+1=b:=⟨_,rfl⟩;have HN:Hid (w.heap.size<=b1/\w.heap.size<=b2/\b1≠b2/\b2≠b1):=aA (by omega);rw[hb1] at h1;rw[hb2] at h2;rw[show w.heap.size+1=b2 from hb2,hb1];have B1:=aA h1;have B2:=aA h2;have OO:=aA ho1;clear h1 h2 hb1 hb2;clear ho1;have k1:=c_2 B1.out;have k2:=c_2 B2.out;go_wp2_with fail
  refine (HC.out _).mono ?_;rintro e w2 ⟨rfl,ho⟩;clear k1 k2;replace OO:=aA (OO.out.aB ho);replace B1:=aA (ho.got B1.out (by simp));replace B2:=aA (ho.got B2.out (by simp));clear ho;have k1:=c_2 B1.out;have k2:=c_2 B2.out;go_wp2;have HD:=aH (o:=1) (.int .i64 0) (aH (o:=0) (.int .i64 0) (B1.out));have e0:=aC HD 0;have e1:=aC HD 1;have le:=aF HD;refine bodyPost_ret (v:=.tuple #[.agg #[.int .i64 0,.int .i64 0],.int .i64 3]) (by simp[results,Tryz.results110,go_sem,e0,e1]) rfl ⟨rfl,((OO.out.setCell (.inr HN.out.1) _).setCell (.inr HN.out.1) _)⟩
 ·rw[hok] at HC HR
  obtain⟨⟨rfl,rfl⟩,rfl⟩:(r0=lo/\r1=hi)/\re=0:=by have:=HR.out;simpa using this
  unfold dV at HC |-;dsimp only at HC |-;clear HR hok;go_enter Tryz.func110,Tryz.ntmps110
  go_upto_region 2 with (fail)
  refine kZ (G:=fun w0=>Code.wp _ _ _ _ w0) (R:=fun w1=>w1.heap[w.heap.size]? = some (.cells #[.int .i64 0,.int .i64 0] 39 (0,0))/\w1.heap[w.heap.size+1]? = some (.cells #[.int .i64 r0,.int .i64 r1] 39 (0,0))/\Oy [] w w1) ?_ ?_
  ·skip
   have k0:=bG w (.cells #[.int .i64 0,.int .i64 0] 39);have k1:=bG (w.alloc (.cells #[.int .i64 0,.int .i64 0] 39)) (.cells #[.int .i64 r0,.int .i64 r1] 39);simp only[World.size_alloc] at k0 k1;exact⟨(alloc_old k0),k1,(((aR [] w).alloc _).alloc _)⟩
  rintro w1 ⟨h1,h2,ho1⟩;obtain⟨b1,hb1⟩:∃ b,w.heap.size=b:=⟨_,rfl⟩;obtain⟨b2,hb2⟩:∃ b,w.heap.size+1=b:=⟨_,rfl⟩;have HN:Hid (w.heap.size<=b1/\w.heap.size<=b2/\b1≠b2/\b2≠b1):=aA (by omega);rw[hb1] at h1;rw[hb2] at h2;rw[show w.heap.size+1=b2 from hb2,hb1];have B1:=aA h1;have B2:=aA h2;have OO:=aA ho1;clear h1 h2 hb1 hb2;clear ho1;have k1:=c_2 B1.out;have k2:=c_2 B2.out;go_wp2_with fail
  refine (HC.out _).mono ?_;rintro e w2 ⟨rfl,ho⟩;clear k1 k2;replace OO:=aA (OO.out.aB ho);replace B1:=aA (ho.got B1.out (by simp));replace B2:=aA (ho.got B2.out (by simp));clear ho;have k1:=c_2 B1.out;have k2:=c_2 B2.out;go_wp2;have HD:=aH (o:=1) (.int .i64 r1) (aH (o:=0) (.int .i64 r0) (B1.out));have e0:=aC HD 0;have e1:=aC HD 1;have le:=aF HD;refine bodyPost_ret (v:=.tuple #[.agg #[.int .i64 r0,.int .i64 r1],.int .i64 0]) (by simp[results,Tryz.results110,go_sem,e0,e1]) rfl ⟨rfl,((OO.out.setCell (.inr HN.out.1) _).setCell (.inr HN.out.1) _)⟩
theorem KG (raw tol:Int) (w:World) :
  Calls Tryz.prog 109 #[.int .i64 raw,.int .i64 tol] w fun e w'=>e=.returned (.tuple (if lX raw tol=true then #[.int .i64 (zC raw tol),.int .i64 (sS raw tol),.int .i64 0] else #[.int .i64 0,.int .i64 0,.int .i64 3]))/\Oy [] w w':=by
 by_cases h0:raw<0
 ·have a0:decide (raw<0)=true:=eY h0
  rw[show lX raw tol=false from by unfold lX;rw[decide_eq_false_iff_not];omega];go_enter Tryz.func109,Tryz.ntmps109
  have OO:=aA (aR [] w);go_wp2;go_ret3
  exact⟨rfl,OO.out⟩
 ·have a0:decide (raw<0)=false:=dL h0
  by_cases h1:2251799813685248<raw
  ·have a1:decide (2251799813685248<raw)=true:=eY h1
   rw[show lX raw tol=false from by unfold lX;rw[decide_eq_false_iff_not];omega];go_enter Tryz.func109,Tryz.ntmps109
   have OO:=aA (aR [] w);go_wp2;go_ret3
   exact⟨rfl,OO.out⟩
  ·have a1:decide (2251799813685248<raw)=false:=dL h1
   by_cases h2:tol<0
   ·have a2:decide (tol<0)=true:=eY h2
    rw[show lX raw tol=false from by unfold lX;rw[decide_eq_false_iff_not];omega];go_enter Tryz.func109,Tryz.ntmps109
    have OO:=aA (aR [] w);go_wp2;go_ret3
    exact⟨rfl,OO.out⟩
   ·have a2:decide (tol<0)=false:=dL h2
    by_cases h3:500000<tol
    ·have a3:decide (500000<tol)=true:=eY h3
     rw[show lX raw tol=false from by unfold lX;rw[decide_eq_false_iff_not];omega];go_enter Tryz.func109,Tryz.ntmps109
     have OO:=aA (aR [] w);go_wp2;go_ret3
     exact⟨rfl,OO.out⟩
    ·have a3:decide (500000<tol)=false:=dL h3
     have hok:lX raw tol=true:=CZ.2 (by omega);have hl:=lo_bd hok;have hh:=hi_bd hok;have HE:Hid (zC raw tol=max 0 ((raw-1)*1000000000 / (1000000000+tol)+1)/\sS raw tol= -(-(raw+1)*1000000000 / (1000000000-tol))-1):=aA ⟨rfl,rfl⟩;have HM1:=aA (fun w'=>j5 (mU (raw-1) 1000000000 (1000000000+tol) w' (by omega) (by omega) (by omega) (by omega) (by omega) (by omega)));have HM2:=aA (fun w'=>j5 (mU (-(raw+1)) 1000000000 (1000000000-tol) w' (by omega) (by omega) (by omega) (by omega) (by omega) (by omega)));generalize (raw-1)*1000000000 / (1000000000+tol)=x1 at hl HE HM1;generalize -(raw+1)*1000000000 / (1000000000-tol)=x2 at hh HE HM2;rw[gH (by omega) (by omega),gV (by omega) (by omega)] at HM1 HM2;rw[hok];generalize zC raw tol=y1 at HE |-;generalize sS raw tol=y2 at HE |-;obtain⟨l1,l2⟩:=hl;obtain⟨g1,g2⟩:=hh;clear hok;go_enter Tryz.func109,Tryz.ntmps109
     have OO:=aA (aR [] w);go_wp2_with fail
     refine (HM1.out _).mono ?_;rintro e w2 ⟨rfl,ho⟩;replace OO:=aA (OO.out.aB ho);clear ho;go_wp2_with fail
     refine (HM2.out _).mono ?_;rintro e w3 ⟨rfl,ho⟩;replace OO:=aA (OO.out.aB ho);clear ho;go_wp2;go_ret3
     exact⟨by rw[HE.out.1,HE.out.2];rfl,OO.out⟩
theorem pAge (x:Iv) (raw tol:Int) (w:World) :
  Calls Tryz.prog 90 #[dV x,.int .i64 raw,.int .i64 tol] w fun e w'=>e=.returned (.tuple #[dV (wJ x raw tol).1,.int .i64 (wJ x raw tol).2])/\Oy [] w w':=by
 obtain⟨lo,hi⟩:=x;have HC:=aA (fun w'=>dD ⟨lo,hi⟩ w');have HE:=aA (fun w'=>KG raw tol w');have hib:=fun h=>nR.1 (show bU ⟨lo,hi⟩=true from h);have heb:=fun h=>el_bd (show lX raw tol=true from h);have HR:Hid (wJ ⟨lo,hi⟩ raw tol=if bU ⟨lo,hi⟩=true then (if lX raw tol=true then U9 (lo+zC raw tol) (hi+sS raw tol) else (⟨0,0⟩,3)) else (⟨0,0⟩,2)):=aA rfl;generalize wJ ⟨lo,hi⟩ raw tol=res at HR |-;have HV:=aA (fun w'=>CG (lo+zC raw tol) (hi+sS raw tol) w');generalize U9 (lo+zC raw tol) (hi+sS raw tol)=cv at HV HR;generalize hia:bU ⟨lo,hi⟩=oka at HC HR hib;generalize lX raw tol=oke at HE HR heb;generalize zC raw tol=el at *;generalize sS raw tol=eh at *;clear hia;obtain⟨⟨c1,c2⟩,ce⟩:=cv;unfold dV at HC HV |-;dsimp only at HC HV |-
 cases oka with
 | false =>
  obtain rfl:res=(⟨0,0⟩,2):=by have:=HR.out;simpa using this
  clear HR hib heb HE HV;have m:=bJ w [];have k:=m.zK;go_enter Tryz.func90,Tryz.ntmps90
  go_wp2_with (first|((with_reducible first|refine cM (HC.out _) ?_|refine wU ?_);clear k m;intro w m k)|((with_reducible refine lE (fun w o g k K hK=>⟨rfl,?_⟩));simp[results,Tryz.results90,go_sem,k];refine hK _ ?_;exact⟨rfl,o⟩))
 | true =>
  cases oke with
  | false =>
   obtain rfl:res=(⟨0,0⟩,3):=by have:=HR.out;simpa using this
   clear HR hib heb HV;have m:=bJ w [];have k:=m.zK;go_enter Tryz.func90,Tryz.ntmps90
   go_wp2_with (first|((with_reducible first|refine cM (HC.out _) ?_|refine cM (HE.out _) ?_|refine wU ?_);clear k m;intro w m k)|((with_reducible refine lE (fun w o g k K hK=>⟨rfl,?_⟩));simp[results,Tryz.results90,go_sem,k];refine hK _ ?_;exact⟨rfl,o⟩))
  | true =>
   obtain rfl:res=(⟨c1,c2⟩,ce):=by have:=HR.out;simpa using this
   obtain⟨i1,i2,i3⟩:=hib rfl;obtain⟨e1,e2,e3,e4⟩:=heb rfl;dsimp only at i1 i2 i3;have r1:wrap .i64 (lo+el)=lo+el:=by rw[wrap_i64];omega
   have r2:wrap .i64 (hi+eh)=hi+eh:=by rw[wrap_i64];omega
   have r3:wrap .i64 (hi+eh-0)=hi+eh:=by rw[wrap_i64];omega
   have r4:decide (eh<0)=false:=dL (by omega);clear HR hib heb i1 i2 i3 e1 e2 e3 e4;have m:=bJ w [];have k:=m.zK;go_enter Tryz.func90,Tryz.ntmps90
   go_wp2_with (first|((with_reducible first|refine cM (HC.out _) ?_|refine cM (HE.out _) ?_|refine cM (HV.out _) ?_|refine wU ?_);clear k m;intro w m k)|((with_reducible refine lE (fun w o g k K hK=>⟨rfl,?_⟩));simp[results,Tryz.results90,go_sem,k];refine hK _ ?_;exact⟨rfl,o⟩))
theorem pTrip (x:Iv) (raw tol:Int) (w:World) :
  Calls Tryz.prog 244 #[dV x,.int .i64 raw,.int .i64 0,.int .i64 tol] w fun e w'=>e=.returned (.tuple #[dV (qL x raw tol).1,.int .i64 (qL x raw tol).2])/\Oy [] w w':=by
 obtain⟨lo,hi⟩:=x;have HC:=aA (fun w'=>dD ⟨lo,hi⟩ w');have HE:=aA (fun w'=>KG raw tol w');have hib:=fun h=>nR.1 (show bU ⟨lo,hi⟩=true from h);have heb:=fun h=>el_bd (show lX raw tol=true from h);have HR:Hid (qL ⟨lo,hi⟩ raw tol=if bU ⟨lo,hi⟩=true then (if lX raw tol=true then U9 (lo) (hi+sS raw tol) else (⟨0,0⟩,3)) else (⟨0,0⟩,2)):=aA rfl;generalize qL ⟨lo,hi⟩ raw tol=res at HR |-;have HV:=aA (fun w'=>CG (lo) (hi+sS raw tol) w');generalize U9 (lo) (hi+sS raw tol)=cv at HV HR;generalize hia:bU ⟨lo,hi⟩=oka at HC HR hib;generalize lX raw tol=oke at HE HR heb;generalize zC raw tol=el at *;generalize sS raw tol=eh at *;clear hia;obtain⟨⟨c1,c2⟩,ce⟩:=cv;unfold dV at HC HV |-;dsimp only at HC HV |-
 cases oka with
 | false =>
  obtain rfl:res=(⟨0,0⟩,2):=by have:=HR.out;simpa using this
  clear HR hib heb HE HV;have m:=bJ w [];have k:=m.zK;go_enter Tryz.func244,Tryz.ntmps244
  go_wp2_with (first|((with_reducible first|refine cM (HC.out _) ?_|refine wU ?_);clear k m;intro w m k)|((with_reducible refine lE (fun w o g k K hK=>⟨rfl,?_⟩));simp[results,Tryz.results244,go_sem,k];refine hK _ ?_;exact⟨rfl,o⟩))
 | true =>
  cases oke with
  | false =>
   obtain rfl:res=(⟨0,0⟩,3):=by have:=HR.out;simpa using this
   clear HR hib heb HV;have m:=bJ w [];have k:=m.zK;go_enter Tryz.func244,Tryz.ntmps244
   go_wp2_with (first|((with_reducible first|refine cM (HC.out _) ?_|refine cM (HE.out _) ?_|refine wU ?_);clear k m;intro w m k)|((with_reducible refine lE (fun w o g k K hK=>⟨rfl,?_⟩));simp[results,Tryz.results244,go_sem,k];refine hK _ ?_;exact⟨rfl,o⟩))
  | true =>
   obtain rfl:res=(⟨c1,c2⟩,ce):=by have:=HR.out;simpa using this
   obtain⟨i1,i2,i3⟩:=hib rfl;obtain⟨e1,e2,e3,e4⟩:=heb rfl;dsimp only at i1 i2 i3;have r1:wrap .i64 (lo+el)=lo+el:=by rw[wrap_i64];omega
   have r2:wrap .i64 (hi+eh)=hi+eh:=by rw[wrap_i64];omega
   have r3:wrap .i64 (hi+eh-0)=hi+eh:=by rw[wrap_i64];omega
   have r4:decide (eh<0)=false:=dL (by omega);clear HR hib heb i1 i2 i3 e1 e2 e3 e4;have m:=bJ w [];have k:=m.zK;go_enter Tryz.func244,Tryz.ntmps244
   go_wp2_with (first|((with_reducible first|refine cM (HC.out _) ?_|refine cM (HE.out _) ?_|refine cM (HV.out _) ?_|refine wU ?_);clear k m;intro w m k)|((with_reducible refine lE (fun w o g k K hK=>⟨rfl,?_⟩));simp[results,Tryz.results244,go_sem,k];refine hK _ ?_;exact⟨rfl,o⟩))
end
section
open Go.RowKit
def bZ (n lo hi:Int):Bool:=decide (lo<=n) && decide (n<=hi)
theorem aY {n lo hi:Int}:bZ n lo hi=true↔lo<=n/\n<=hi:=by simp[bZ]
theorem oG {n lo hi:Int}:bZ n lo hi=false↔¬ (lo<=n/\n<=hi):=by rw[<-aY];simp
structure MC where
 bits:Int
 poll:Int
 mn:Int
 mx:Int
 cnt:Int
deriving DecidableEq,Inhabited
def JY (r:MC):Value:=.agg #[.int .i64 r.bits,.int .i64 r.poll,.int .i64 r.mn,.int .i64 r.mx,.int .i64 r.cnt]
def mZ (r:MC):Int:=if bZ r.bits 0 255 && (bZ r.mn 3 17 && bZ r.mx 3 17) then (if r.mx<r.mn then 12 else if bZ r.poll r.mn r.mx && bZ r.cnt (-30) 30 then 0 else 3) else 3
def rc0:MC:=⟨0,0,0,0,0⟩
def oM (r:MC):MC:=if mZ r=0 then { r with bits:=r.bits*2 % 256 } else rc0
def JZ (r:MC):MC:=if mZ r=0 then { r with poll:=min (r.poll+2) r.mx,cnt:=0 } else rc0
def BK (r:MC):Bool:=decide (mZ r=0) && !decide (r.bits=0)
def BJ (off jit:Int):Bool:=decide ((off.natAbs:Int) / 4<max jit 0)
def BM (r:MC) (off jit:Int):MC:=if mZ r=0 then (if BJ off jit=true then (if 30<r.cnt+r.poll then { r with cnt:=0,poll:=min (r.poll+1) r.mx } else { r with cnt:=r.cnt+r.poll }) else (if r.cnt-2*r.poll < -30 then { r with cnt:=0,poll:=max (r.poll-1) r.mn } else { r with cnt:=r.cnt-2*r.poll })) else rc0
theorem rchk_ok {r:MC}:mZ r=0↔(0<=r.bits/\r.bits<=255)/\(3<=r.mn/\r.mn<=17)/\(3<=r.mx/\r.mx<=17)/\r.mn<=r.mx/\(r.mn<=r.poll/\r.poll<=r.mx)/\ -30<=r.cnt/\r.cnt<=30:=by
 unfold mZ;simp only[Bool.and_eq_true,aY];split
 ·split
  ·constructor
   ·intro h;cases h
   ·intro h;omega
  ·split
   ·constructor
    ·intro _;omega
    ·intro _;rfl
   ·constructor
    ·intro h;cases h
    ·intro h;omega
 ·constructor
  ·intro h;cases h
  ·intro h;omega
structure iU where
 off:Int
 dly:Int
 dsp:Int
 tat:Int
deriving DecidableEq,Inhabited
def jX (s:iU):List Value:=[.int .i64 s.off,.int .i64 s.dly,.int .i64 s.dsp,.int .i64 s.tat]
def wV (s:iU):Value:=.agg #[.int .i64 s.off,.int .i64 s.dly,.int .i64 s.dsp,.int .i64 s.tat]
theorem iJ (s:iU):(jX s).length=4:=rfl
def fQ (t:Int):Bool:=bZ t (-4503599627370496) 4503599627370496
def isSp (t:Int):Bool:=bZ t 0 9007199254740992
def zB (t:Int):Bool:=bZ t 0 500000
def gJ (s:iU):Int:=if fQ s.off && (isSp s.dly && (isSp s.dsp && fQ s.tat)) then 0 else 3
def vG:iU:=⟨0,0,0,0⟩
theorem rW {s:iU}:gJ s=0↔(-4503599627370496<=s.off/\s.off<=4503599627370496)/\(0<=s.dly/\s.dly<=9007199254740992)/\(0<=s.dsp/\s.dsp<=9007199254740992)/\ -4503599627370496<=s.tat/\s.tat<=4503599627370496:=by
 unfold gJ fQ isSp;simp only[Bool.and_eq_true,aY];split
 ·exact⟨fun _=>by omega,fun _=>rfl⟩
 ·exact⟨fun h=>absurd h (by decide),fun h=>by omega⟩
theorem vK (s:iU):gJ s=0\/gJ s=3:=by unfold gJ;split<;>simp
def oV (d tol:Int):Int:=-(-d*tol / 1000000000)
theorem aAb {d tol:Int} (h0:0<=d) (h1:d<=9007199254740992) (h2:0<=tol) (h3:tol<=500000):0<=oV d tol/\oV d tol<=d:=by
 unfold oV;have hm:=md_bd (a:=tol) (b:=-d) (c:=1000000000) h2 (by omega) (by omega);rw[Int.mul_comm] at hm;by_cases hd:d=0
 ·subst hd;simp
 ·have:=hm.2 (by omega);omega
structure Qd where
 t1:Int
 t2:Int
 t3:Int
 t4:Int
deriving DecidableEq,Inhabited
def sofR (q:Qd) (prec tol:Int):iU:=⟨((q.t2-q.t1)+(q.t3-q.t4)) / 2,max prec (q.t4-q.t1-(q.t3-q.t2)),prec+oV (q.t4-q.t1) tol,q.t4⟩
def sof (q:Qd) (prec tol:Int):iU × Int:=
 if fQ q.t1 && (fQ q.t2 && (fQ q.t3 && fQ q.t4)) then
  (if bZ prec 1 1000000000 && zB tol then
   (if q.t4<q.t1\/q.t3<q.t2 then (vG,12) else (if gJ (sofR q prec tol)=0 then (sofR q prec tol,0) else (vG,3)))
  else (vG,3))
 else (vG,3)
def yC (s:iU):Int:=if gJ s=0 then (s.dly+1) / 2+s.dsp else 0
def vH (s:iU) (now tol:Int):iU × Int:=
 if gJ s=0 then (if fQ now && zB tol then (if now<s.tat then (vG,12) else (if gJ ⟨s.off,s.dly,s.dsp+oV (now-s.tat) tol,now⟩=0 then (⟨s.off,s.dly,s.dsp+oV (now-s.tat) tol,now⟩,0) else (vG,3))) else (vG,3)) else (vG,3)
structure FX where
 str:Int
 dly:Int
 dsp:Int
 ref:Int
deriving DecidableEq,Inhabited
def JK (r:FX):Value:=.agg #[.int .i64 r.str,.int .i64 r.dly,.int .i64 r.dsp,.int .u32 r.ref]
def MH:FX:=⟨0,0,0,0⟩
def lQ (r:FX):Int:=if bZ r.str 1 16 && (isSp r.dly && isSp r.dsp) then 0 else 3
structure Np where
 leap:Int
 ver:Int
 mode:Int
 strat:Int
 poll:Int
 prec:Int
 rdel:Int
 rdsp:Int
 rid:Int
 ref:Int
 org:Int
 rcv:Int
 xmt:Int
deriving DecidableEq,Inhabited
def iR (p:Np):Value:=.agg #[.int .i64 p.leap,.int .i64 p.ver,.int .i64 p.mode,.int .i64 p.strat,.int .i64 p.poll,.int .i64 p.prec,.int .u32 p.rdel,.int .u32 p.rdsp,.int .u32 p.rid,.int .u64 p.ref,.int .u64 p.org,.int .u64 p.rcv,.int .u64 p.xmt]
def zA:Np:=⟨0,0,0,0,0,0,0,0,0,0,0,0,0⟩
def fA (p:Np):Prop:=(0<=p.rdel/\p.rdel<=4294967295)/\(0<=p.rdsp/\p.rdsp<=4294967295)/\(0<=p.rid/\p.rid<=4294967295)/\(0<=p.org/\p.org<=18446744073709551615)/\(0<=p.rcv/\p.rcv<=18446744073709551615)/\(0<=p.xmt/\p.xmt<=18446744073709551615)/\(0<=p.ref/\p.ref<=18446744073709551615)
def qX (p:Np):Int:=if bZ p.leap 0 3 && (bZ p.ver 1 4 && (bZ p.mode 0 7 && (bZ p.strat 0 255 && (bZ p.poll (-128) 127 && bZ p.prec (-128) 127)))) then 0 else 3
def yG (p:Np):Bool:=!decide (p.leap=3) && bZ p.strat 1 15
def iO (s:Int):Int:=(s*1000000000+65535) / 65536
theorem IJ {s:Int} (h0:0<=s) (h1:s<=4294967295):0<=iO s/\iO s<=65536000000000:=by unfold iO;omega
def joinR (p:Np) (s:iU) (id:Int):FX:=⟨p.strat+1,iO p.rdel+s.dly,iO p.rdsp+s.dsp+max s.off (-s.off),id⟩
def vU (p:Np) (s:iU) (id:Int):FX × Int:=
 if qX p=0/\gJ s=0 then (if yG p=true then (if lQ (joinR p s id)=0 then (joinR p s id,0) else (MH,3)) else (MH,15)) else (MH,2)
theorem iQ {w:World} {b:Nat} {p:Addr} {o:Obj} (v:Value) (h:w.heap[b]? = some o) (hn:b≠p.block):(w.setCell p v).heap[b]? = some o:=
 (((aR [p.block] w).setCell (.inl (List.mem_singleton.2 rfl)) v).got h (by simpa using hn))
end
section
open Go.RowKit
def Q7:Option Iv->Value
 | some x=>.tuple #[.agg #[.int .i64 x.lo,.int .i64 x.hi],.bool true]
 | none=>.tuple #[.agg #[.int .i64 0,.int .i64 0],.bool false]
theorem pMeet (a b:Iv) (w:World) :
  Calls Tryz.prog 199 #[dV a,dV b] w fun e w'=>e=.returned (Q7 (vW a b))/\Oy [] w w':=by
 obtain⟨al,ah⟩:=a;obtain⟨bl,bh⟩:=b;have HA:=aA (dD ⟨al,ah⟩);have HB:=aA (dD ⟨bl,bh⟩);obtain⟨res,HE⟩:∃ r,Hid (vW ⟨al,ah⟩ ⟨bl,bh⟩=r):=⟨_,aA rfl⟩;rw[HE.out];unfold vW at HE;generalize bU ⟨al,ah⟩=oka at HA HE;generalize bU ⟨bl,bh⟩=okb at HB HE;unfold dV at HA HB |-;dsimp only at HA HB HE |-;have m:=bJ w [];have k:=m.zK;go_enter Tryz.func199,Tryz.ntmps199
 go_wp2_with (first|((with_reducible first|refine cM (HA.out _) ?_|refine cM (HB.out _) ?_|refine wU ?_);clear k m;intro w m k)|((with_reducible refine lF (fun w k=>⟨rfl,?_⟩));rw[<-HE.out];simp[results,Tryz.results199,go_sem,k]))
 all_goals first|rfl|(clear k m;go_tidy;grind [Q7])|trace_state
theorem X8 (x:Iv) (w:World) :
  Calls Tryz.prog 245 #[dV x] w fun e w'=>e=.returned (.int .i64 (F8 x))/\Oy [] w w':=by
 obtain⟨lo,hi⟩:=x;have HA:=aA (fun w'=>dD ⟨lo,hi⟩ w');have hib:=fun h=>nR.1 (show bU ⟨lo,hi⟩=true from h);have HR:Hid (F8 ⟨lo,hi⟩=if bU ⟨lo,hi⟩=true then (if hi-lo<=9223372036854775807 then hi-lo else 9223372036854775807) else 0):=aA rfl;generalize F8 ⟨lo,hi⟩=res at HR |-
 cases hok:bU ⟨lo,hi⟩
 focus
  rw[hok] at HA HR;obtain rfl:res=0:=by have:=HR.out;simpa using this
  unfold dV at HA |-;dsimp only at HA |-;clear HR hib hok;go_enter Tryz.func245,Tryz.ntmps245
  go_upto_region 1 with (fail)
  refine aG (G:=fun w0=>Code.wp _ _ _ _ w0) ?_;intro w1 hb1 ho1 hs1;obtain⟨b1,hbe1⟩:∃ b,w.heap.size=b:=⟨_,rfl⟩;rw[hbe1] at hb1;rw[hbe1];have HN:Hid (w.heap.size<=b1):=aA (by omega);have B1:=aA hb1;have OO:=aA ho1;clear hb1 hs1 hbe1;clear ho1;have k1:=c_2 B1.out;go_wp2_with fail
  refine (HA.out _).mono ?_;rintro e w2 ⟨rfl,ho⟩
 rotate_left
 focus
  obtain⟨i0,i1,i2⟩:=hib hok;rw[hok] at HA HR;dsimp only at i0 i1 i2;have HS:=aA (fun w'=>jH (fsub hi lo w' (by omega) (by omega) (by omega) (by omega)));unfold dV at HA |-;dsimp only at HA |-;clear hib hok;by_cases hf:hi-lo<=9223372036854775807
  focus
   obtain rfl:res=hi-lo:=by have:=HR.out;rw[if_pos rfl,if_pos hf] at this;exact this
   rw[gH (by omega) hf,gV (by omega) hf] at HS
  rotate_left
  focus
   obtain rfl:res=9223372036854775807:=by have:=HR.out;rw[if_pos rfl,if_neg hf] at this;exact this
   rw[lM (by omega),kF (by omega)] at HS
  rotate_left
  all_goals
   clear HR;go_enter Tryz.func245,Tryz.ntmps245
   go_upto_region 1 with (fail)
   refine aG (G:=fun w0=>Code.wp _ _ _ _ w0) ?_;intro w1 hb1 ho1 hs1;obtain⟨b1,hbe1⟩:∃ b,w.heap.size=b:=⟨_,rfl⟩;rw[hbe1] at hb1;rw[hbe1];have HN:Hid (w.heap.size<=b1):=aA (by omega);have B1:=aA hb1;have OO:=aA ho1;clear hb1 hs1 hbe1;clear ho1;have k1:=c_2 B1.out;go_wp2_with fail
   refine (HA.out _).mono ?_;rintro e w2 ⟨rfl,ho⟩;clear k1;replace OO:=aA (OO.out.aB ho);replace B1:=aA (ho.got B1.out (by simp));clear ho;have k1:=c_2 B1.out;go_wp2_with fail
   refine (HS.out _).mono ?_;rintro e w3 ⟨rfl,ho⟩
 rotate_left 2
 all_goals
  clear k1;replace OO:=aA (OO.out.aB ho);replace B1:=aA (ho.got B1.out (by simp));clear ho;have k1:=c_2 B1.out;go_wp2;go_ret
  exact⟨rfl,OO.out⟩
theorem vQ (n lo hi:Int) (w:World) :
  Calls Tryz.prog 159 #[.int .i64 n,.int .i64 lo,.int .i64 hi] w fun e w'=>e=.returned (.bool (bZ n lo hi))/\Oy [] w w':=by
 by_cases h1:lo<=n
 focus
  have a1:decide (lo<=n)=true:=eY h1;obtain⟨r,hr⟩:∃ r,decide (n<=hi)=r:=⟨_,rfl⟩;rw[show bZ n lo hi=r from by unfold bZ;rw[a1,hr];rfl]
 rotate_left
 focus
  have a1:decide (lo<=n)=false:=dL h1;rw[show bZ n lo hi=false from by unfold bZ;rw[a1];rfl]
 rotate_left
 all_goals
  go_enter Tryz.func159,Tryz.ntmps159
  have OO:=aA (aR [] w);go_wp2;go_ret
  exact⟨rfl,OO.out⟩
theorem QI (r:MC) (w:World) :
  Calls Tryz.prog 154 #[JY r] w fun e w'=>e=.returned (.int .i64 (mZ r))/\Oy [] w w':=by
 obtain⟨bi,po,mn,mx,cn⟩:=r;obtain⟨res,HE⟩:∃ r,Hid (mZ ⟨bi,po,mn,mx,cn⟩=r):=⟨_,aA rfl⟩;rw[HE.out];unfold mZ at HE;dsimp only at HE;have H1:=aA (fun w'=>vQ bi 0 255 w');generalize bZ bi 0 255=b1 at H1 HE;have H2:=aA (fun w'=>vQ mn 3 17 w');generalize bZ mn 3 17=b2 at H2 HE;have H3:=aA (fun w'=>vQ mx 3 17 w');generalize bZ mx 3 17=b3 at H3 HE;have H4:=aA (fun w'=>vQ po mn mx w');generalize bZ po mn mx=b4 at H4 HE;have H5:=aA (fun w'=>vQ cn (-30) 30 w');generalize bZ cn (-30) 30=b5 at H5 HE;unfold JY;dsimp only;have m:=bJ w [];have k:=m.zK;go_enter Tryz.func154,Tryz.ntmps154
 go_wp2_with (first|((with_reducible first|refine cM (H1.out _) ?_|refine cM (H2.out _) ?_|refine cM (H3.out _) ?_|refine cM (H4.out _) ?_|refine cM (H5.out _) ?_|refine wU ?_);clear k m;intro w m k)|((with_reducible refine lF (fun w _=>⟨rfl,?_⟩));rw[<-HE.out];simp[results,Tryz.results154,go_sem]))
 all_goals first|rfl|(clear k m;go_tidy;grind)|trace_state
theorem pShift (r:MC) (w:World) :
  Calls Tryz.prog 150 #[JY r,.bool false] w fun e w'=>e=.returned (JY (oM r))/\Oy [] w w':=by
 obtain⟨bi,po,mn,mx,cn⟩:=r;have HK:=aA (fun w'=>QI ⟨bi,po,mn,mx,cn⟩ w')
 have hb:mZ ⟨bi,po,mn,mx,cn⟩=0->(0<=bi/\bi<=255)/\(3<=mn/\mx<=17)/\(mn<=po/\po<=mx)/\(-30<=cn/\cn<=30):=fun h=>by
  unfold mZ at h;dsimp only at h;split at h
  ·rename_i g1
   simp only[Bool.and_eq_true,aY] at g1;split at h
   ·exact absurd h (by decide)
   ·split at h
    ·rename_i g2
     simp only[Bool.and_eq_true,aY] at g2;omega
    ·exact absurd h (by decide)
  ·exact absurd h (by decide)
 obtain⟨res,HE⟩:∃ r,Hid (oM ⟨bi,po,mn,mx,cn⟩=r):=⟨_,aA rfl⟩;rw[HE.out];unfold oM at HE;dsimp only at HE;generalize mZ ⟨bi,po,mn,mx,cn⟩=er at HK HE hb;unfold JY at HK |-;dsimp only at HK |-;by_cases hz:er=0
 rotate_left
 ·clear hb
  have m:=bJ w [];have k:=m.zK;go_enter Tryz.func150,Tryz.ntmps150
  go_wp2_with (first|((with_reducible first|refine cM (HK.out _) ?_|refine wU ?_);clear k m;intro w m k)|((with_reducible refine lE (fun w o g k K hK=>⟨rfl,?_⟩));simp[results,Tryz.results150,go_sem,k];refine hK _ ?_;clear hK K k;rw[<-HE.out];(go_tidy;grind [rc0])))
 ·subst hz
  obtain⟨⟨b7,b8⟩,⟨b1,b2⟩,⟨b3,b4⟩,b5,b6⟩:=hb rfl;clear hb;rw[if_pos rfl] at HE;have r1:wrap .i64 (bi*2)=bi*2:=by rw[wrap_i64];omega
  have r2:(bi*2).tmod 256=bi*2 % 256:=Int.tmod_eq_emod_of_nonneg (by omega);have r3:wrap .i64 (bi*2 % 256)=bi*2 % 256:=by rw[wrap_i64];omega
  have he:=HE.out;subst he;clear b1 b2 b3 b4 b5 b6 b7 b8 HE;have m:=bJ w [];have k:=m.zK;go_enter Tryz.func150,Tryz.ntmps150
  go_wp2_with (first|((with_reducible first|refine cM (HK.out _) ?_|refine wU ?_);clear k m;intro w m k)|((with_reducible refine lE (fun w o g k K hK=>⟨rfl,?_⟩));simp[results,Tryz.results150,go_sem,k];refine hK _ ?_;exact⟨rfl,o⟩))
theorem pBack (r:MC) (w:World) :
  Calls Tryz.prog 234 #[JY r] w fun e w'=>e=.returned (JY (JZ r))/\Oy [] w w':=by
 obtain⟨bi,po,mn,mx,cn⟩:=r;have HK:=aA (fun w'=>QI ⟨bi,po,mn,mx,cn⟩ w')
 have hb:mZ ⟨bi,po,mn,mx,cn⟩=0->(0<=bi/\bi<=255)/\(3<=mn/\mx<=17)/\(mn<=po/\po<=mx)/\(-30<=cn/\cn<=30):=fun h=>by
  unfold mZ at h;dsimp only at h;split at h
  ·rename_i g1
   simp only[Bool.and_eq_true,aY] at g1;split at h
   ·exact absurd h (by decide)
   ·split at h
    ·rename_i g2
     simp only[Bool.and_eq_true,aY] at g2;omega
    ·exact absurd h (by decide)
  ·exact absurd h (by decide)
 obtain⟨res,HE⟩:∃ r,Hid (JZ ⟨bi,po,mn,mx,cn⟩=r):=⟨_,aA rfl⟩;rw[HE.out];unfold JZ at HE;dsimp only at HE;generalize mZ ⟨bi,po,mn,mx,cn⟩=er at HK HE hb;unfold JY at HK |-;dsimp only at HK |-;by_cases hz:er=0
 rotate_left
 ·clear hb
  have m:=bJ w [];have k:=m.zK;go_enter Tryz.func234,Tryz.ntmps234
  go_wp2_with (first|((with_reducible first|refine cM (HK.out _) ?_|refine wU ?_);clear k m;intro w m k)|((with_reducible refine lE (fun w o g k K hK=>⟨rfl,?_⟩));simp[results,Tryz.results234,go_sem,k];refine hK _ ?_;clear hK K k;rw[<-HE.out];(go_tidy;grind [rc0])))
 ·subst hz
  obtain⟨⟨b7,b8⟩,⟨b1,b2⟩,⟨b3,b4⟩,b5,b6⟩:=hb rfl;clear hb;rw[if_pos rfl] at HE;have r1:wrap .i64 (po+2)=po+2:=by rw[wrap_i64];omega
  have he:=HE.out;subst he;clear b1 b2 b3 b4 b5 b6 b7 b8 HE;have m:=bJ w [];have k:=m.zK;go_enter Tryz.func234,Tryz.ntmps234
  go_wp2_with (first|((with_reducible first|refine cM (HK.out _) ?_|refine wU ?_);clear k m;intro w m k)|((with_reducible refine lE (fun w o g k K hK=>⟨rfl,?_⟩));simp[results,Tryz.results234,go_sem,k];refine hK _ ?_;exact⟨rfl,o⟩))
theorem pReach (r:MC) (w:World) :
  Calls Tryz.prog 274 #[JY r] w fun e w'=>e=.returned (.bool (BK r))/\Oy [] w w':=by
 obtain⟨bi,po,mn,mx,cn⟩:=r;have HC:=aA (fun w'=>QI ⟨bi,po,mn,mx,cn⟩ w');have hb:=fun h=>rchk_ok.1 (show mZ ⟨bi,po,mn,mx,cn⟩=0 from h);have HE:Hid (BK ⟨bi,po,mn,mx,cn⟩=(decide (mZ ⟨bi,po,mn,mx,cn⟩=0) && !decide (bi=0))):=aA rfl;generalize BK ⟨bi,po,mn,mx,cn⟩=res at HE |-;clear hb;generalize mZ ⟨bi,po,mn,mx,cn⟩=er at HC HE;unfold JY at HC |-;dsimp only at HC |-;by_cases h0:er=0
 focus
  subst h0;by_cases hz:bi=0
  focus
   subst hz;obtain rfl:res=false:=by rw[HE.out];rfl
   clear HE
  rotate_left
  focus
   have q1:(bi != 0)=true:=by simpa using hz
   have q2:(bi == 0)=false:=by simpa using hz
   obtain rfl:res=true:=by rw[HE.out,dL hz];rfl
   clear HE hz
  rotate_left
 rotate_left 2
 focus
  have q2:(er == 0)=false:=by simpa using h0
  obtain rfl:res=false:=by rw[HE.out,dL h0];rfl
  clear HE h0
 rotate_left
 all_goals
  go_enter Tryz.func274,Tryz.ntmps274
  go_upto_region 1 with (fail)
  refine aG (G:=fun w0=>Code.wp _ _ _ _ w0) ?_;intro w1 hb1 ho1 hs1;obtain⟨b1,hbe1⟩:∃ b,w.heap.size=b:=⟨_,rfl⟩;rw[hbe1] at hb1;rw[hbe1];have HN:Hid (w.heap.size<=b1):=aA (by omega);have B1:=aA hb1;have OO:=aA ho1;clear hb1 hs1 hbe1;clear ho1;have k1:=FV B1.out;go_wp2_with fail
  refine (HC.out _).mono ?_;rintro e w2 ⟨rfl,ho⟩;clear k1;replace OO:=aA (OO.out.aB ho);replace B1:=aA (ho.got B1.out (by simp));clear ho;have k1:=FV B1.out;go_wp2;go_ret
  exact⟨rfl,OO.out⟩
theorem vR (n:Int) (w:World) :
  Calls Tryz.prog 269 #[.int .i64 n] w fun e w'=>e=.returned (.bool (fQ n))/\Oy [] w w':=by
 by_cases h1:(-4503599627370496:Int)<=n
 focus
  have a1:decide ((-4503599627370496:Int)<=n)=true:=eY h1;obtain⟨r,hr⟩:∃ r,decide (n<=(4503599627370496:Int))=r:=⟨_,rfl⟩;rw[show fQ n=r from by unfold fQ bZ;rw[a1,hr];rfl]
 rotate_left
 focus
  have a1:decide ((-4503599627370496:Int)<=n)=false:=dL h1;rw[show fQ n=false from by unfold fQ bZ;rw[a1];rfl]
 rotate_left
 all_goals
  go_enter Tryz.func269,Tryz.ntmps269
  have OO:=aA (aR [] w);go_wp2;go_ret
  exact⟨rfl,OO.out⟩
theorem YS (n:Int) (w:World) :
  Calls Tryz.prog 270 #[.int .i64 n] w fun e w'=>e=.returned (.bool (zB n))/\Oy [] w w':=by
 by_cases h1:(0:Int)<=n
 focus
  have a1:decide ((0:Int)<=n)=true:=eY h1;obtain⟨r,hr⟩:∃ r,decide (n<=(500000:Int))=r:=⟨_,rfl⟩;rw[show zB n=r from by unfold zB bZ;rw[a1,hr];rfl]
 rotate_left
 focus
  have a1:decide ((0:Int)<=n)=false:=dL h1;rw[show zB n=false from by unfold zB bZ;rw[a1];rfl]
 rotate_left
 all_goals
  go_enter Tryz.func270,Tryz.ntmps270
  have OO:=aA (aR [] w);go_wp2;go_ret
  exact⟨rfl,OO.out⟩
theorem QO (n:Int) (w:World) :
  Calls Tryz.prog 208 #[.int .i64 n] w fun e w'=>e=.returned (.bool (isSp n))/\Oy [] w w':=by
 by_cases h1:(0:Int)<=n
 focus
  have a1:decide ((0:Int)<=n)=true:=eY h1;obtain⟨r,hr⟩:∃ r,decide (n<=(9007199254740992:Int))=r:=⟨_,rfl⟩;rw[show isSp n=r from by unfold isSp bZ;rw[a1,hr];rfl]
 rotate_left
 focus
  have a1:decide ((0:Int)<=n)=false:=dL h1;rw[show isSp n=false from by unfold isSp bZ;rw[a1];rfl]
 rotate_left
 all_goals
  go_enter Tryz.func208,Tryz.ntmps208
  have OO:=aA (aR [] w);go_wp2;go_ret
  exact⟨rfl,OO.out⟩
theorem lI (n lo hi:Int) (w:World) :
  Calls Tryz.prog 226 #[.int .i64 n,.int .i64 lo,.int .i64 hi] w fun e w'=>e=.returned (.bool (bZ n lo hi))/\Oy [] w w':=by
 by_cases h1:lo<=n
 focus
  have a1:decide (lo<=n)=true:=eY h1;obtain⟨r,hr⟩:∃ r,decide (n<=hi)=r:=⟨_,rfl⟩;rw[show bZ n lo hi=r from by unfold bZ;rw[a1,hr];rfl]
 rotate_left
 focus
  have a1:decide (lo<=n)=false:=dL h1;rw[show bZ n lo hi=false from by unfold bZ;rw[a1];rfl]
 rotate_left
 all_goals
  go_enter Tryz.func226,Tryz.ntmps226
  have OO:=aA (aR [] w);go_wp2;go_ret
  exact⟨rfl,OO.out⟩
theorem pSmall (off jit:Int) (h0: -9223372036854775807<=off) (h1:off<=9223372036854775807) (h2:jit<=9223372036854775807) (w:World) :
  Calls Tryz.prog 291 #[.int .i64 off,.int .i64 jit] w fun e w'=>e=.returned (.bool (BJ off jit))/\Oy [] w w':=by
 have HE:Hid (BJ off jit=decide ((off.natAbs:Int) / 4<max jit 0)):=aA rfl;generalize BJ off jit=res at HE |-;obtain⟨a,ha⟩:∃ a,off.natAbs=a:=⟨_,rfl⟩;rw[ha] at HE;obtain⟨j,hj⟩:∃ j,max jit 0=j:=⟨_,rfl⟩;have hjb:0<=j/\j<=9223372036854775807:=by omega
 have hjw:wrap .u64 j=j:=by rw[wrap_u64];omega
 rw[hj] at HE;have haw:wrap .u64 (a:Int)=(a:Int):=by rw[wrap_u64];omega
 have haq:wrap .u64 ((a:Int) / 4)=(a:Int) / 4:=by rw[wrap_u64];omega
 have HR:=aA HE.out.symm;by_cases hn:off<0
 focus
  obtain⟨u,hu⟩:∃ u,wrap .u64 off=u:=⟨_,rfl⟩;have huw:wrap .u64 (-u)=(a:Int):=by rw[<-hu,wrap_u64,wrap_u64];omega
  have d1:decide (off<0)=true:=eY hn
 rotate_left
 focus
  have hu:wrap .u64 off=(a:Int):=by rw[wrap_u64];omega
  have d1:decide (off<0)=false:=dL hn
 rotate_left
 all_goals
  clear ha HE;go_enter Tryz.func291,Tryz.ntmps291
  have OO:=aA (aR [] w);go_wp2;go_ret
  exact⟨by rw[<-HR.out];rfl,OO.out⟩
theorem pAdapt (r:MC) (off jit:Int) (h0: -9223372036854775807<=off) (h1:off<=9223372036854775807) (h2:jit<=9223372036854775807) (w:World) :
  Calls Tryz.prog 262 #[JY r,.int .i64 off,.int .i64 jit] w fun e w'=>e=.returned (JY (BM r off jit))/\Oy [] w w':=by
 obtain⟨bi,po,mn,mx,cn⟩:=r;have HK:=aA (fun w'=>QI ⟨bi,po,mn,mx,cn⟩ w');have HS:=aA (fun w'=>pSmall off jit h0 h1 h2 w')
 have hb:mZ ⟨bi,po,mn,mx,cn⟩=0->(3<=mn/\mx<=17)/\(mn<=po/\po<=mx)/\(-30<=cn/\cn<=30):=fun h=>by
  unfold mZ at h;dsimp only at h;split at h
  ·rename_i g1
   simp only[Bool.and_eq_true,aY] at g1;split at h
   ·exact absurd h (by decide)
   ·split at h
    ·rename_i g2
     simp only[Bool.and_eq_true,aY] at g2;omega
    ·exact absurd h (by decide)
  ·exact absurd h (by decide)
 obtain⟨res,HE⟩:∃ r,Hid (BM ⟨bi,po,mn,mx,cn⟩ off jit=r):=⟨_,aA rfl⟩;rw[HE.out];unfold BM at HE;dsimp only at HE;generalize mZ ⟨bi,po,mn,mx,cn⟩=er at HK HE hb;generalize BJ off jit=sm at HS HE;unfold JY at HK |-;dsimp only at HK |-;by_cases hz:er=0
 rotate_left
 ·clear hb
  have m:=bJ w [];have k:=m.zK;go_enter Tryz.func262,Tryz.ntmps262
  go_wp2_with (first|((with_reducible first|refine cM (HK.out _) ?_|refine cM (HS.out _) ?_|refine wU ?_);clear k m;intro w m k)|((with_reducible refine lE (fun w o g k K hK=>⟨rfl,?_⟩));simp[results,Tryz.results262,go_sem,k];refine hK _ ?_;clear hK K k;rw[<-HE.out];(go_tidy;grind [rc0])))
 ·subst hz
  obtain⟨⟨b1,b2⟩,⟨b3,b4⟩,b5,b6⟩:=hb rfl;clear hb;have r1:wrap .i64 (cn+po)=cn+po:=by rw[wrap_i64];omega
  have r2:wrap .i64 (2*po)=2*po:=by rw[wrap_i64];omega
  have r3:wrap .i64 (cn-2*po)=cn-2*po:=by rw[wrap_i64];omega
  have r4:wrap .i64 (po+1)=po+1:=by rw[wrap_i64];omega
  have r5:wrap .i64 (po-1)=po-1:=by rw[wrap_i64];omega
  rw[if_pos rfl] at HE
  cases sm
  focus
   rw[if_neg (by simp)] at HE;by_cases g:cn-2*po < -30
   focus
    have f:decide (cn-2*po < -30)=true:=decide_eq_true g;rw[if_pos g] at HE
   rotate_left
   focus
    have f:decide (cn-2*po < -30)=false:=decide_eq_false g;rw[if_neg g] at HE
   rotate_left
  rotate_left 2
  focus
   rw[if_pos rfl] at HE;by_cases g:30<cn+po
   focus
    have f:decide (30<cn+po)=true:=decide_eq_true g;rw[if_pos g] at HE
   rotate_left
   focus
    have f:decide (30<cn+po)=false:=decide_eq_false g;rw[if_neg g] at HE
   rotate_left
  rotate_left 2
  all_goals
   have he:=HE.out;subst he;clear b1 b2 b3 b4 b5 b6 HE;have m:=bJ w [];have k:=m.zK;go_enter Tryz.func262,Tryz.ntmps262
   go_wp2_with (first|((with_reducible first|refine cM (HK.out _) ?_|refine cM (HS.out _) ?_|refine wU ?_);clear k m;intro w m k)|((with_reducible refine lE (fun w o g k K hK=>⟨rfl,?_⟩));simp[results,Tryz.results262,go_sem,k];refine hK _ ?_;exact⟨rfl,o⟩))
theorem YK (r:FX) (w:World) :
  Calls Tryz.prog 197 #[JK r] w fun e w'=>e=.returned (.int .i64 (lQ r))/\Oy [] w w':=by
 obtain⟨a,b,c,d⟩:=r;obtain⟨res,HE⟩:∃ r,Hid (lQ ⟨a,b,c,d⟩=r):=⟨_,aA rfl⟩;rw[HE.out];unfold lQ at HE;dsimp only at HE;have H1:=aA (fun w'=>QO b w');have H2:=aA (fun w'=>QO c w');generalize isSp b=b1 at H1 HE;generalize isSp c=b2 at H2 HE;unfold bZ at HE;unfold JK;dsimp only;have m:=bJ w [];have k:=m.zK;go_enter Tryz.func197,Tryz.ntmps197
 go_wp2_with (first|((with_reducible first|refine cM (H1.out _) ?_|refine cM (H2.out _) ?_|refine wU ?_);clear k m;intro w m k)|((with_reducible refine lF (fun w _=>⟨rfl,?_⟩));rw[<-HE.out];simp[results,Tryz.results197,go_sem]))
 all_goals first|rfl|(clear k m;go_tidy;grind)|trace_state
theorem EX (r:FX) (w:World) :
  Calls Tryz.prog 182 #[JK r] w fun e w'=>e=.returned (.tuple #[JK (if lQ r=0 then r else MH),.int .i64 (if lQ r=0 then 0 else 3)])/\Oy [] w w':=by
 obtain⟨a,b,c,d⟩:=r;have HC:=aA (fun w'=>YK ⟨a,b,c,d⟩ w');have hor:lQ ⟨a,b,c,d⟩=0\/lQ ⟨a,b,c,d⟩=3:=by unfold lQ;split<;>simp
 unfold JK at HC |-;dsimp only at HC |-;rcases hor with h|h<;>rw[h] at HC |-<;>clear h
 ·rw[if_pos rfl,if_pos rfl]
  dsimp only;go_enter Tryz.func182,Tryz.ntmps182
  go_upto_region 1 with (fail)
  refine kZ (G:=fun w0=>Code.wp _ _ _ _ w0) (R:=fun w1=>w1.heap[w.heap.size]? = some (.cells #[.int .i64 a,.int .i64 b,.int .i64 c,.int .u32 d] 173 (0,0))/\w1.heap[w.heap.size+1]? = some (.cells #[.int .i64 0,.int .i64 0,.int .i64 0,.int .u32 0] 173 (0,0))/\Oy [] w w1) ?_ ?_
  ·skip
   have k0:=bG w (.cells #[.int .i64 a,.int .i64 b,.int .i64 c,.int .u32 d] 173);have k1:=bG (w.alloc (.cells #[.int .i64 a,.int .i64 b,.int .i64 c,.int .u32 d] 173)) (.cells #[.int .i64 0,.int .i64 0,.int .i64 0,.int .u32 0] 173);simp only[World.size_alloc] at k0 k1;exact⟨(alloc_old k0),k1,(((aR [] w).alloc _).alloc _)⟩
  rintro w1 ⟨h1,h2,ho1⟩;obtain⟨b1,hb1⟩:∃ b,w.heap.size=b:=⟨_,rfl⟩;obtain⟨b2,hb2⟩:∃ b,w.heap.size+1=b:=⟨_,rfl⟩;have HN:Hid (w.heap.size<=b1/\w.heap.size<=b2/\b1≠b2/\b2≠b1):=aA (by omega);rw[hb1] at h1;rw[hb2] at h2;rw[show w.heap.size+1=b2 from hb2,hb1];have B1:=aA h1;have B2:=aA h2;have OO:=aA ho1;clear h1 h2 hb1 hb2;clear ho1;have k1:=uY B1.out;have k2:=uY B2.out;go_wp2_with fail
  refine (HC.out _).mono ?_;rintro e w2 ⟨rfl,ho⟩;clear k1 k2;replace OO:=aA (OO.out.aB ho);replace B1:=aA (ho.got B1.out (by simp));replace B2:=aA (ho.got B2.out (by simp));clear ho;have k1:=uY B1.out;have k2:=uY B2.out;go_wp2;have HD:=aH (o:=3) (.int .u32 d) (aH (o:=2) (.int .i64 c) (aH (o:=1) (.int .i64 b) (aH (o:=0) (.int .i64 a) (B2.out))));have e0:=aC HD 0;have e1:=aC HD 1;have e2:=aC HD 2;have e3:=aC HD 3;have le:=aF HD;refine bodyPost_ret (v:=.tuple #[.agg #[.int .i64 a,.int .i64 b,.int .i64 c,.int .u32 d],.int .i64 0]) (by simp[results,Tryz.results182,go_sem,e0,e1,e2,e3]) rfl ⟨rfl,((((OO.out.setCell (.inr HN.out.2.1) _).setCell (.inr HN.out.2.1) _).setCell (.inr HN.out.2.1) _).setCell (.inr HN.out.2.1) _)⟩
 ·rw[if_neg (by decide),if_neg (by decide)]
  unfold MH;dsimp only;go_enter Tryz.func182,Tryz.ntmps182
  go_upto_region 1 with (fail)
  refine kZ (G:=fun w0=>Code.wp _ _ _ _ w0) (R:=fun w1=>w1.heap[w.heap.size]? = some (.cells #[.int .i64 a,.int .i64 b,.int .i64 c,.int .u32 d] 173 (0,0))/\w1.heap[w.heap.size+1]? = some (.cells #[.int .i64 0,.int .i64 0,.int .i64 0,.int .u32 0] 173 (0,0))/\Oy [] w w1) ?_ ?_
  ·skip
   have k0:=bG w (.cells #[.int .i64 a,.int .i64 b,.int .i64 c,.int .u32 d] 173);have k1:=bG (w.alloc (.cells #[.int .i64 a,.int .i64 b,.int .i64 c,.int .u32 d] 173)) (.cells #[.int .i64 0,.int .i64 0,.int .i64 0,.int .u32 0] 173);simp only[World.size_alloc] at k0 k1;exact⟨(alloc_old k0),k1,(((aR [] w).alloc _).alloc _)⟩
  rintro w1 ⟨h1,h2,ho1⟩;obtain⟨b1,hb1⟩:∃ b,w.heap.size=b:=⟨_,rfl⟩;obtain⟨b2,hb2⟩:∃ b,w.heap.size+1=b:=⟨_,rfl⟩;have HN:Hid (w.heap.size<=b1/\w.heap.size<=b2/\b1≠b2/\b2≠b1):=aA (by omega);rw[hb1] at h1;rw[hb2] at h2;rw[show w.heap.size+1=b2 from hb2,hb1];have B1:=aA h1;have B2:=aA h2;have OO:=aA ho1;clear h1 h2 hb1 hb2;clear ho1;have k1:=uY B1.out;have k2:=uY B2.out;go_wp2_with fail
  refine (HC.out _).mono ?_;rintro e w2 ⟨rfl,ho⟩;clear k1 k2;replace OO:=aA (OO.out.aB ho);replace B1:=aA (ho.got B1.out (by simp));replace B2:=aA (ho.got B2.out (by simp));clear ho;have k1:=uY B1.out;have k2:=uY B2.out;go_wp2;have HD:=aH (o:=3) (.int .u32 0) (aH (o:=2) (.int .i64 0) (aH (o:=1) (.int .i64 0) (aH (o:=0) (.int .i64 0) (B2.out))));have e0:=aC HD 0;have e1:=aC HD 1;have e2:=aC HD 2;have e3:=aC HD 3;have le:=aF HD;refine bodyPost_ret (v:=.tuple #[.agg #[.int .i64 0,.int .i64 0,.int .i64 0,.int .u32 0],.int .i64 3]) (by simp[results,Tryz.results182,go_sem,e0,e1,e2,e3]) rfl ⟨rfl,((((OO.out.setCell (.inr HN.out.2.1) _).setCell (.inr HN.out.2.1) _).setCell (.inr HN.out.2.1) _).setCell (.inr HN.out.2.1) _)⟩
theorem YO (p:Np) (w:World) :
  Calls Tryz.prog 220 #[iR p] w fun e w'=>e=.returned (.int .i64 (qX p))/\Oy [] w w':=by
 obtain⟨p1,p2,p3,p4,p5,p6,p7,p8,p9,pa,pb,pc,pd⟩:=p;obtain⟨res,HE⟩:∃ r,Hid (qX ⟨p1,p2,p3,p4,p5,p6,p7,p8,p9,pa,pb,pc,pd⟩=r):=⟨_,aA rfl⟩;rw[HE.out];unfold qX at HE;dsimp only at HE;have H1:=aA (fun w'=>lI p1 0 3 w');generalize bZ p1 0 3=b1 at H1 HE;have H2:=aA (fun w'=>lI p2 1 4 w');generalize bZ p2 1 4=b2 at H2 HE;have H3:=aA (fun w'=>lI p3 0 7 w');generalize bZ p3 0 7=b3 at H3 HE;have H4:=aA (fun w'=>lI p4 0 255 w');generalize bZ p4 0 255=b4 at H4 HE;have H5:=aA (fun w'=>lI p5 (-128) 127 w');generalize bZ p5 (-128) 127=b5 at H5 HE;have H6:=aA (fun w'=>lI p6 (-128) 127 w');generalize bZ p6 (-128) 127=b6 at H6 HE;unfold iR;dsimp only;have m:=bJ w [];have k:=m.zK;go_enter Tryz.func220,Tryz.ntmps220
 go_wp2_with (first|((with_reducible first|refine cM (H1.out _) ?_|refine cM (H2.out _) ?_|refine cM (H3.out _) ?_|refine cM (H4.out _) ?_|refine cM (H5.out _) ?_|refine cM (H6.out _) ?_|refine wU ?_);clear k m;intro w m k)|((with_reducible refine lF (fun w _=>⟨rfl,?_⟩));rw[<-HE.out];simp[results,Tryz.results220,go_sem]))
 all_goals first|rfl|(clear k m;go_tidy;grind)|trace_state
theorem YN (p:Np) (w:World) :
  Calls Tryz.prog 267 #[iR p] w fun e w'=>e=.returned (.bool (yG p))/\Oy [] w w':=by
 obtain⟨p1,p2,p3,p4,p5,p6,p7,p8,p9,pa,pb,pc,pd⟩:=p;have HE:Hid (yG ⟨p1,p2,p3,p4,p5,p6,p7,p8,p9,pa,pb,pc,pd⟩=(!decide (p1=3) && bZ p4 1 15)):=aA rfl;generalize yG ⟨p1,p2,p3,p4,p5,p6,p7,p8,p9,pa,pb,pc,pd⟩=res at HE |-;have H1:=aA (fun w'=>lI p4 1 15 w');generalize bZ p4 1 15=x1 at H1 HE;unfold iR;dsimp only;by_cases h:p1=3
 ·subst h
  obtain rfl:res=false:=by have:=HE.out;simpa using this
  clear HE;go_enter Tryz.func267,Tryz.ntmps267
  go_upto_region 1 with (fail)
  refine aG (G:=fun w0=>Code.wp _ _ _ _ w0) ?_;intro w1 hb1 ho1 hs1;obtain⟨b1,hbe1⟩:∃ b,w.heap.size=b:=⟨_,rfl⟩;rw[hbe1] at hb1;rw[hbe1];have HN:Hid (w.heap.size<=b1):=aA (by omega);have B1:=aA hb1;have OO:=aA ho1;clear hb1 hs1 hbe1;clear ho1;have k1:=c_13 B1.out;go_wp2;go_ret
  exact⟨rfl,OO.out⟩
 ·have q1:(p1 != 3)=true:=by simpa using h
  obtain rfl:res=x1:=by have:=HE.out;simpa [h] using this
  clear HE h;go_enter Tryz.func267,Tryz.ntmps267
  go_upto_region 1 with (fail)
  refine aG (G:=fun w0=>Code.wp _ _ _ _ w0) ?_;intro w1 hb1 ho1 hs1;obtain⟨b1,hbe1⟩:∃ b,w.heap.size=b:=⟨_,rfl⟩;rw[hbe1] at hb1;rw[hbe1];have HN:Hid (w.heap.size<=b1):=aA (by omega);have B1:=aA hb1;have OO:=aA ho1;clear hb1 hs1 hbe1;clear ho1;have k1:=c_13 B1.out;go_wp2_with fail
  refine (H1.out _).mono ?_;rintro e w2 ⟨rfl,ho⟩;clear k1;replace OO:=aA (OO.out.aB ho);replace B1:=aA (ho.got B1.out (by simp));clear ho;have k1:=c_13 B1.out;go_wp2;go_ret
  exact⟨rfl,OO.out⟩
theorem QM (s:Int) (h0:0<=s) (h1:s<=4294967295) (w:World) :
  Calls Tryz.prog 273 #[.int .u32 s] w fun e w'=>e=.returned (.int .i64 (iO s))/\Oy [] w w':=by
 have HE:Hid ((s*1000000000+65535) / 65536=iO s):=aA rfl;have w0':wrap .i64 s=s:=by rw[wrap_i64];omega
 have w1':wrap .i64 (s*1000000000)=s*1000000000:=by rw[wrap_i64];omega
 have w2':wrap .i64 (s*1000000000+65536)=s*1000000000+65536:=by rw[wrap_i64];omega
 have w3':wrap .i64 (s*1000000000+65536-1)=s*1000000000+65535:=by rw[wrap_i64];omega
 go_enter Tryz.func273,Tryz.ntmps273
 have OO:=aA (aR [] w);go_wp2;go_ret
 exact⟨by rw[<-HE.out];rfl,OO.out⟩
end
end Go.Proofs.YtppjhbjmfkiejaaGreat
