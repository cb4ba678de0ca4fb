/- Texts of one chain: C1, C2, C3, Cz. Conditions: those named in each theorem. -/
import Derived.Test.YtppjhbjmfkiejaaGreatFV5
import Derived.Test.YtppjhbjmfkiejaaGreatFV6
namespace Go.Proofs.YtppjhbjmfkiejaaGreat
open IntKind (wrap_i64 wrap_u64)
open Go.Lib (hid)
set_option maxRecDepth 100000
set_option maxHeartbeats 4000000
section
open Go.RowKit
def UU (lo hi:Int):Iv × Int:=if bM ⟨lo,hi⟩=true then (⟨lo,hi⟩,0) else (⟨0,0⟩,3)
def kZ (raw tol:Int):Bool:=decide (0<=raw/\raw<=2251799813685248/\0<=tol/\tol<=500000)
def yI (raw tol:Int):Int:=max 0 ((raw-1)*1000000000 / (1000000000+tol)+1)
def rR (raw tol:Int):Int:=-(-(raw+1)*1000000000 / (1000000000-tol))-1
def LG (x:Iv) (raw tol:Int):Iv × Int:=if bM x=true then (if kZ raw tol=true then UU (x.lo+yI raw tol) (x.hi+rR raw tol) else (⟨0,0⟩,3)) else (⟨0,0⟩,2)
def qA (x:Iv) (raw tol:Int):Iv × Int:=if bM x=true then (if kZ raw tol=true then UU x.lo (x.hi+rR raw tol) else (⟨0,0⟩,3)) else (⟨0,0⟩,2)
def vD (a b:Iv):Option Iv:=if bM a=true/\bM b=true/\max a.lo b.lo<=min a.hi b.hi then some ⟨max a.lo b.lo,min a.hi b.hi⟩ else none
def FT (x:Iv):Int:=if bM x=true then (if x.hi-x.lo<=9223372036854775807 then x.hi-x.lo else 9223372036854775807) else 0
theorem nG {x:Iv}:bM x=true↔x.lo<=x.hi/\ -8000000000000000000<=x.lo/\x.hi<=8000000000000000000:=by simp[bM]
theorem BU {raw tol:Int}:kZ raw tol=true↔0<=raw/\raw<=2251799813685248/\0<=tol/\tol<=500000:=by simp[kZ]
theorem lo_bd {raw tol:Int} (h:kZ raw tol=true): -1<=(raw-1)*1000000000 / (1000000000+tol)/\(raw-1)*1000000000 / (1000000000+tol)<=2251799813685248:=by
 obtain⟨h0,h1,h2,h3⟩:=BU.1 h;constructor
 ·rw[Int.le_ediv_iff_mul_le (by omega)];omega
 ·refine Int.ediv_le_of_le_mul (by omega) ?_
  have:=Int.mul_le_mul_of_nonneg_left (a:=1000000000) (b:=1000000000+tol) (c:=2251799813685248) (by omega) (by omega);omega
theorem hi_bd {raw tol:Int} (h:kZ raw tol=true): -4503599627370500<= -(raw+1)*1000000000 / (1000000000-tol)/\ -(raw+1)*1000000000 / (1000000000-tol)<= -1:=by
 obtain⟨h0,h1,h2,h3⟩:=BU.1 h;constructor
 ·rw[Int.le_ediv_iff_mul_le (by omega)]
  have:=Int.mul_le_mul_of_nonpos_left (a:=-4503599627370500) (b:=1000000000-tol) (c:=999500000) (by omega) (by omega);omega
 ·have: -(raw+1)*1000000000 / (1000000000-tol)<0:=by
   refine Int.ediv_neg_of_neg_of_pos ?_ (by omega);omega
  omega
theorem el_bd {raw tol:Int} (h:kZ raw tol=true):0<=yI raw tol/\yI raw tol<=2251799813685249/\0<=rR raw tol/\rR raw tol<=4503599627370499:=by
 have h1:=lo_bd h;have h2:=hi_bd h;unfold yI rR;omega
end
section
open Go.RowKit
theorem BI (lo hi:Int) (w:World) :
  Calls Tryz.prog 110 #[.int .i64 lo,.int .i64 hi] w fun e w'=>e=.returned (.tuple #[dV (UU lo hi).1,.int .i64 (UU lo hi).2])/\Only [] w w':=by
 have HC:=hid (fun w'=>cB ⟨lo,hi⟩ w');have HR:Hid (UU lo hi=if bM ⟨lo,hi⟩=true then (⟨lo,hi⟩,0) else (⟨0,0⟩,3)):=hid rfl;generalize UU lo hi=res at HR |-;obtain⟨⟨r0,r1⟩,re⟩:=res
 cases hok:bM ⟨lo,hi⟩
 ·rw[hok] at HC HR
  obtain⟨⟨rfl,rfl⟩,rfl⟩:(r0=0/\r1=0)/\re=3:=by have:=HR.out;simpa using this
  unfold dV at HC |-;dsimp only at HC |-;clear HR hok;go_enter Tryz.func110,Tryz.ntmps110
  go_upto_region 2 with (fail)
  refine kM (G:=fun w0=>Code.wp _ _ _ _ w0) (R:=fun w1=>w1.heap[w.heap.size]? = some (.cells #[.int .i64 0,.int .i64 0] 39 (0,0))/\w1.heap[w.heap.size+1]? = some (.cells #[.int .i64 lo,.int .i64 hi] 39 (0,0))/\Only [] w w1) ?_ ?_
  ·skip
   have k0:=bA w (.cells #[.int .i64 0,.int .i64 0] 39);have k1:=bA (w.alloc (.cells #[.int .i64 0,.int .i64 0] 39)) (.cells #[.int .i64 lo,.int .i64 hi] 39);simp only[World.size_alloc] at k0 k1;exact⟨(alloc_old k0),k1,(((Only.refl [] w).alloc _).alloc _)⟩
  rintro w1 ⟨h1,h2,ho1⟩;obtain⟨b1,hb1⟩:∃ b,w.heap.size=b:=⟨_,rfl⟩;obtain⟨b2,hb2⟩:∃ b,w.heap.size+1=b:=⟨_,rfl⟩;have HN:Hid (w.heap.size<=b1/\w.heap.size<=b2/\b1≠b2/\b2≠b1):=hid (by omega);rw[hb1] at h1;rw[hb2] at h2;rw[show w.heap.size+1=b2 from hb2,hb1];have B1:=hid h1;have B2:=hid h2;have OO:=hid ho1;clear h1 h2 hb1 hb2;clear ho1;have k1:=c_2 B1.out;have k2:=c_2 B2.out;go_wp2_with fail
  refine (HC.out _).mono ?_;rintro e w2 ⟨rfl,ho⟩;clear k1 k2;replace OO:=hid (OO.out.aA ho);replace B1:=hid (ho.got B1.out (by simp));replace B2:=hid (ho.got B2.out (by simp));clear ho;have k1:=c_2 B1.out;have k2:=c_2 B2.out;go_wp2;have HD:=aG (o:=1) (.int .i64 0) (aG (o:=0) (.int .i64 0) (B1.out));have e0:=aB HD 0;have e1:=aB HD 1;have le:=aD HD;refine bodyPost_ret (v:=.tuple #[.agg #[.int .i64 0,.int .i64 0],.int .i64 3]) (by simp[results,Tryz.results110,go_sem,e0,e1]) rfl ⟨rfl,((OO.out.setCell (.inr HN.out.1) _).setCell (.inr HN.out.1) _)⟩
 ·rw[hok] at HC HR
  obtain⟨⟨rfl,rfl⟩,rfl⟩:(r0=lo/\r1=hi)/\re=0:=by have:=HR.out;simpa using this
  unfold dV at HC |-;dsimp only at HC |-;clear HR hok;go_enter Tryz.func110,Tryz.ntmps110
  go_upto_region 2 with (fail)
  refine kM (G:=fun w0=>Code.wp _ _ _ _ w0) (R:=fun w1=>w1.heap[w.heap.size]? = some (.cells #[.int .i64 0,.int .i64 0] 39 (0,0))/\w1.heap[w.heap.size+1]? = some (.cells #[.int .i64 r0,.int .i64 r1] 39 (0,0))/\Only [] w w1) ?_ ?_
  ·skip
   have k0:=bA w (.cells #[.int .i64 0,.int .i64 0] 39);have k1:=bA (w.alloc (.cells #[.int .i64 0,.int .i64 0] 39)) (.cells #[.int .i64 r0,.int .i64 r1] 39);simp only[World.size_alloc] at k0 k1;exact⟨(alloc_old k0),k1,(((Only.refl [] w).alloc _).alloc _)⟩
  rintro w1 ⟨h1,h2,ho1⟩;obtain⟨b1,hb1⟩:∃ b,w.heap.size=b:=⟨_,rfl⟩;obtain⟨b2,hb2⟩:∃ b,w.heap.size+1=b:=⟨_,rfl⟩;have HN:Hid (w.heap.size<=b1/\w.heap.size<=b2/\b1≠b2/\b2≠b1):=hid (by omega);rw[hb1] at h1;rw[hb2] at h2;rw[show w.heap.size+1=b2 from hb2,hb1];have B1:=hid h1;have B2:=hid h2;have OO:=hid ho1;clear h1 h2 hb1 hb2;clear ho1;have k1:=c_2 B1.out;have k2:=c_2 B2.out;go_wp2_with fail
  refine (HC.out _).mono ?_;rintro e w2 ⟨rfl,ho⟩;clear k1 k2;replace OO:=hid (OO.out.aA ho);replace B1:=hid (ho.got B1.out (by simp));replace B2:=hid (ho.got B2.out (by simp));clear ho;have k1:=c_2 B1.out;have k2:=c_2 B2.out;go_wp2;have HD:=aG (o:=1) (.int .i64 r1) (aG (o:=0) (.int .i64 r0) (B1.out));have e0:=aB HD 0;have e1:=aB HD 1;have le:=aD HD;refine bodyPost_ret (v:=.tuple #[.agg #[.int .i64 r0,.int .i64 r1],.int .i64 0]) (by simp[results,Tryz.results110,go_sem,e0,e1]) rfl ⟨rfl,((OO.out.setCell (.inr HN.out.1) _).setCell (.inr HN.out.1) _)⟩
theorem JZ (raw tol:Int) (w:World) :
  Calls Tryz.prog 109 #[.int .i64 raw,.int .i64 tol] w fun e w'=>e=.returned (.tuple (if kZ raw tol=true then #[.int .i64 (yI raw tol),.int .i64 (rR raw tol),.int .i64 0] else #[.int .i64 0,.int .i64 0,.int .i64 3]))/\Only [] w w':=by
 by_cases h0:raw<0
 ·have a0:decide (raw<0)=true:=dW h0
  rw[show kZ raw tol=false from by unfold kZ;rw[decide_eq_false_iff_not];omega];go_enter Tryz.func109,Tryz.ntmps109
  have OO:=hid (Only.refl [] w);go_wp2;go_ret3
  exact⟨rfl,OO.out⟩
 ·have a0:decide (raw<0)=false:=dD h0
  by_cases h1:2251799813685248<raw
  ·have a1:decide (2251799813685248<raw)=true:=dW h1
   rw[show kZ raw tol=false from by unfold kZ;rw[decide_eq_false_iff_not];omega];go_enter Tryz.func109,Tryz.ntmps109
   have OO:=hid (Only.refl [] w);go_wp2;go_ret3
   exact⟨rfl,OO.out⟩
  ·have a1:decide (2251799813685248<raw)=false:=dD h1
   by_cases h2:tol<0
   ·have a2:decide (tol<0)=true:=dW h2
    rw[show kZ raw tol=false from by unfold kZ;rw[decide_eq_false_iff_not];omega];go_enter Tryz.func109,Tryz.ntmps109
    have OO:=hid (Only.refl [] w);go_wp2;go_ret3
    exact⟨rfl,OO.out⟩
   ·have a2:decide (tol<0)=false:=dD h2
    by_cases h3:500000<tol
    ·have a3:decide (500000<tol)=true:=dW h3
     rw[show kZ raw tol=false from by unfold kZ;rw[decide_eq_false_iff_not];omega];go_enter Tryz.func109,Tryz.ntmps109
     have OO:=hid (Only.refl [] w);go_wp2;go_ret3
     exact⟨rfl,OO.out⟩
    ·have a3:decide (500000<tol)=false:=dD h3
     have hok:kZ raw tol=true:=BU.2 (by omega);have hl:=lo_bd hok;have hh:=hi_bd hok;have HE:Hid (yI raw tol=max 0 ((raw-1)*1000000000 / (1000000000+tol)+1)/\rR raw tol= -(-(raw+1)*1000000000 / (1000000000-tol))-1):=hid ⟨rfl,rfl⟩;have HM1:=hid (fun w'=>jS (l9 (raw-1) 1000000000 (1000000000+tol) w' (by omega) (by omega) (by omega) (by omega) (by omega) (by omega)));have HM2:=hid (fun w'=>jS (l9 (-(raw+1)) 1000000000 (1000000000-tol) w' (by omega) (by omega) (by omega) (by omega) (by omega) (by omega)));generalize (raw-1)*1000000000 / (1000000000+tol)=x1 at hl HE HM1;generalize -(raw+1)*1000000000 / (1000000000-tol)=x2 at hh HE HM2;rw[fZ (by omega) (by omega),gM (by omega) (by omega)] at HM1 HM2;rw[hok];generalize yI raw tol=y1 at HE |-;generalize rR raw tol=y2 at HE |-;obtain⟨l1,l2⟩:=hl;obtain⟨g1,g2⟩:=hh;clear hok;go_enter Tryz.func109,Tryz.ntmps109
     have OO:=hid (Only.refl [] w);go_wp2_with fail
     refine (HM1.out _).mono ?_;rintro e w2 ⟨rfl,ho⟩;replace OO:=hid (OO.out.aA ho);clear ho;go_wp2_with fail
     refine (HM2.out _).mono ?_;rintro e w3 ⟨rfl,ho⟩;replace OO:=hid (OO.out.aA ho);clear ho;go_wp2;go_ret3
     exact⟨by rw[HE.out.1,HE.out.2];rfl,OO.out⟩
theorem pAge (x:Iv) (raw tol:Int) (w:World) :
  Calls Tryz.prog 90 #[dV x,.int .i64 raw,.int .i64 tol] w fun e w'=>e=.returned (.tuple #[dV (LG x raw tol).1,.int .i64 (LG x raw tol).2])/\Only [] w w':=by
 obtain⟨lo,hi⟩:=x;have HC:=hid (fun w'=>cB ⟨lo,hi⟩ w');have HE:=hid (fun w'=>JZ raw tol w');have hib:=fun h=>nG.1 (show bM ⟨lo,hi⟩=true from h);have heb:=fun h=>el_bd (show kZ raw tol=true from h);have HR:Hid (LG ⟨lo,hi⟩ raw tol=if bM ⟨lo,hi⟩=true then (if kZ raw tol=true then UU (lo+yI raw tol) (hi+rR raw tol) else (⟨0,0⟩,3)) else (⟨0,0⟩,2)):=hid rfl;generalize LG ⟨lo,hi⟩ raw tol=res at HR |-;have HV:=hid (fun w'=>BI (lo+yI raw tol) (hi+rR raw tol) w');generalize UU (lo+yI raw tol) (hi+rR raw tol)=cv at HV HR;generalize hia:bM ⟨lo,hi⟩=oka at HC HR hib;generalize kZ raw tol=oke at HE HR heb;generalize yI raw tol=el at *;generalize rR raw tol=eh at *;clear hia;obtain⟨⟨c1,c2⟩,ce⟩:=cv;unfold dV at HC HV |-;dsimp only at HC HV |-
 cases oka with
 | false =>
  obtain rfl:res=(⟨0,0⟩,2):=by have:=HR.out;simpa using this
  clear HR hib heb HE HV;have m:=bJ w [];have k:=m.out.k;go_enter Tryz.func90,Tryz.ntmps90
  go_wp2_with (first|((with_reducible first|refine cM (HC.out _) ?_|refine wU ?_);clear k m;intro w m k)|((with_reducible refine lE (fun w o g k K hK=>⟨rfl,?_⟩));simp[results,Tryz.results90,go_sem,k];refine hK _ ?_;exact⟨rfl,o⟩))
 | true =>
  cases oke with
  | false =>
   obtain rfl:res=(⟨0,0⟩,3):=by have:=HR.out;simpa using this
   clear HR hib heb HV;have m:=bJ w [];have k:=m.out.k;go_enter Tryz.func90,Tryz.ntmps90
   go_wp2_with (first|((with_reducible first|refine cM (HC.out _) ?_|refine cM (HE.out _) ?_|refine wU ?_);clear k m;intro w m k)|((with_reducible refine lE (fun w o g k K hK=>⟨rfl,?_⟩));simp[results,Tryz.results90,go_sem,k];refine hK _ ?_;exact⟨rfl,o⟩))
  | true =>
   obtain rfl:res=(⟨c1,c2⟩,ce):=by have:=HR.out;simpa using this
   obtain⟨i1,i2,i3⟩:=hib rfl;obtain⟨e1,e2,e3,e4⟩:=heb rfl;dsimp only at i1 i2 i3;have r1:IntKind.i64.wrap (lo+el)=lo+el:=by rw[wrap_i64];omega
   have r2:IntKind.i64.wrap (hi+eh)=hi+eh:=by rw[wrap_i64];omega
   have r3:IntKind.i64.wrap (hi+eh-0)=hi+eh:=by rw[wrap_i64];omega
   have r4:decide (eh<0)=false:=dD (by omega);clear HR hib heb i1 i2 i3 e1 e2 e3 e4;have m:=bJ w [];have k:=m.out.k;go_enter Tryz.func90,Tryz.ntmps90
   go_wp2_with (first|((with_reducible first|refine cM (HC.out _) ?_|refine cM (HE.out _) ?_|refine cM (HV.out _) ?_|refine wU ?_);clear k m;intro w m k)|((with_reducible refine lE (fun w o g k K hK=>⟨rfl,?_⟩));simp[results,Tryz.results90,go_sem,k];refine hK _ ?_;exact⟨rfl,o⟩))
theorem pTrip (x:Iv) (raw tol:Int) (w:World) :
  Calls Tryz.prog 244 #[dV x,.int .i64 raw,.int .i64 0,.int .i64 tol] w fun e w'=>e=.returned (.tuple #[dV (qA x raw tol).1,.int .i64 (qA x raw tol).2])/\Only [] w w':=by
 obtain⟨lo,hi⟩:=x;have HC:=hid (fun w'=>cB ⟨lo,hi⟩ w');have HE:=hid (fun w'=>JZ raw tol w');have hib:=fun h=>nG.1 (show bM ⟨lo,hi⟩=true from h);have heb:=fun h=>el_bd (show kZ raw tol=true from h);have HR:Hid (qA ⟨lo,hi⟩ raw tol=if bM ⟨lo,hi⟩=true then (if kZ raw tol=true then UU (lo) (hi+rR raw tol) else (⟨0,0⟩,3)) else (⟨0,0⟩,2)):=hid rfl;generalize qA ⟨lo,hi⟩ raw tol=res at HR |-;have HV:=hid (fun w'=>BI (lo) (hi+rR raw tol) w');generalize UU (lo) (hi+rR raw tol)=cv at HV HR;generalize hia:bM ⟨lo,hi⟩=oka at HC HR hib;generalize kZ raw tol=oke at HE HR heb;generalize yI raw tol=el at *;generalize rR raw tol=eh at *;clear hia;obtain⟨⟨c1,c2⟩,ce⟩:=cv;unfold dV at HC HV |-;dsimp only at HC HV |-
 cases oka with
 | false =>
  obtain rfl:res=(⟨0,0⟩,2):=by have:=HR.out;simpa using this
  clear HR hib heb HE HV;have m:=bJ w [];have k:=m.out.k;go_enter Tryz.func244,Tryz.ntmps244
  go_wp2_with (first|((with_reducible first|refine cM (HC.out _) ?_|refine wU ?_);clear k m;intro w m k)|((with_reducible refine lE (fun w o g k K hK=>⟨rfl,?_⟩));simp[results,Tryz.results244,go_sem,k];refine hK _ ?_;exact⟨rfl,o⟩))
 | true =>
  cases oke with
  | false =>
   obtain rfl:res=(⟨0,0⟩,3):=by have:=HR.out;simpa using this
   clear HR hib heb HV;have m:=bJ w [];have k:=m.out.k;go_enter Tryz.func244,Tryz.ntmps244
   go_wp2_with (first|((with_reducible first|refine cM (HC.out _) ?_|refine cM (HE.out _) ?_|refine wU ?_);clear k m;intro w m k)|((with_reducible refine lE (fun w o g k K hK=>⟨rfl,?_⟩));simp[results,Tryz.results244,go_sem,k];refine hK _ ?_;exact⟨rfl,o⟩))
  | true =>
   obtain rfl:res=(⟨c1,c2⟩,ce):=by have:=HR.out;simpa using this
   obtain⟨i1,i2,i3⟩:=hib rfl;obtain⟨e1,e2,e3,e4⟩:=heb rfl;dsimp only at i1 i2 i3;have r1:IntKind.i64.wrap (lo+el)=lo+el:=by rw[wrap_i64];omega
   have r2:IntKind.i64.wrap (hi+eh)=hi+eh:=by rw[wrap_i64];omega
   have r3:IntKind.i64.wrap (hi+eh-0)=hi+eh:=by rw[wrap_i64];omega
   have r4:decide (eh<0)=false:=dD (by omega);clear HR hib heb i1 i2 i3 e1 e2 e3 e4;have m:=bJ w [];have k:=m.out.k;go_enter Tryz.func244,Tryz.ntmps244
   go_wp2_with (first|((with_reducible first|refine cM (HC.out _) ?_|refine cM (HE.out _) ?_|refine cM (HV.out _) ?_|refine wU ?_);clear k m;intro w m k)|((with_reducible refine lE (fun w o g k K hK=>⟨rfl,?_⟩));simp[results,Tryz.results244,go_sem,k];refine hK _ ?_;exact⟨rfl,o⟩))
end
section
open Go.RowKit
def bT (n lo hi:Int):Bool:=decide (lo<=n) && decide (n<=hi)
theorem aW {n lo hi:Int}:bT n lo hi=true↔lo<=n/\n<=hi:=by simp[bT]
theorem nT {n lo hi:Int}:bT n lo hi=false↔¬ (lo<=n/\n<=hi):=by rw[<-aW];simp
structure LM where
 bits:Int
 poll:Int
 mn:Int
 mx:Int
 cnt:Int
deriving DecidableEq,Inhabited
def JK (r:LM):Value:=.agg #[.int .i64 r.bits,.int .i64 r.poll,.int .i64 r.mn,.int .i64 r.mx,.int .i64 r.cnt]
def mH (r:LM):Int:=if bT r.bits 0 255 && (bT r.mn 3 17 && bT r.mx 3 17) then (if r.mx<r.mn then 12 else if bT r.poll r.mn r.mx && bT r.cnt (-30) 30 then 0 else 3) else 3
def rc0:LM:=⟨0,0,0,0,0⟩
def oC (r:LM):LM:=if mH r=0 then { r with bits:=r.bits*2 % 256 } else rc0
def JL (r:LM):LM:=if mH r=0 then { r with poll:=min (r.poll+2) r.mx,cnt:=0 } else rc0
def AQ (r:LM):Bool:=decide (mH r=0) && !decide (r.bits=0)
def AP (off jit:Int):Bool:=decide ((off.natAbs:Int) / 4<max jit 0)
def AU (r:LM) (off jit:Int):LM:=if mH r=0 then (if AP off jit=true then (if 30<r.cnt+r.poll then { r with cnt:=0,poll:=min (r.poll+1) r.mx } else { r with cnt:=r.cnt+r.poll }) else (if r.cnt-2*r.poll < -30 then { r with cnt:=0,poll:=max (r.poll-1) r.mn } else { r with cnt:=r.cnt-2*r.poll })) else rc0
theorem rchk_ok {r:LM}:mH r=0↔(0<=r.bits/\r.bits<=255)/\(3<=r.mn/\r.mn<=17)/\(3<=r.mx/\r.mx<=17)/\r.mn<=r.mx/\(r.mn<=r.poll/\r.poll<=r.mx)/\ -30<=r.cnt/\r.cnt<=30:=by
 unfold mH;simp only[Bool.and_eq_true,aW];split
 ·split
  ·constructor
   ·intro h;cases h
   ·intro h;omega
  ·split
   ·constructor
    ·intro _;omega
    ·intro _;rfl
   ·constructor
    ·intro h;cases h
    ·intro h;omega
 ·constructor
  ·intro h;cases h
  ·intro h;omega
structure iN where
 off:Int
 dly:Int
 dsp:Int
 tat:Int
deriving DecidableEq,Inhabited
def jP (s:iN):List Value:=[.int .i64 s.off,.int .i64 s.dly,.int .i64 s.dsp,.int .i64 s.tat]
def wC (s:iN):Value:=.agg #[.int .i64 s.off,.int .i64 s.dly,.int .i64 s.dsp,.int .i64 s.tat]
theorem iE (s:iN):(jP s).length=4:=rfl
def fI (t:Int):Bool:=bT t (-4503599627370496) 4503599627370496
def isSp (t:Int):Bool:=bT t 0 9007199254740992
def yH (t:Int):Bool:=bT t 0 500000
def gF (s:iN):Int:=if fI s.off && (isSp s.dly && (isSp s.dsp && fI s.tat)) then 0 else 3
def uM:iN:=⟨0,0,0,0⟩
theorem qX {s:iN}:gF s=0↔(-4503599627370496<=s.off/\s.off<=4503599627370496)/\(0<=s.dly/\s.dly<=9007199254740992)/\(0<=s.dsp/\s.dsp<=9007199254740992)/\ -4503599627370496<=s.tat/\s.tat<=4503599627370496:=by
 unfold gF fI isSp;simp only[Bool.and_eq_true,aW];split
 ·exact⟨fun _=>by omega,fun _=>rfl⟩
 ·exact⟨fun h=>absurd h (by decide),fun h=>by omega⟩
theorem uQ (s:iN):gF s=0\/gF s=3:=by unfold gF;split<;>simp
def oG (d tol:Int):Int:=-(-d*tol / 1000000000)
theorem ZR {d tol:Int} (h0:0<=d) (h1:d<=9007199254740992) (h2:0<=tol) (h3:tol<=500000):0<=oG d tol/\oG d tol<=d:=by
 unfold oG;have hm:=md_bd (a:=tol) (b:=-d) (c:=1000000000) h2 (by omega) (by omega);rw[Int.mul_comm] at hm;by_cases hd:d=0
 ·subst hd;simp
 ·have:=hm.2 (by omega);omega
structure Qd where
 t1:Int
 t2:Int
 t3:Int
 t4:Int
deriving DecidableEq,Inhabited
def sofR (q:Qd) (prec tol:Int):iN:=⟨((q.t2-q.t1)+(q.t3-q.t4)) / 2,max prec (q.t4-q.t1-(q.t3-q.t2)),prec+oG (q.t4-q.t1) tol,q.t4⟩
def sof (q:Qd) (prec tol:Int):iN × Int:=
 if fI q.t1 && (fI q.t2 && (fI q.t3 && fI q.t4)) then
  (if bT prec 1 1000000000 && yH tol then
   (if q.t4<q.t1\/q.t3<q.t2 then (uM,12) else (if gF (sofR q prec tol)=0 then (sofR q prec tol,0) else (uM,3)))
  else (uM,3))
 else (uM,3)
def xH (s:iN):Int:=if gF s=0 then (s.dly+1) / 2+s.dsp else 0
def uN (s:iN) (now tol:Int):iN × Int:=
 if gF s=0 then (if fI now && yH tol then (if now<s.tat then (uM,12) else (if gF ⟨s.off,s.dly,s.dsp+oG (now-s.tat) tol,now⟩=0 then (⟨s.off,s.dly,s.dsp+oG (now-s.tat) tol,now⟩,0) else (uM,3))) else (uM,3)) else (uM,3)
structure FJ where
 str:Int
 dly:Int
 dsp:Int
 ref:Int
deriving DecidableEq,Inhabited
def I7 (r:FJ):Value:=.agg #[.int .i64 r.str,.int .i64 r.dly,.int .i64 r.dsp,.int .u32 r.ref]
def LU:FJ:=⟨0,0,0,0⟩
def kU (r:FJ):Int:=if bT r.str 1 16 && (isSp r.dly && isSp r.dsp) then 0 else 3
structure Np where
 leap:Int
 ver:Int
 mode:Int
 strat:Int
 poll:Int
 prec:Int
 rdel:Int
 rdsp:Int
 rid:Int
 ref:Int
 org:Int
 rcv:Int
 xmt:Int
deriving DecidableEq,Inhabited
def iM (p:Np):Value:=.agg #[.int .i64 p.leap,.int .i64 p.ver,.int .i64 p.mode,.int .i64 p.strat,.int .i64 p.poll,.int .i64 p.prec,.int .u32 p.rdel,.int .u32 p.rdsp,.int .u32 p.rid,.int .u64 p.ref,.int .u64 p.org,.int .u64 p.rcv,.int .u64 p.xmt]
def yG:Np:=⟨0,0,0,0,0,0,0,0,0,0,0,0,0⟩
def eP (p:Np):Prop:=(0<=p.rdel/\p.rdel<=4294967295)/\(0<=p.rdsp/\p.rdsp<=4294967295)/\(0<=p.rid/\p.rid<=4294967295)/\(0<=p.org/\p.org<=18446744073709551615)/\(0<=p.rcv/\p.rcv<=18446744073709551615)/\(0<=p.xmt/\p.xmt<=18446744073709551615)/\(0<=p.ref/\p.ref<=18446744073709551615)
def qK (p:Np):Int:=if bT p.leap 0 3 && (bT p.ver 1 4 && (bT p.mode 0 7 && (bT p.strat 0 255 && (bT p.poll (-128) 127 && bT p.prec (-128) 127)))) then 0 else 3
def xJ (p:Np):Bool:=!decide (p.leap=3) && bT p.strat 1 15
def iJ (s:Int):Int:=(s*1000000000+65535) / 65536
theorem GX {s:Int} (h0:0<=s) (h1:s<=4294967295):0<=iJ s/\iJ s<=65536000000000:=by unfold iJ;omega
def joinR (p:Np) (s:iN) (id:Int):FJ:=⟨p.strat+1,iJ p.rdel+s.dly,iJ p.rdsp+s.dsp+max s.off (-s.off),id⟩
def u6 (p:Np) (s:iN) (id:Int):FJ × Int:=
 if qK p=0/\gF s=0 then (if xJ p=true then (if kU (joinR p s id)=0 then (joinR p s id,0) else (LU,3)) else (LU,15)) else (LU,2)
theorem iL {w:World} {b:Nat} {p:Addr} {o:Obj} (v:Value) (h:w.heap[b]? = some o) (hn:b≠p.block):(w.setCell p v).heap[b]? = some o:=
 (((Only.refl [p.block] w).setCell (.inl (List.mem_singleton.2 rfl)) v).got h (by simpa using hn))
end
section
open Go.RowKit
def QV:Option Iv->Value
 | some x=>.tuple #[.agg #[.int .i64 x.lo,.int .i64 x.hi],.bool true]
 | none=>.tuple #[.agg #[.int .i64 0,.int .i64 0],.bool false]
theorem pMeet (a b:Iv) (w:World) :
  Calls Tryz.prog 199 #[dV a,dV b] w fun e w'=>e=.returned (QV (vD a b))/\Only [] w w':=by
 obtain⟨al,ah⟩:=a;obtain⟨bl,bh⟩:=b;have HA:=hid (cB ⟨al,ah⟩);have HB:=hid (cB ⟨bl,bh⟩);obtain⟨res,HE⟩:∃ r,Hid (vD ⟨al,ah⟩ ⟨bl,bh⟩=r):=⟨_,hid rfl⟩;rw[HE.out];unfold vD at HE;generalize bM ⟨al,ah⟩=oka at HA HE;generalize bM ⟨bl,bh⟩=okb at HB HE;unfold dV at HA HB |-;dsimp only at HA HB HE |-;have m:=bJ w [];have k:=m.out.k;go_enter Tryz.func199,Tryz.ntmps199
 go_wp2_with (first|((with_reducible first|refine cM (HA.out _) ?_|refine cM (HB.out _) ?_|refine wU ?_);clear k m;intro w m k)|((with_reducible refine lF (fun w k=>⟨rfl,?_⟩));rw[<-HE.out];simp[results,Tryz.results199,go_sem,k]))
 all_goals first|rfl|(clear k m;go_tidy;grind [QV])|trace_state
theorem XP (x:Iv) (w:World) :
  Calls Tryz.prog 245 #[dV x] w fun e w'=>e=.returned (.int .i64 (FT x))/\Only [] w w':=by
 obtain⟨lo,hi⟩:=x;have HA:=hid (fun w'=>cB ⟨lo,hi⟩ w');have hib:=fun h=>nG.1 (show bM ⟨lo,hi⟩=true from h);have HR:Hid (FT ⟨lo,hi⟩=if bM ⟨lo,hi⟩=true then (if hi-lo<=9223372036854775807 then hi-lo else 9223372036854775807) else 0):=hid rfl;generalize FT ⟨lo,hi⟩=res at HR |-
 cases hok:bM ⟨lo,hi⟩
 focus
  rw[hok] at HA HR;obtain rfl:res=0:=by have:=HR.out;simpa using this
  unfold dV at HA |-;dsimp only at HA |-;clear HR hib hok;go_enter Tryz.func245,Tryz.ntmps245
  go_upto_region 1 with (fail)
  refine aF (G:=fun w0=>Code.wp _ _ _ _ w0) ?_;intro w1 hb1 ho1 hs1;obtain⟨b1,hbe1⟩:∃ b,w.heap.size=b:=⟨_,rfl⟩;rw[hbe1] at hb1;rw[hbe1];have HN:Hid (w.heap.size<=b1):=hid (by omega);have B1:=hid hb1;have OO:=hid ho1;clear hb1 hs1 hbe1;clear ho1;have k1:=c_2 B1.out;go_wp2_with fail
  refine (HA.out _).mono ?_;rintro e w2 ⟨rfl,ho⟩
 rotate_left
 focus
  obtain⟨i0,i1,i2⟩:=hib hok;rw[hok] at HA HR;dsimp only at i0 i1 i2;have HS:=hid (fun w'=>jA (fsub hi lo w' (by omega) (by omega) (by omega) (by omega)));unfold dV at HA |-;dsimp only at HA |-;clear hib hok;by_cases hf:hi-lo<=9223372036854775807
  focus
   obtain rfl:res=hi-lo:=by have:=HR.out;rw[if_pos rfl,if_pos hf] at this;exact this
   rw[fZ (by omega) hf,gM (by omega) hf] at HS
  rotate_left
  focus
   obtain rfl:res=9223372036854775807:=by have:=HR.out;rw[if_pos rfl,if_neg hf] at this;exact this
   rw[kT (by omega),jU (by omega)] at HS
  rotate_left
  all_goals
   clear HR;go_enter Tryz.func245,Tryz.ntmps245
   go_upto_region 1 with (fail)
   refine aF (G:=fun w0=>Code.wp _ _ _ _ w0) ?_;intro w1 hb1 ho1 hs1;obtain⟨b1,hbe1⟩:∃ b,w.heap.size=b:=⟨_,rfl⟩;rw[hbe1] at hb1;rw[hbe1];have HN:Hid (w.heap.size<=b1):=hid (by omega);have B1:=hid hb1;have OO:=hid ho1;clear hb1 hs1 hbe1;clear ho1;have k1:=c_2 B1.out;go_wp2_with fail
   refine (HA.out _).mono ?_;rintro e w2 ⟨rfl,ho⟩;clear k1;replace OO:=hid (OO.out.aA ho);replace B1:=hid (ho.got B1.out (by simp));clear ho;have k1:=c_2 B1.out;go_wp2_with fail
   refine (HS.out _).mono ?_;rintro e w3 ⟨rfl,ho⟩
 rotate_left 2
 all_goals
  clear k1;replace OO:=hid (OO.out.aA ho);replace B1:=hid (ho.got B1.out (by simp));clear ho;have k1:=c_2 B1.out;go_wp2;go_ret
  exact⟨rfl,OO.out⟩
theorem uW (n lo hi:Int) (w:World) :
  Calls Tryz.prog 159 #[.int .i64 n,.int .i64 lo,.int .i64 hi] w fun e w'=>e=.returned (.bool (bT n lo hi))/\Only [] w w':=by
 by_cases h1:lo<=n
 focus
  have a1:decide (lo<=n)=true:=dW h1;obtain⟨r,hr⟩:∃ r,decide (n<=hi)=r:=⟨_,rfl⟩;rw[show bT n lo hi=r from by unfold bT;rw[a1,hr];rfl]
 rotate_left
 focus
  have a1:decide (lo<=n)=false:=dD h1;rw[show bT n lo hi=false from by unfold bT;rw[a1];rfl]
 rotate_left
 all_goals
  go_enter Tryz.func159,Tryz.ntmps159
  have OO:=hid (Only.refl [] w);go_wp2;go_ret
  exact⟨rfl,OO.out⟩
theorem QA (r:LM) (w:World) :
  Calls Tryz.prog 154 #[JK r] w fun e w'=>e=.returned (.int .i64 (mH r))/\Only [] w w':=by
 obtain⟨bi,po,mn,mx,cn⟩:=r;obtain⟨res,HE⟩:∃ r,Hid (mH ⟨bi,po,mn,mx,cn⟩=r):=⟨_,hid rfl⟩;rw[HE.out];unfold mH at HE;dsimp only at HE;have H1:=hid (fun w'=>uW bi 0 255 w');generalize bT bi 0 255=b1 at H1 HE;have H2:=hid (fun w'=>uW mn 3 17 w');generalize bT mn 3 17=b2 at H2 HE;have H3:=hid (fun w'=>uW mx 3 17 w');generalize bT mx 3 17=b3 at H3 HE;have H4:=hid (fun w'=>uW po mn mx w');generalize bT po mn mx=b4 at H4 HE;have H5:=hid (fun w'=>uW cn (-30) 30 w');generalize bT cn (-30) 30=b5 at H5 HE;unfold JK;dsimp only;have m:=bJ w [];have k:=m.out.k;go_enter Tryz.func154,Tryz.ntmps154
 go_wp2_with (first|((with_reducible first|refine cM (H1.out _) ?_|refine cM (H2.out _) ?_|refine cM (H3.out _) ?_|refine cM (H4.out _) ?_|refine cM (H5.out _) ?_|refine wU ?_);clear k m;intro w m k)|((with_reducible refine lF (fun w _=>⟨rfl,?_⟩));rw[<-HE.out];simp[results,Tryz.results154,go_sem]))
 all_goals first|rfl|(clear k m;go_tidy;grind)|trace_state
theorem pShift (r:LM) (w:World) :
  Calls Tryz.prog 150 #[JK r,.bool false] w fun e w'=>e=.returned (JK (oC r))/\Only [] w w':=by
 obtain⟨bi,po,mn,mx,cn⟩:=r;have HK:=hid (fun w'=>QA ⟨bi,po,mn,mx,cn⟩ w')
 have hb:mH ⟨bi,po,mn,mx,cn⟩=0->(0<=bi/\bi<=255)/\(3<=mn/\mx<=17)/\(mn<=po/\po<=mx)/\(-30<=cn/\cn<=30):=fun h=>by
  unfold mH at h;dsimp only at h;split at h
  ·rename_i g1
   simp only[Bool.and_eq_true,aW] at g1;split at h
   ·exact absurd h (by decide)
   ·split at h
    ·rename_i g2
     simp only[Bool.and_eq_true,aW] at g2;omega
    ·exact absurd h (by decide)
  ·exact absurd h (by decide)
 obtain⟨res,HE⟩:∃ r,Hid (oC ⟨bi,po,mn,mx,cn⟩=r):=⟨_,hid rfl⟩;rw[HE.out];unfold oC at HE;dsimp only at HE;generalize mH ⟨bi,po,mn,mx,cn⟩=er at HK HE hb;unfold JK at HK |-;dsimp only at HK |-;by_cases hz:er=0
 rotate_left
 ·clear hb
  have m:=bJ w [];have k:=m.out.k;go_enter Tryz.func150,Tryz.ntmps150
  go_wp2_with (first|((with_reducible first|refine cM (HK.out _) ?_|refine wU ?_);clear k m;intro w m k)|((with_reducible refine lE (fun w o g k K hK=>⟨rfl,?_⟩));simp[results,Tryz.results150,go_sem,k];refine hK _ ?_;clear hK K k;rw[<-HE.out];(go_tidy;grind [rc0])))
 ·subst hz
  obtain⟨⟨b7,b8⟩,⟨b1,b2⟩,⟨b3,b4⟩,b5,b6⟩:=hb rfl;clear hb;rw[if_pos rfl] at HE;have r1:IntKind.i64.wrap (bi*2)=bi*2:=by rw[wrap_i64];omega
  have r2:(bi*2).tmod 256=bi*2 % 256:=Int.tmod_eq_emod_of_nonneg (by omega);have r3:IntKind.i64.wrap (bi*2 % 256)=bi*2 % 256:=by rw[wrap_i64];omega
  have he:=HE.out;subst he;clear b1 b2 b3 b4 b5 b6 b7 b8 HE;have m:=bJ w [];have k:=m.out.k;go_enter Tryz.func150,Tryz.ntmps150
  go_wp2_with (first|((with_reducible first|refine cM (HK.out _) ?_|refine wU ?_);clear k m;intro w m k)|((with_reducible refine lE (fun w o g k K hK=>⟨rfl,?_⟩));simp[results,Tryz.results150,go_sem,k];refine hK _ ?_;exact⟨rfl,o⟩))
theorem pBack (r:LM) (w:World) :
  Calls Tryz.prog 234 #[JK r] w fun e w'=>e=.returned (JK (JL r))/\Only [] w w':=by
 obtain⟨bi,po,mn,mx,cn⟩:=r;have HK:=hid (fun w'=>QA ⟨bi,po,mn,mx,cn⟩ w')
 have hb:mH ⟨bi,po,mn,mx,cn⟩=0->(0<=bi/\bi<=255)/\(3<=mn/\mx<=17)/\(mn<=po/\po<=mx)/\(-30<=cn/\cn<=30):=fun h=>by
  unfold mH at h;dsimp only at h;split at h
  ·rename_i g1
   simp only[Bool.and_eq_true,aW] at g1;split at h
   ·exact absurd h (by decide)
   ·split at h
    ·rename_i g2
     simp only[Bool.and_eq_true,aW] at g2;omega
    ·exact absurd h (by decide)
  ·exact absurd h (by decide)
 obtain⟨res,HE⟩:∃ r,Hid (JL ⟨bi,po,mn,mx,cn⟩=r):=⟨_,hid rfl⟩;rw[HE.out];unfold JL at HE;dsimp only at HE;generalize mH ⟨bi,po,mn,mx,cn⟩=er at HK HE hb;unfold JK at HK |-;dsimp only at HK |-;by_cases hz:er=0
 rotate_left
 ·clear hb
  have m:=bJ w [];have k:=m.out.k;go_enter Tryz.func234,Tryz.ntmps234
  go_wp2_with (first|((with_reducible first|refine cM (HK.out _) ?_|refine wU ?_);clear k m;intro w m k)|((with_reducible refine lE (fun w o g k K hK=>⟨rfl,?_⟩));simp[results,Tryz.results234,go_sem,k];refine hK _ ?_;clear hK K k;rw[<-HE.out];(go_tidy;grind [rc0])))
 ·subst hz
  obtain⟨⟨b7,b8⟩,⟨b1,b2⟩,⟨b3,b4⟩,b5,b6⟩:=hb rfl;clear hb;rw[if_pos rfl] at HE;have r1:IntKind.i64.wrap (po+2)=po+2:=by rw[wrap_i64];omega
  have he:=HE.out;subst he;clear b1 b2 b3 b4 b5 b6 b7 b8 HE;have m:=bJ w [];have k:=m.out.k;go_enter Tryz.func234,Tryz.ntmps234
  go_wp2_with (first|((with_reducible first|refine cM (HK.out _) ?_|refine wU ?_);clear k m;intro w m k)|((with_reducible refine lE (fun w o g k K hK=>⟨rfl,?_⟩));simp[results,Tryz.results234,go_sem,k];refine hK _ ?_;exact⟨rfl,o⟩))
theorem pReach (r:LM) (w:World) :
  Calls Tryz.prog 274 #[JK r] w fun e w'=>e=.returned (.bool (AQ r))/\Only [] w w':=by
 obtain⟨bi,po,mn,mx,cn⟩:=r;have HC:=hid (fun w'=>QA ⟨bi,po,mn,mx,cn⟩ w');have hb:=fun h=>rchk_ok.1 (show mH ⟨bi,po,mn,mx,cn⟩=0 from h);have HE:Hid (AQ ⟨bi,po,mn,mx,cn⟩=(decide (mH ⟨bi,po,mn,mx,cn⟩=0) && !decide (bi=0))):=hid rfl;generalize AQ ⟨bi,po,mn,mx,cn⟩=res at HE |-;clear hb;generalize mH ⟨bi,po,mn,mx,cn⟩=er at HC HE;unfold JK at HC |-;dsimp only at HC |-;by_cases h0:er=0
 focus
  subst h0;by_cases hz:bi=0
  focus
   subst hz;obtain rfl:res=false:=by rw[HE.out];rfl
   clear HE
  rotate_left
  focus
   have q1:(bi != 0)=true:=by simpa using hz
   have q2:(bi == 0)=false:=by simpa using hz
   obtain rfl:res=true:=by rw[HE.out,dD hz];rfl
   clear HE hz
  rotate_left
 rotate_left 2
 focus
  have q2:(er == 0)=false:=by simpa using h0
  obtain rfl:res=false:=by rw[HE.out,dD h0];rfl
  clear HE h0
 rotate_left
 all_goals
  go_enter Tryz.func274,Tryz.ntmps274
  go_upto_region 1 with (fail)
  refine aF (G:=fun w0=>Code.wp _ _ _ _ w0) ?_;intro w1 hb1 ho1 hs1;obtain⟨b1,hbe1⟩:∃ b,w.heap.size=b:=⟨_,rfl⟩;rw[hbe1] at hb1;rw[hbe1];have HN:Hid (w.heap.size<=b1):=hid (by omega);have B1:=hid hb1;have OO:=hid ho1;clear hb1 hs1 hbe1;clear ho1;have k1:=FE B1.out;go_wp2_with fail
  refine (HC.out _).mono ?_;rintro e w2 ⟨rfl,ho⟩;clear k1;replace OO:=hid (OO.out.aA ho);replace B1:=hid (ho.got B1.out (by simp));clear ho;have k1:=FE B1.out;go_wp2;go_ret
  exact⟨rfl,OO.out⟩
theorem uX (n:Int) (w:World) :
  Calls Tryz.prog 269 #[.int .i64 n] w fun e w'=>e=.returned (.bool (fI n))/\Only [] w w':=by
 by_cases h1:(-4503599627370496:Int)<=n
 focus
  have a1:decide ((-4503599627370496:Int)<=n)=true:=dW h1;obtain⟨r,hr⟩:∃ r,decide (n<=(4503599627370496:Int))=r:=⟨_,rfl⟩;rw[show fI n=r from by unfold fI bT;rw[a1,hr];rfl]
 rotate_left
 focus
  have a1:decide ((-4503599627370496:Int)<=n)=false:=dD h1;rw[show fI n=false from by unfold fI bT;rw[a1];rfl]
 rotate_left
 all_goals
  go_enter Tryz.func269,Tryz.ntmps269
  have OO:=hid (Only.refl [] w);go_wp2;go_ret
  exact⟨rfl,OO.out⟩
theorem YE (n:Int) (w:World) :
  Calls Tryz.prog 270 #[.int .i64 n] w fun e w'=>e=.returned (.bool (yH n))/\Only [] w w':=by
 by_cases h1:(0:Int)<=n
 focus
  have a1:decide ((0:Int)<=n)=true:=dW h1;obtain⟨r,hr⟩:∃ r,decide (n<=(500000:Int))=r:=⟨_,rfl⟩;rw[show yH n=r from by unfold yH bT;rw[a1,hr];rfl]
 rotate_left
 focus
  have a1:decide ((0:Int)<=n)=false:=dD h1;rw[show yH n=false from by unfold yH bT;rw[a1];rfl]
 rotate_left
 all_goals
  go_enter Tryz.func270,Tryz.ntmps270
  have OO:=hid (Only.refl [] w);go_wp2;go_ret
  exact⟨rfl,OO.out⟩
theorem QG (n:Int) (w:World) :
  Calls Tryz.prog 208 #[.int .i64 n] w fun e w'=>e=.returned (.bool (isSp n))/\Only [] w w':=by
 by_cases h1:(0:Int)<=n
 focus
  have a1:decide ((0:Int)<=n)=true:=dW h1;obtain⟨r,hr⟩:∃ r,decide (n<=(9007199254740992:Int))=r:=⟨_,rfl⟩;rw[show isSp n=r from by unfold isSp bT;rw[a1,hr];rfl]
 rotate_left
 focus
  have a1:decide ((0:Int)<=n)=false:=dD h1;rw[show isSp n=false from by unfold isSp bT;rw[a1];rfl]
 rotate_left
 all_goals
  go_enter Tryz.func208,Tryz.ntmps208
  have OO:=hid (Only.refl [] w);go_wp2;go_ret
  exact⟨rfl,OO.out⟩
theorem kQ (n lo hi:Int) (w:World) :
  Calls Tryz.prog 226 #[.int .i64 n,.int .i64 lo,.int .i64 hi] w fun e w'=>e=.returned (.bool (bT n lo hi))/\Only [] w w':=by
 by_cases h1:lo<=n
 focus
  have a1:decide (lo<=n)=true:=dW h1;obtain⟨r,hr⟩:∃ r,decide (n<=hi)=r:=⟨_,rfl⟩;rw[show bT n lo hi=r from by unfold bT;rw[a1,hr];rfl]
 rotate_left
 focus
  have a1:decide (lo<=n)=false:=dD h1;rw[show bT n lo hi=false from by unfold bT;rw[a1];rfl]
 rotate_left
 all_goals
  go_enter Tryz.func226,Tryz.ntmps226
  have OO:=hid (Only.refl [] w);go_wp2;go_ret
  exact⟨rfl,OO.out⟩
theorem pSmall (off jit:Int) (h0: -9223372036854775807<=off) (h1:off<=9223372036854775807) (h2:jit<=9223372036854775807) (w:World) :
  Calls Tryz.prog 291 #[.int .i64 off,.int .i64 jit] w fun e w'=>e=.returned (.bool (AP off jit))/\Only [] w w':=by
 have HE:Hid (AP off jit=decide ((off.natAbs:Int) / 4<max jit 0)):=hid rfl;generalize AP off jit=res at HE |-;obtain⟨a,ha⟩:∃ a,off.natAbs=a:=⟨_,rfl⟩;rw[ha] at HE;obtain⟨j,hj⟩:∃ j,max jit 0=j:=⟨_,rfl⟩;have hjb:0<=j/\j<=9223372036854775807:=by omega
 have hjw:IntKind.u64.wrap j=j:=by rw[wrap_u64];omega
 rw[hj] at HE;have haw:IntKind.u64.wrap (a:Int)=(a:Int):=by rw[wrap_u64];omega
 have haq:IntKind.u64.wrap ((a:Int) / 4)=(a:Int) / 4:=by rw[wrap_u64];omega
 have HR:=hid HE.out.symm;by_cases hn:off<0
 focus
  obtain⟨u,hu⟩:∃ u,IntKind.u64.wrap off=u:=⟨_,rfl⟩;have huw:IntKind.u64.wrap (-u)=(a:Int):=by rw[<-hu,wrap_u64,wrap_u64];omega
  have d1:decide (off<0)=true:=dW hn
 rotate_left
 focus
  have hu:IntKind.u64.wrap off=(a:Int):=by rw[wrap_u64];omega
  have d1:decide (off<0)=false:=dD hn
 rotate_left
 all_goals
  clear ha HE;go_enter Tryz.func291,Tryz.ntmps291
  have OO:=hid (Only.refl [] w);go_wp2;go_ret
  exact⟨by rw[<-HR.out];rfl,OO.out⟩
theorem pAdapt (r:LM) (off jit:Int) (h0: -9223372036854775807<=off) (h1:off<=9223372036854775807) (h2:jit<=9223372036854775807) (w:World) :
  Calls Tryz.prog 262 #[JK r,.int .i64 off,.int .i64 jit] w fun e w'=>e=.returned (JK (AU r off jit))/\Only [] w w':=by
 obtain⟨bi,po,mn,mx,cn⟩:=r;have HK:=hid (fun w'=>QA ⟨bi,po,mn,mx,cn⟩ w');have HS:=hid (fun w'=>pSmall off jit h0 h1 h2 w')
 have hb:mH ⟨bi,po,mn,mx,cn⟩=0->(3<=mn/\mx<=17)/\(mn<=po/\po<=mx)/\(-30<=cn/\cn<=30):=fun h=>by
  unfold mH at h;dsimp only at h;split at h
  ·rename_i g1
   simp only[Bool.and_eq_true,aW] at g1;split at h
   ·exact absurd h (by decide)
   ·split at h
    ·rename_i g2
     simp only[Bool.and_eq_true,aW] at g2;omega
    ·exact absurd h (by decide)
  ·exact absurd h (by decide)
 obtain⟨res,HE⟩:∃ r,Hid (AU ⟨bi,po,mn,mx,cn⟩ off jit=r):=⟨_,hid rfl⟩;rw[HE.out];unfold AU at HE;dsimp only at HE;generalize mH ⟨bi,po,mn,mx,cn⟩=er at HK HE hb;generalize AP off jit=sm at HS HE;unfold JK at HK |-;dsimp only at HK |-;by_cases hz:er=0
 rotate_left
 ·clear hb
  have m:=bJ w [];have k:=m.out.k;go_enter Tryz.func262,Tryz.ntmps262
  go_wp2_with (first|((with_reducible first|refine cM (HK.out _) ?_|refine cM (HS.out _) ?_|refine wU ?_);clear k m;intro w m k)|((with_reducible refine lE (fun w o g k K hK=>⟨rfl,?_⟩));simp[results,Tryz.results262,go_sem,k];refine hK _ ?_;clear hK K k;rw[<-HE.out];(go_tidy;grind [rc0])))
 ·subst hz
  obtain⟨⟨b1,b2⟩,⟨b3,b4⟩,b5,b6⟩:=hb rfl;clear hb;have r1:IntKind.i64.wrap (cn+po)=cn+po:=by rw[wrap_i64];omega
  have r2:IntKind.i64.wrap (2*po)=2*po:=by rw[wrap_i64];omega
  have r3:IntKind.i64.wrap (cn-2*po)=cn-2*po:=by rw[wrap_i64];omega
  have r4:IntKind.i64.wrap (po+1)=po+1:=by rw[wrap_i64];omega
  have r5:IntKind.i64.wrap (po-1)=po-1:=by rw[wrap_i64];omega
  rw[if_pos rfl] at HE
  cases sm
  focus
   rw[if_neg (by simp)] at HE;by_cases g:cn-2*po < -30
   focus
    have f:decide (cn-2*po < -30)=true:=decide_eq_true g;rw[if_pos g] at HE
   rotate_left
   focus
    have f:decide (cn-2*po < -30)=false:=decide_eq_false g;rw[if_neg g] at HE
   rotate_left
  rotate_left 2
  focus
   rw[if_pos rfl] at HE;by_cases g:30<cn+po
   focus
    have f:decide (30<cn+po)=true:=decide_eq_true g;rw[if_pos g] at HE
   rotate_left
   focus
    have f:decide (30<cn+po)=false:=decide_eq_false g;rw[if_neg g] at HE
   rotate_left
  rotate_left 2
  all_goals
   have he:=HE.out;subst he;clear b1 b2 b3 b4 b5 b6 HE;have m:=bJ w [];have k:=m.out.k;go_enter Tryz.func262,Tryz.ntmps262
   go_wp2_with (first|((with_reducible first|refine cM (HK.out _) ?_|refine cM (HS.out _) ?_|refine wU ?_);clear k m;intro w m k)|((with_reducible refine lE (fun w o g k K hK=>⟨rfl,?_⟩));simp[results,Tryz.results262,go_sem,k];refine hK _ ?_;exact⟨rfl,o⟩))
theorem X6 (r:FJ) (w:World) :
  Calls Tryz.prog 197 #[I7 r] w fun e w'=>e=.returned (.int .i64 (kU r))/\Only [] w w':=by
 obtain⟨a,b,c,d⟩:=r;obtain⟨res,HE⟩:∃ r,Hid (kU ⟨a,b,c,d⟩=r):=⟨_,hid rfl⟩;rw[HE.out];unfold kU at HE;dsimp only at HE;have H1:=hid (fun w'=>QG b w');have H2:=hid (fun w'=>QG c w');generalize isSp b=b1 at H1 HE;generalize isSp c=b2 at H2 HE;unfold bT at HE;unfold I7;dsimp only;have m:=bJ w [];have k:=m.out.k;go_enter Tryz.func197,Tryz.ntmps197
 go_wp2_with (first|((with_reducible first|refine cM (H1.out _) ?_|refine cM (H2.out _) ?_|refine wU ?_);clear k m;intro w m k)|((with_reducible refine lF (fun w _=>⟨rfl,?_⟩));rw[<-HE.out];simp[results,Tryz.results197,go_sem]))
 all_goals first|rfl|(clear k m;go_tidy;grind)|trace_state
theorem ED (r:FJ) (w:World) :
  Calls Tryz.prog 182 #[I7 r] w fun e w'=>e=.returned (.tuple #[I7 (if kU r=0 then r else LU),.int .i64 (if kU r=0 then 0 else 3)])/\Only [] w w':=by
 obtain⟨a,b,c,d⟩:=r;have HC:=hid (fun w'=>X6 ⟨a,b,c,d⟩ w');have hor:kU ⟨a,b,c,d⟩=0\/kU ⟨a,b,c,d⟩=3:=by unfold kU;split<;>simp
 unfold I7 at HC |-;dsimp only at HC |-;rcases hor with h|h<;>rw[h] at HC |-<;>clear h
 ·rw[if_pos rfl,if_pos rfl]
  dsimp only;go_enter Tryz.func182,Tryz.ntmps182
  go_upto_region 1 with (fail)
  refine kM (G:=fun w0=>Code.wp _ _ _ _ w0) (R:=fun w1=>w1.heap[w.heap.size]? = some (.cells #[.int .i64 a,.int .i64 b,.int .i64 c,.int .u32 d] 173 (0,0))/\w1.heap[w.heap.size+1]? = some (.cells #[.int .i64 0,.int .i64 0,.int .i64 0,.int .u32 0] 173 (0,0))/\Only [] w w1) ?_ ?_
  ·skip
   have k0:=bA w (.cells #[.int .i64 a,.int .i64 b,.int .i64 c,.int .u32 d] 173);have k1:=bA (w.alloc (.cells #[.int .i64 a,.int .i64 b,.int .i64 c,.int .u32 d] 173)) (.cells #[.int .i64 0,.int .i64 0,.int .i64 0,.int .u32 0] 173);simp only[World.size_alloc] at k0 k1;exact⟨(alloc_old k0),k1,(((Only.refl [] w).alloc _).alloc _)⟩
  rintro w1 ⟨h1,h2,ho1⟩;obtain⟨b1,hb1⟩:∃ b,w.heap.size=b:=⟨_,rfl⟩;obtain⟨b2,hb2⟩:∃ b,w.heap.size+1=b:=⟨_,rfl⟩;have HN:Hid (w.heap.size<=b1/\w.heap.size<=b2/\b1≠b2/\b2≠b1):=hid (by omega);rw[hb1] at h1;rw[hb2] at h2;rw[show w.heap.size+1=b2 from hb2,hb1];have B1:=hid h1;have B2:=hid h2;have OO:=hid ho1;clear h1 h2 hb1 hb2;clear ho1;have k1:=uE B1.out;have k2:=uE B2.out;go_wp2_with fail
  refine (HC.out _).mono ?_;rintro e w2 ⟨rfl,ho⟩;clear k1 k2;replace OO:=hid (OO.out.aA ho);replace B1:=hid (ho.got B1.out (by simp));replace B2:=hid (ho.got B2.out (by simp));clear ho;have k1:=uE B1.out;have k2:=uE B2.out;go_wp2;have HD:=aG (o:=3) (.int .u32 d) (aG (o:=2) (.int .i64 c) (aG (o:=1) (.int .i64 b) (aG (o:=0) (.int .i64 a) (B2.out))));have e0:=aB HD 0;have e1:=aB HD 1;have e2:=aB HD 2;have e3:=aB HD 3;have le:=aD HD;refine bodyPost_ret (v:=.tuple #[.agg #[.int .i64 a,.int .i64 b,.int .i64 c,.int .u32 d],.int .i64 0]) (by simp[results,Tryz.results182,go_sem,e0,e1,e2,e3]) rfl ⟨rfl,((((OO.out.setCell (.inr HN.out.2.1) _).setCell (.inr HN.out.2.1) _).setCell (.inr HN.out.2.1) _).setCell (.inr HN.out.2.1) _)⟩
 ·rw[if_neg (by decide),if_neg (by decide)]
  unfold LU;dsimp only;go_enter Tryz.func182,Tryz.ntmps182
  go_upto_region 1 with (fail)
  refine kM (G:=fun w0=>Code.wp _ _ _ _ w0) (R:=fun w1=>w1.heap[w.heap.size]? = some (.cells #[.int .i64 a,.int .i64 b,.int .i64 c,.int .u32 d] 173 (0,0))/\w1.heap[w.heap.size+1]? = some (.cells #[.int .i64 0,.int .i64 0,.int .i64 0,.int .u32 0] 173 (0,0))/\Only [] w w1) ?_ ?_
  ·skip
   have k0:=bA w (.cells #[.int .i64 a,.int .i64 b,.int .i64 c,.int .u32 d] 173);have k1:=bA (w.alloc (.cells #[.int .i64 a,.int .i64 b,.int .i64 c,.int .u32 d] 173)) (.cells #[.int .i64 0,.int .i64 0,.int .i64 0,.int .u32 0] 173);simp only[World.size_alloc] at k0 k1;exact⟨(alloc_old k0),k1,(((Only.refl [] w).alloc _).alloc _)⟩
  rintro w1 ⟨h1,h2,ho1⟩;obtain⟨b1,hb1⟩:∃ b,w.heap.size=b:=⟨_,rfl⟩;obtain⟨b2,hb2⟩:∃ b,w.heap.size+1=b:=⟨_,rfl⟩;have HN:Hid (w.heap.size<=b1/\w.heap.size<=b2/\b1≠b2/\b2≠b1):=hid (by omega);rw[hb1] at h1;rw[hb2] at h2;rw[show w.heap.size+1=b2 from hb2,hb1];have B1:=hid h1;have B2:=hid h2;have OO:=hid ho1;clear h1 h2 hb1 hb2;clear ho1;have k1:=uE B1.out;have k2:=uE B2.out;go_wp2_with fail
  refine (HC.out _).mono ?_;rintro e w2 ⟨rfl,ho⟩;clear k1 k2;replace OO:=hid (OO.out.aA ho);replace B1:=hid (ho.got B1.out (by simp));replace B2:=hid (ho.got B2.out (by simp));clear ho;have k1:=uE B1.out;have k2:=uE B2.out;go_wp2;have HD:=aG (o:=3) (.int .u32 0) (aG (o:=2) (.int .i64 0) (aG (o:=1) (.int .i64 0) (aG (o:=0) (.int .i64 0) (B2.out))));have e0:=aB HD 0;have e1:=aB HD 1;have e2:=aB HD 2;have e3:=aB HD 3;have le:=aD HD;refine bodyPost_ret (v:=.tuple #[.agg #[.int .i64 0,.int .i64 0,.int .i64 0,.int .u32 0],.int .i64 3]) (by simp[results,Tryz.results182,go_sem,e0,e1,e2,e3]) rfl ⟨rfl,((((OO.out.setCell (.inr HN.out.2.1) _).setCell (.inr HN.out.2.1) _).setCell (.inr HN.out.2.1) _).setCell (.inr HN.out.2.1) _)⟩
theorem YA (p:Np) (w:World) :
  Calls Tryz.prog 220 #[iM p] w fun e w'=>e=.returned (.int .i64 (qK p))/\Only [] w w':=by
 obtain⟨p1,p2,p3,p4,p5,p6,p7,p8,p9,pa,pb,pc,pd⟩:=p;obtain⟨res,HE⟩:∃ r,Hid (qK ⟨p1,p2,p3,p4,p5,p6,p7,p8,p9,pa,pb,pc,pd⟩=r):=⟨_,hid rfl⟩;rw[HE.out];unfold qK at HE;dsimp only at HE;have H1:=hid (fun w'=>kQ p1 0 3 w');generalize bT p1 0 3=b1 at H1 HE;have H2:=hid (fun w'=>kQ p2 1 4 w');generalize bT p2 1 4=b2 at H2 HE;have H3:=hid (fun w'=>kQ p3 0 7 w');generalize bT p3 0 7=b3 at H3 HE;have H4:=hid (fun w'=>kQ p4 0 255 w');generalize bT p4 0 255=b4 at H4 HE;have H5:=hid (fun w'=>kQ p5 (-128) 127 w');generalize bT p5 (-128) 127=b5 at H5 HE;have H6:=hid (fun w'=>kQ p6 (-128) 127 w');generalize bT p6 (-128) 127=b6 at H6 HE;unfold iM;dsimp only;have m:=bJ w [];have k:=m.out.k;go_enter Tryz.func220,Tryz.ntmps220
 go_wp2_with (first|((with_reducible first|refine cM (H1.out _) ?_|refine cM (H2.out _) ?_|refine cM (H3.out _) ?_|refine cM (H4.out _) ?_|refine cM (H5.out _) ?_|refine cM (H6.out _) ?_|refine wU ?_);clear k m;intro w m k)|((with_reducible refine lF (fun w _=>⟨rfl,?_⟩));rw[<-HE.out];simp[results,Tryz.results220,go_sem]))
 all_goals first|rfl|(clear k m;go_tidy;grind)|trace_state
theorem X9 (p:Np) (w:World) :
  Calls Tryz.prog 267 #[iM p] w fun e w'=>e=.returned (.bool (xJ p))/\Only [] w w':=by
 obtain⟨p1,p2,p3,p4,p5,p6,p7,p8,p9,pa,pb,pc,pd⟩:=p;have HE:Hid (xJ ⟨p1,p2,p3,p4,p5,p6,p7,p8,p9,pa,pb,pc,pd⟩=(!decide (p1=3) && bT p4 1 15)):=hid rfl;generalize xJ ⟨p1,p2,p3,p4,p5,p6,p7,p8,p9,pa,pb,pc,pd⟩=res at HE |-;have H1:=hid (fun w'=>kQ p4 1 15 w');generalize bT p4 1 15=x1 at H1 HE;unfold iM;dsimp only;by_cases h:p1=3
 ·subst h
  obtain rfl:res=false:=by have:=HE.out;simpa using this
  clear HE;go_enter Tryz.func267,Tryz.ntmps267
  go_upto_region 1 with (fail)
  refine aF (G:=fun w0=>Code.wp _ _ _ _ w0) ?_;intro w1 hb1 ho1 hs1;obtain⟨b1,hbe1⟩:∃ b,w.heap.size=b:=⟨_,rfl⟩;rw[hbe1] at hb1;rw[hbe1];have HN:Hid (w.heap.size<=b1):=hid (by omega);have B1:=hid hb1;have OO:=hid ho1;clear hb1 hs1 hbe1;clear ho1;have k1:=c_13 B1.out;go_wp2;go_ret
  exact⟨rfl,OO.out⟩
 ·have q1:(p1 != 3)=true:=by simpa using h
  obtain rfl:res=x1:=by have:=HE.out;simpa [h] using this
  clear HE h;go_enter Tryz.func267,Tryz.ntmps267
  go_upto_region 1 with (fail)
  refine aF (G:=fun w0=>Code.wp _ _ _ _ w0) ?_;intro w1 hb1 ho1 hs1;obtain⟨b1,hbe1⟩:∃ b,w.heap.size=b:=⟨_,rfl⟩;rw[hbe1] at hb1;rw[hbe1];have HN:Hid (w.heap.size<=b1):=hid (by omega);have B1:=hid hb1;have OO:=hid ho1;clear hb1 hs1 hbe1;clear ho1;have k1:=c_13 B1.out;go_wp2_with fail
  refine (H1.out _).mono ?_;rintro e w2 ⟨rfl,ho⟩;clear k1;replace OO:=hid (OO.out.aA ho);replace B1:=hid (ho.got B1.out (by simp));clear ho;have k1:=c_13 B1.out;go_wp2;go_ret
  exact⟨rfl,OO.out⟩
theorem QE (s:Int) (h0:0<=s) (h1:s<=4294967295) (w:World) :
  Calls Tryz.prog 273 #[.int .u32 s] w fun e w'=>e=.returned (.int .i64 (iJ s))/\Only [] w w':=by
 have HE:Hid ((s*1000000000+65535) / 65536=iJ s):=hid rfl;have w0':IntKind.i64.wrap s=s:=by rw[wrap_i64];omega
 have w1':IntKind.i64.wrap (s*1000000000)=s*1000000000:=by rw[wrap_i64];omega
 have w2':IntKind.i64.wrap (s*1000000000+65536)=s*1000000000+65536:=by rw[wrap_i64];omega
 have w3':IntKind.i64.wrap (s*1000000000+65536-1)=s*1000000000+65535:=by rw[wrap_i64];omega
 go_enter Tryz.func273,Tryz.ntmps273
 have OO:=hid (Only.refl [] w);go_wp2;go_ret
 exact⟨by rw[<-HE.out];rfl,OO.out⟩
end
end Go.Proofs.YtppjhbjmfkiejaaGreat
