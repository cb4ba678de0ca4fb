/- Texts of one chain: C1, C2, C3, Cz. Conditions: those named in each theorem. -/
import Derived.Test.YthbgcpfklmlnjaaGreatFV5
import Derived.Test.YthbgcpfklmlnjaaGreatFV6
namespace Go.Proofs.YthbgcpfklmlnjaaGreat
open IntKind (wrap_i64 wrap_u64)
open Go.Lib (hid)
set_option maxRecDepth 100000
set_option maxHeartbeats 4000000
section
open Go.RowKit
def TP (lo hi:Int):Iv × Int:=if bW ⟨lo,hi⟩=true then (⟨lo,hi⟩,0) else (⟨0,0⟩,3)
def lH (raw tol:Int):Bool:=decide (0<=raw/\raw<=2251799813685248/\0<=tol/\tol<=500000)
def yI (raw tol:Int):Int:=max 0 ((raw-1)*1000000000 / (1000000000+tol)+1)
def rR (raw tol:Int):Int:=-(-(raw+1)*1000000000 / (1000000000-tol))-1
def K5 (x:Iv) (raw tol:Int):Iv × Int:=if bW x=true then (if lH raw tol=true then TP (x.lo+yI raw tol) (x.hi+rR raw tol) else (⟨0,0⟩,3)) else (⟨0,0⟩,2)
def qC (x:Iv) (raw tol:Int):Iv × Int:=if bW x=true then (if lH raw tol=true then TP x.lo (x.hi+rR raw tol) else (⟨0,0⟩,3)) else (⟨0,0⟩,2)
def vD (a b:Iv):Option Iv:=if bW a=true/\bW b=true/\max a.lo b.lo<=min a.hi b.hi then some ⟨max a.lo b.lo,min a.hi b.hi⟩ else none
def FM (x:Iv):Int:=if bW x=true then (if x.hi-x.lo<=9223372036854775807 then x.hi-x.lo else 9223372036854775807) else 0
theorem nM {x:Iv}:bW x=true↔x.lo<=x.hi/\ -8000000000000000000<=x.lo/\x.hi<=8000000000000000000:=by simp[bW]
theorem BS {raw tol:Int}:lH raw tol=true↔0<=raw/\raw<=2251799813685248/\0<=tol/\tol<=500000:=by simp[lH]
theorem lo_bd {raw tol:Int} (h:lH raw tol=true): -1<=(raw-1)*1000000000 / (1000000000+tol)/\(raw-1)*1000000000 / (1000000000+tol)<=2251799813685248:=by
 obtain⟨h0,h1,h2,h3⟩:=BS.1 h;constructor
 ·rw[Int.le_ediv_iff_mul_le (by omega)];omega
 ·refine Int.ediv_le_of_le_mul (by omega) ?_
  have:=Int.mul_le_mul_of_nonneg_left (a:=1000000000) (b:=1000000000+tol) (c:=2251799813685248) (by omega) (by omega);omega
theorem hi_bd {raw tol:Int} (h:lH raw tol=true): -4503599627370500<= -(raw+1)*1000000000 / (1000000000-tol)/\ -(raw+1)*1000000000 / (1000000000-tol)<= -1:=by
 obtain⟨h0,h1,h2,h3⟩:=BS.1 h;constructor
 ·rw[Int.le_ediv_iff_mul_le (by omega)]
  have:=Int.mul_le_mul_of_nonpos_left (a:=-4503599627370500) (b:=1000000000-tol) (c:=999500000) (by omega) (by omega);omega
 ·have: -(raw+1)*1000000000 / (1000000000-tol)<0:=by
   refine Int.ediv_neg_of_neg_of_pos ?_ (by omega);omega
  omega
theorem el_bd {raw tol:Int} (h:lH raw tol=true):0<=yI raw tol/\yI raw tol<=2251799813685249/\0<=rR raw tol/\rR raw tol<=4503599627370499:=by
 have h1:=lo_bd h;have h2:=hi_bd h;unfold yI rR;omega
end
section
open Go.RowKit
theorem BG (lo hi:Int) (w:World) :
  Calls Tryz.prog 167 #[.int .i64 lo,.int .i64 hi] w fun e w'=>e=.returned (.tuple #[dS (TP lo hi).1,.int .i64 (TP lo hi).2])/\Only [] w w':=by
 have HC:=hid (fun w'=>dH ⟨lo,hi⟩ w');have HR:Hid (TP lo hi=if bW ⟨lo,hi⟩=true then (⟨lo,hi⟩,0) else (⟨0,0⟩,3)):=hid rfl;generalize TP lo hi=res at HR |-;obtain⟨⟨r0,r1⟩,re⟩:=res
 cases hok:bW ⟨lo,hi⟩
 ·rw[hok] at HC HR
  obtain⟨⟨rfl,rfl⟩,rfl⟩:(r0=0/\r1=0)/\re=3:=by have:=HR.out;simpa using this
  unfold dS at HC |-;dsimp only at HC |-;clear HR hok;go_enter Tryz.func167,Tryz.ntmps167
  go_upto_region 2 with (fail)
  refine kP (G:=fun w0=>Code.wp _ _ _ _ w0) (R:=fun w1=>w1.heap[w.heap.size]? = some (.cells #[.int .i64 0,.int .i64 0] 33 (0,0))/\w1.heap[w.heap.size+1]? = some (.cells #[.int .i64 lo,.int .i64 hi] 33 (0,0))/\Only [] w w1) ?_ ?_
  ·skip
   have k0:=bA w (.cells #[.int .i64 0,.int .i64 0] 33);have k1:=bA (w.alloc (.cells #[.int .i64 0,.int .i64 0] 33)) (.cells #[.int .i64 lo,.int .i64 hi] 33);simp only[World.size_alloc] at k0 k1;exact⟨(alloc_old k0),k1,(((Only.refl [] w).alloc _).alloc _)⟩
  rintro w1 ⟨h1,h2,ho1⟩;obtain⟨b1,hb1⟩:∃ b,w.heap.size=b:=⟨_,rfl⟩;obtain⟨b2,hb2⟩:∃ b,w.heap.size+1=b:=⟨_,rfl⟩;have HN:Hid (w.heap.size<=b1/\w.heap.size<=b2/\b1≠b2/\b2≠b1):=hid (by omega);rw[hb1] at h1;rw[hb2] at h2;rw[show w.heap.size+1=b2 from hb2,hb1];have B1:=hid h1;have B2:=hid h2;have OO:=hid ho1;clear h1 h2 hb1 hb2;clear ho1;have k1:=c_2 B1.out;have k2:=c_2 B2.out;go_wp2_with fail
  refine (HC.out _).mono ?_;rintro e w2 ⟨rfl,ho⟩;clear k1 k2;replace OO:=hid (OO.out.aB ho);replace B1:=hid (ho.got B1.out (by simp));replace B2:=hid (ho.got B2.out (by simp));clear ho;have k1:=c_2 B1.out;have k2:=c_2 B2.out;go_wp2;have HD:=aG (o:=1) (.int .i64 0) (aG (o:=0) (.int .i64 0) (B1.out));have e0:=aA HD 0;have e1:=aA HD 1;have le:=aD HD;refine bodyPost_ret (v:=.tuple #[.agg #[.int .i64 0,.int .i64 0],.int .i64 3]) (by simp[results,Tryz.results167,go_sem,e0,e1]) rfl ⟨rfl,((OO.out.setCell (.inr HN.out.1) _).setCell (.inr HN.out.1) _)⟩
 ·rw[hok] at HC HR
  obtain⟨⟨rfl,rfl⟩,rfl⟩:(r0=lo/\r1=hi)/\re=0:=by have:=HR.out;simpa using this
  unfold dS at HC |-;dsimp only at HC |-;clear HR hok;go_enter Tryz.func167,Tryz.ntmps167
  go_upto_region 2 with (fail)
  refine kP (G:=fun w0=>Code.wp _ _ _ _ w0) (R:=fun w1=>w1.heap[w.heap.size]? = some (.cells #[.int .i64 0,.int .i64 0] 33 (0,0))/\w1.heap[w.heap.size+1]? = some (.cells #[.int .i64 r0,.int .i64 r1] 33 (0,0))/\Only [] w w1) ?_ ?_
  ·skip
   have k0:=bA w (.cells #[.int .i64 0,.int .i64 0] 33);have k1:=bA (w.alloc (.cells #[.int .i64 0,.int .i64 0] 33)) (.cells #[.int .i64 r0,.int .i64 r1] 33);simp only[World.size_alloc] at k0 k1;exact⟨(alloc_old k0),k1,(((Only.refl [] w).alloc _).alloc _)⟩
  rintro w1 ⟨h1,h2,ho1⟩;obtain⟨b1,hb1⟩:∃ b,w.heap.size=b:=⟨_,rfl⟩;obtain⟨b2,hb2⟩:∃ b,w.heap.size+1=b:=⟨_,rfl⟩;have HN:Hid (w.heap.size<=b1/\w.heap.size<=b2/\b1≠b2/\b2≠b1):=hid (by omega);rw[hb1] at h1;rw[hb2] at h2;rw[show w.heap.size+1=b2 from hb2,hb1];have B1:=hid h1;have B2:=hid h2;have OO:=hid ho1;clear h1 h2 hb1 hb2;clear ho1;have k1:=c_2 B1.out;have k2:=c_2 B2.out;go_wp2_with fail
  refine (HC.out _).mono ?_;rintro e w2 ⟨rfl,ho⟩;clear k1 k2;replace OO:=hid (OO.out.aB ho);replace B1:=hid (ho.got B1.out (by simp));replace B2:=hid (ho.got B2.out (by simp));clear ho;have k1:=c_2 B1.out;have k2:=c_2 B2.out;go_wp2;have HD:=aG (o:=1) (.int .i64 r1) (aG (o:=0) (.int .i64 r0) (B1.out));have e0:=aA HD 0;have e1:=aA HD 1;have le:=aD HD;refine bodyPost_ret (v:=.tuple #[.agg #[.int .i64 r0,.int .i64 r1],.int .i64 0]) (by simp[results,Tryz.results167,go_sem,e0,e1]) rfl ⟨rfl,((OO.out.setCell (.inr HN.out.1) _).setCell (.inr HN.out.1) _)⟩
theorem JM (raw tol:Int) (w:World) :
  Calls Tryz.prog 183 #[.int .i64 raw,.int .i64 tol] w fun e w'=>e=.returned (.tuple (if lH raw tol=true then #[.int .i64 (yI raw tol),.int .i64 (rR raw tol),.int .i64 0] else #[.int .i64 0,.int .i64 0,.int .i64 3]))/\Only [] w w':=by
 by_cases h0:raw<0
 ·have a0:decide (raw<0)=true:=dF h0
  rw[show lH raw tol=false from by unfold lH;rw[decide_eq_false_iff_not];omega];go_enter Tryz.func183,Tryz.ntmps183
  have OO:=hid (Only.refl [] w);go_wp2;go_ret3
  exact⟨rfl,OO.out⟩
 ·have a0:decide (raw<0)=false:=bR h0
  by_cases h1:2251799813685248<raw
  ·have a1:decide (2251799813685248<raw)=true:=dF h1
   rw[show lH raw tol=false from by unfold lH;rw[decide_eq_false_iff_not];omega];go_enter Tryz.func183,Tryz.ntmps183
   have OO:=hid (Only.refl [] w);go_wp2;go_ret3
   exact⟨rfl,OO.out⟩
  ·have a1:decide (2251799813685248<raw)=false:=bR h1
   by_cases h2:tol<0
   ·have a2:decide (tol<0)=true:=dF h2
    rw[show lH raw tol=false from by unfold lH;rw[decide_eq_false_iff_not];omega];go_enter Tryz.func183,Tryz.ntmps183
    have OO:=hid (Only.refl [] w);go_wp2;go_ret3
    exact⟨rfl,OO.out⟩
   ·have a2:decide (tol<0)=false:=bR h2
    by_cases h3:500000<tol
    ·have a3:decide (500000<tol)=true:=dF h3
     rw[show lH raw tol=false from by unfold lH;rw[decide_eq_false_iff_not];omega];go_enter Tryz.func183,Tryz.ntmps183
     have OO:=hid (Only.refl [] w);go_wp2;go_ret3
     exact⟨rfl,OO.out⟩
    ·have a3:decide (500000<tol)=false:=bR h3
     have hok:lH raw tol=true:=BS.2 (by omega);have hl:=lo_bd hok;have hh:=hi_bd hok;have HE:Hid (yI raw tol=max 0 ((raw-1)*1000000000 / (1000000000+tol)+1)/\rR raw tol= -(-(raw+1)*1000000000 / (1000000000-tol))-1):=hid ⟨rfl,rfl⟩;have HM1:=hid (fun w'=>jU (mF (raw-1) 1000000000 (1000000000+tol) w' (by omega) (by omega) (by omega) (by omega) (by omega) (by omega)));have HM2:=hid (fun w'=>jU (mF (-(raw+1)) 1000000000 (1000000000-tol) w' (by omega) (by omega) (by omega) (by omega) (by omega) (by omega)));generalize (raw-1)*1000000000 / (1000000000+tol)=x1 at hl HE HM1;generalize -(raw+1)*1000000000 / (1000000000-tol)=x2 at hh HE HM2;rw[fU (by omega) (by omega),gM (by omega) (by omega)] at HM1 HM2;rw[hok];generalize yI raw tol=y1 at HE |-;generalize rR raw tol=y2 at HE |-;obtain⟨l1,l2⟩:=hl;obtain⟨g1,g2⟩:=hh;clear hok;go_enter Tryz.func183,Tryz.ntmps183
     have OO:=hid (Only.refl [] w);go_wp2_with fail
     refine (HM1.out _).mono ?_;rintro e w2 ⟨rfl,ho⟩;replace OO:=hid (OO.out.aB ho);clear ho;go_wp2_with fail
     refine (HM2.out _).mono ?_;rintro e w3 ⟨rfl,ho⟩;replace OO:=hid (OO.out.aB ho);clear ho;go_wp2;go_ret3
     exact⟨by rw[HE.out.1,HE.out.2];rfl,OO.out⟩
theorem pAge (x:Iv) (raw tol:Int) (w:World) :
  Calls Tryz.prog 172 #[dS x,.int .i64 raw,.int .i64 tol] w fun e w'=>e=.returned (.tuple #[dS (K5 x raw tol).1,.int .i64 (K5 x raw tol).2])/\Only [] w w':=by
 obtain⟨lo,hi⟩:=x;have HC:=hid (fun w'=>dH ⟨lo,hi⟩ w');have HE:=hid (fun w'=>JM raw tol w');have hib:=fun h=>nM.1 (show bW ⟨lo,hi⟩=true from h);have heb:=fun h=>el_bd (show lH raw tol=true from h);have HR:Hid (K5 ⟨lo,hi⟩ raw tol=if bW ⟨lo,hi⟩=true then (if lH raw tol=true then TP (lo+yI raw tol) (hi+rR raw tol) else (⟨0,0⟩,3)) else (⟨0,0⟩,2)):=hid rfl;generalize K5 ⟨lo,hi⟩ raw tol=res at HR |-;have HV:=hid (fun w'=>BG (lo+yI raw tol) (hi+rR raw tol) w');generalize TP (lo+yI raw tol) (hi+rR raw tol)=cv at HV HR;generalize hia:bW ⟨lo,hi⟩=oka at HC HR hib;generalize lH raw tol=oke at HE HR heb;generalize yI raw tol=el at *;generalize rR raw tol=eh at *;clear hia;obtain⟨⟨c1,c2⟩,ce⟩:=cv;unfold dS at HC HV |-;dsimp only at HC HV |-
 cases oka with
 | false =>
  obtain rfl:res=(⟨0,0⟩,2):=by have:=HR.out;simpa using this
  clear HR hib heb HE HV;have m:=dD w [];have k:=m.out.k;go_enter Tryz.func172,Tryz.ntmps172
  go_wp2_with (first|((with_reducible first|refine cM (HC.out _) ?_|refine wU ?_);clear k m;intro w m k)|((with_reducible refine lE (fun w o g k K hK=>⟨rfl,?_⟩));simp[results,Tryz.results172,go_sem,k];refine hK _ ?_;exact⟨rfl,o⟩))
 | true =>
  cases oke with
  | false =>
   obtain rfl:res=(⟨0,0⟩,3):=by have:=HR.out;simpa using this
   clear HR hib heb HV;have m:=dD w [];have k:=m.out.k;go_enter Tryz.func172,Tryz.ntmps172
   go_wp2_with (first|((with_reducible first|refine cM (HC.out _) ?_|refine cM (HE.out _) ?_|refine wU ?_);clear k m;intro w m k)|((with_reducible refine lE (fun w o g k K hK=>⟨rfl,?_⟩));simp[results,Tryz.results172,go_sem,k];refine hK _ ?_;exact⟨rfl,o⟩))
  | true =>
   obtain rfl:res=(⟨c1,c2⟩,ce):=by have:=HR.out;simpa using this
   obtain⟨i1,i2,i3⟩:=hib rfl;obtain⟨e1,e2,e3,e4⟩:=heb rfl;dsimp only at i1 i2 i3;have r1:IntKind.i64.wrap (lo+el)=lo+el:=by rw[wrap_i64];omega
   have r2:IntKind.i64.wrap (hi+eh)=hi+eh:=by rw[wrap_i64];omega
   have r3:IntKind.i64.wrap (hi+eh-0)=hi+eh:=by rw[wrap_i64];omega
   have r4:decide (eh<0)=false:=bR (by omega);clear HR hib heb i1 i2 i3 e1 e2 e3 e4;have m:=dD w [];have k:=m.out.k;go_enter Tryz.func172,Tryz.ntmps172
   go_wp2_with (first|((with_reducible first|refine cM (HC.out _) ?_|refine cM (HE.out _) ?_|refine cM (HV.out _) ?_|refine wU ?_);clear k m;intro w m k)|((with_reducible refine lE (fun w o g k K hK=>⟨rfl,?_⟩));simp[results,Tryz.results172,go_sem,k];refine hK _ ?_;exact⟨rfl,o⟩))
theorem pTrip (x:Iv) (raw tol:Int) (w:World) :
  Calls Tryz.prog 229 #[dS x,.int .i64 raw,.int .i64 0,.int .i64 tol] w fun e w'=>e=.returned (.tuple #[dS (qC x raw tol).1,.int .i64 (qC x raw tol).2])/\Only [] w w':=by
 obtain⟨lo,hi⟩:=x;have HC:=hid (fun w'=>dH ⟨lo,hi⟩ w');have HE:=hid (fun w'=>JM raw tol w');have hib:=fun h=>nM.1 (show bW ⟨lo,hi⟩=true from h);have heb:=fun h=>el_bd (show lH raw tol=true from h);have HR:Hid (qC ⟨lo,hi⟩ raw tol=if bW ⟨lo,hi⟩=true then (if lH raw tol=true then TP (lo) (hi+rR raw tol) else (⟨0,0⟩,3)) else (⟨0,0⟩,2)):=hid rfl;generalize qC ⟨lo,hi⟩ raw tol=res at HR |-;have HV:=hid (fun w'=>BG (lo) (hi+rR raw tol) w');generalize TP (lo) (hi+rR raw tol)=cv at HV HR;generalize hia:bW ⟨lo,hi⟩=oka at HC HR hib;generalize lH raw tol=oke at HE HR heb;generalize yI raw tol=el at *;generalize rR raw tol=eh at *;clear hia;obtain⟨⟨c1,c2⟩,ce⟩:=cv;unfold dS at HC HV |-;dsimp only at HC HV |-
 cases oka with
 | false =>
  obtain rfl:res=(⟨0,0⟩,2):=by have:=HR.out;simpa using this
  clear HR hib heb HE HV;have m:=dD w [];have k:=m.out.k;go_enter Tryz.func229,Tryz.ntmps229
  go_wp2_with (first|((with_reducible first|refine cM (HC.out _) ?_|refine wU ?_);clear k m;intro w m k)|((with_reducible refine lE (fun w o g k K hK=>⟨rfl,?_⟩));simp[results,Tryz.results229,go_sem,k];refine hK _ ?_;exact⟨rfl,o⟩))
 | true =>
  cases oke with
  | false =>
   obtain rfl:res=(⟨0,0⟩,3):=by have:=HR.out;simpa using this
   clear HR hib heb HV;have m:=dD w [];have k:=m.out.k;go_enter Tryz.func229,Tryz.ntmps229
   go_wp2_with (first|((with_reducible first|refine cM (HC.out _) ?_|refine cM (HE.out _) ?_|refine wU ?_);clear k m;intro w m k)|((with_reducible refine lE (fun w o g k K hK=>⟨rfl,?_⟩));simp[results,Tryz.results229,go_sem,k];refine hK _ ?_;exact⟨rfl,o⟩))
  | true =>
   obtain rfl:res=(⟨c1,c2⟩,ce):=by have:=HR.out;simpa using this
   obtain⟨i1,i2,i3⟩:=hib rfl;obtain⟨e1,e2,e3,e4⟩:=heb rfl;dsimp only at i1 i2 i3;have r1:IntKind.i64.wrap (lo+el)=lo+el:=by rw[wrap_i64];omega
   have r2:IntKind.i64.wrap (hi+eh)=hi+eh:=by rw[wrap_i64];omega
   have r3:IntKind.i64.wrap (hi+eh-0)=hi+eh:=by rw[wrap_i64];omega
   have r4:decide (eh<0)=false:=bR (by omega);clear HR hib heb i1 i2 i3 e1 e2 e3 e4;have m:=dD w [];have k:=m.out.k;go_enter Tryz.func229,Tryz.ntmps229
   go_wp2_with (first|((with_reducible first|refine cM (HC.out _) ?_|refine cM (HE.out _) ?_|refine cM (HV.out _) ?_|refine wU ?_);clear k m;intro w m k)|((with_reducible refine lE (fun w o g k K hK=>⟨rfl,?_⟩));simp[results,Tryz.results229,go_sem,k];refine hK _ ?_;exact⟨rfl,o⟩))
end
section
open Go.RowKit
def bT (n lo hi:Int):Bool:=decide (lo<=n) && decide (n<=hi)
theorem aW {n lo hi:Int}:bT n lo hi=true↔lo<=n/\n<=hi:=by simp[bT]
theorem nY {n lo hi:Int}:bT n lo hi=false↔¬ (lo<=n/\n<=hi):=by rw[<-aW];simp
structure K9 where
 bits:Int
 poll:Int
 mn:Int
 mx:Int
 cnt:Int
deriving DecidableEq,Inhabited
def I9 (r:K9):Value:=.agg #[.int .i64 r.bits,.int .i64 r.poll,.int .i64 r.mn,.int .i64 r.mx,.int .i64 r.cnt]
def mM (r:K9):Int:=if bT r.bits 0 255 && (bT r.mn 3 17 && bT r.mx 3 17) then (if r.mx<r.mn then 12 else if bT r.poll r.mn r.mx && bT r.cnt (-30) 30 then 0 else 3) else 3
def rc0:K9:=⟨0,0,0,0,0⟩
def oG (r:K9):K9:=if mM r=0 then { r with bits:=r.bits*2 % 256 } else rc0
def JA (r:K9):K9:=if mM r=0 then { r with poll:=min (r.poll+2) r.mx,cnt:=0 } else rc0
def AP (r:K9):Bool:=decide (mM r=0) && !decide (r.bits=0)
def AO (off jit:Int):Bool:=decide ((off.natAbs:Int) / 4<max jit 0)
def AQ (r:K9) (off jit:Int):K9:=if mM r=0 then (if AO off jit=true then (if 30<r.cnt+r.poll then { r with cnt:=0,poll:=min (r.poll+1) r.mx } else { r with cnt:=r.cnt+r.poll }) else (if r.cnt-2*r.poll < -30 then { r with cnt:=0,poll:=max (r.poll-1) r.mn } else { r with cnt:=r.cnt-2*r.poll })) else rc0
theorem rchk_ok {r:K9}:mM r=0↔(0<=r.bits/\r.bits<=255)/\(3<=r.mn/\r.mn<=17)/\(3<=r.mx/\r.mx<=17)/\r.mn<=r.mx/\(r.mn<=r.poll/\r.poll<=r.mx)/\ -30<=r.cnt/\r.cnt<=30:=by
 unfold mM;simp only[Bool.and_eq_true,aW];split
 ·split
  ·constructor
   ·intro h;cases h
   ·intro h;omega
  ·split
   ·constructor
    ·intro _;omega
    ·intro _;rfl
   ·constructor
    ·intro h;cases h
    ·intro h;omega
 ·constructor
  ·intro h;cases h
  ·intro h;omega
structure iM where
 off:Int
 dly:Int
 dsp:Int
 tat:Int
deriving DecidableEq,Inhabited
def jR (s:iM):List Value:=[.int .i64 s.off,.int .i64 s.dly,.int .i64 s.dsp,.int .i64 s.tat]
def vX (s:iM):Value:=.agg #[.int .i64 s.off,.int .i64 s.dly,.int .i64 s.dsp,.int .i64 s.tat]
theorem iD (s:iM):(jR s).length=4:=rfl
def fI (t:Int):Bool:=bT t (-4503599627370496) 4503599627370496
def isSp (t:Int):Bool:=bT t 0 9007199254740992
def yH (t:Int):Bool:=bT t 0 500000
def gD (s:iM):Int:=if fI s.off && (isSp s.dly && (isSp s.dsp && fI s.tat)) then 0 else 3
def uK:iM:=⟨0,0,0,0⟩
theorem qY {s:iM}:gD s=0↔(-4503599627370496<=s.off/\s.off<=4503599627370496)/\(0<=s.dly/\s.dly<=9007199254740992)/\(0<=s.dsp/\s.dsp<=9007199254740992)/\ -4503599627370496<=s.tat/\s.tat<=4503599627370496:=by
 unfold gD fI isSp;simp only[Bool.and_eq_true,aW];split
 ·exact⟨fun _=>by omega,fun _=>rfl⟩
 ·exact⟨fun h=>absurd h (by decide),fun h=>by omega⟩
theorem uO (s:iM):gD s=0\/gD s=3:=by unfold gD;split<;>simp
def oJ (d tol:Int):Int:=-(-d*tol / 1000000000)
theorem YT {d tol:Int} (h0:0<=d) (h1:d<=9007199254740992) (h2:0<=tol) (h3:tol<=500000):0<=oJ d tol/\oJ d tol<=d:=by
 unfold oJ;have hm:=md_bd (a:=tol) (b:=-d) (c:=1000000000) h2 (by omega) (by omega);rw[Int.mul_comm] at hm;by_cases hd:d=0
 ·subst hd;simp
 ·have:=hm.2 (by omega);omega
structure Qd where
 t1:Int
 t2:Int
 t3:Int
 t4:Int
deriving DecidableEq,Inhabited
def sofR (q:Qd) (prec tol:Int):iM:=⟨((q.t2-q.t1)+(q.t3-q.t4)) / 2,max prec (q.t4-q.t1-(q.t3-q.t2)),prec+oJ (q.t4-q.t1) tol,q.t4⟩
def sof (q:Qd) (prec tol:Int):iM × Int:=
 if fI q.t1 && (fI q.t2 && (fI q.t3 && fI q.t4)) then
  (if bT prec 1 1000000000 && yH tol then
   (if q.t4<q.t1\/q.t3<q.t2 then (uK,12) else (if gD (sofR q prec tol)=0 then (sofR q prec tol,0) else (uK,3)))
  else (uK,3))
 else (uK,3)
def xD (s:iM):Int:=if gD s=0 then (s.dly+1) / 2+s.dsp else 0
def uL (s:iM) (now tol:Int):iM × Int:=
 if gD s=0 then (if fI now && yH tol then (if now<s.tat then (uK,12) else (if gD ⟨s.off,s.dly,s.dsp+oJ (now-s.tat) tol,now⟩=0 then (⟨s.off,s.dly,s.dsp+oJ (now-s.tat) tol,now⟩,0) else (uK,3))) else (uK,3)) else (uK,3)
structure FB where
 str:Int
 dly:Int
 dsp:Int
 ref:Int
deriving DecidableEq,Inhabited
def IU (r:FB):Value:=.agg #[.int .i64 r.str,.int .i64 r.dly,.int .i64 r.dsp,.int .u32 r.ref]
def LC:FB:=⟨0,0,0,0⟩
def kX (r:FB):Int:=if bT r.str 1 16 && (isSp r.dly && isSp r.dsp) then 0 else 3
structure Np where
 leap:Int
 ver:Int
 mode:Int
 strat:Int
 poll:Int
 prec:Int
 rdel:Int
 rdsp:Int
 rid:Int
 ref:Int
 org:Int
 rcv:Int
 xmt:Int
deriving DecidableEq,Inhabited
def iL (p:Np):Value:=.agg #[.int .i64 p.leap,.int .i64 p.ver,.int .i64 p.mode,.int .i64 p.strat,.int .i64 p.poll,.int .i64 p.prec,.int .u32 p.rdel,.int .u32 p.rdsp,.int .u32 p.rid,.int .u64 p.ref,.int .u64 p.org,.int .u64 p.rcv,.int .u64 p.xmt]
def yC:Np:=⟨0,0,0,0,0,0,0,0,0,0,0,0,0⟩
def eP (p:Np):Prop:=(0<=p.rdel/\p.rdel<=4294967295)/\(0<=p.rdsp/\p.rdsp<=4294967295)/\(0<=p.rid/\p.rid<=4294967295)/\(0<=p.org/\p.org<=18446744073709551615)/\(0<=p.rcv/\p.rcv<=18446744073709551615)/\(0<=p.xmt/\p.xmt<=18446744073709551615)/\(0<=p.ref/\p.ref<=18446744073709551615)
def qM (p:Np):Int:=if bT p.leap 0 3 && (bT p.ver 1 4 && (bT p.mode 0 7 && (bT p.strat 0 255 && (bT p.poll (-128) 127 && bT p.prec (-128) 127)))) then 0 else 3
def xG (p:Np):Bool:=!decide (p.leap=3) && bT p.strat 1 15
def iI (s:Int):Int:=(s*1000000000+65535) / 65536
theorem GJ {s:Int} (h0:0<=s) (h1:s<=4294967295):0<=iI s/\iI s<=65536000000000:=by unfold iI;omega
def joinR (p:Np) (s:iM) (id:Int):FB:=⟨p.strat+1,iI p.rdel+s.dly,iI p.rdsp+s.dsp+max s.off (-s.off),id⟩
def uX (p:Np) (s:iM) (id:Int):FB × Int:=
 if qM p=0/\gD s=0 then (if xG p=true then (if kX (joinR p s id)=0 then (joinR p s id,0) else (LC,3)) else (LC,15)) else (LC,2)
theorem iK {w:World} {b:Nat} {p:Addr} {o:Obj} (v:Value) (h:w.heap[b]? = some o) (hn:b≠p.block):(w.setCell p v).heap[b]? = some o:=
 (((Only.refl [p.block] w).setCell (.inl (List.mem_singleton.2 rfl)) v).got h (by simpa using hn))
end
section
open Go.RowKit
def P6:Option Iv->Value
 | some x=>.tuple #[.agg #[.int .i64 x.lo,.int .i64 x.hi],.bool true]
 | none=>.tuple #[.agg #[.int .i64 0,.int .i64 0],.bool false]
theorem pMeet (a b:Iv) (w:World) :
  Calls Tryz.prog 159 #[dS a,dS b] w fun e w'=>e=.returned (P6 (vD a b))/\Only [] w w':=by
 obtain⟨al,ah⟩:=a;obtain⟨bl,bh⟩:=b;have HA:=hid (dH ⟨al,ah⟩);have HB:=hid (dH ⟨bl,bh⟩);obtain⟨res,HE⟩:∃ r,Hid (vD ⟨al,ah⟩ ⟨bl,bh⟩=r):=⟨_,hid rfl⟩;rw[HE.out];unfold vD at HE;generalize bW ⟨al,ah⟩=oka at HA HE;generalize bW ⟨bl,bh⟩=okb at HB HE;unfold dS at HA HB |-;dsimp only at HA HB HE |-;have m:=dD w [];have k:=m.out.k;go_enter Tryz.func159,Tryz.ntmps159
 go_wp2_with (first|((with_reducible first|refine cM (HA.out _) ?_|refine cM (HB.out _) ?_|refine wU ?_);clear k m;intro w m k)|((with_reducible refine lF (fun w k=>⟨rfl,?_⟩));rw[<-HE.out];simp[results,Tryz.results159,go_sem,k]))
 all_goals first|rfl|(clear k m;go_tidy;grind [P6])|trace_state
theorem WM (x:Iv) (w:World) :
  Calls Tryz.prog 230 #[dS x] w fun e w'=>e=.returned (.int .i64 (FM x))/\Only [] w w':=by
 obtain⟨lo,hi⟩:=x;have HA:=hid (fun w'=>dH ⟨lo,hi⟩ w');have hib:=fun h=>nM.1 (show bW ⟨lo,hi⟩=true from h);have HR:Hid (FM ⟨lo,hi⟩=if bW ⟨lo,hi⟩=true then (if hi-lo<=9223372036854775807 then hi-lo else 9223372036854775807) else 0):=hid rfl;generalize FM ⟨lo,hi⟩=res at HR |-
 cases hok:bW ⟨lo,hi⟩
 focus
  rw[hok] at HA HR;obtain rfl:res=0:=by have:=HR.out;simpa using this
  unfold dS at HA |-;dsimp only at HA |-;clear HR hib hok;go_enter Tryz.func230,Tryz.ntmps230
  go_upto_region 1 with (fail)
  refine aF (G:=fun w0=>Code.wp _ _ _ _ w0) ?_;intro w1 hb1 ho1 hs1;obtain⟨b1,hbe1⟩:∃ b,w.heap.size=b:=⟨_,rfl⟩;rw[hbe1] at hb1;rw[hbe1];have HN:Hid (w.heap.size<=b1):=hid (by omega);have B1:=hid hb1;have OO:=hid ho1;clear hb1 hs1 hbe1;clear ho1;have k1:=c_2 B1.out;go_wp2_with fail
  refine (HA.out _).mono ?_;rintro e w2 ⟨rfl,ho⟩
 rotate_left
 focus
  obtain⟨i0,i1,i2⟩:=hib hok;rw[hok] at HA HR;dsimp only at i0 i1 i2;have HS:=hid (fun w'=>jD (fsub hi lo w' (by omega) (by omega) (by omega) (by omega)));unfold dS at HA |-;dsimp only at HA |-;clear hib hok;by_cases hf:hi-lo<=9223372036854775807
  focus
   obtain rfl:res=hi-lo:=by have:=HR.out;rw[if_pos rfl,if_pos hf] at this;exact this
   rw[fU (by omega) hf,gM (by omega) hf] at HS
  rotate_left
  focus
   obtain rfl:res=9223372036854775807:=by have:=HR.out;rw[if_pos rfl,if_neg hf] at this;exact this
   rw[kW (by omega),jX (by omega)] at HS
  rotate_left
  all_goals
   clear HR;go_enter Tryz.func230,Tryz.ntmps230
   go_upto_region 1 with (fail)
   refine aF (G:=fun w0=>Code.wp _ _ _ _ w0) ?_;intro w1 hb1 ho1 hs1;obtain⟨b1,hbe1⟩:∃ b,w.heap.size=b:=⟨_,rfl⟩;rw[hbe1] at hb1;rw[hbe1];have HN:Hid (w.heap.size<=b1):=hid (by omega);have B1:=hid hb1;have OO:=hid ho1;clear hb1 hs1 hbe1;clear ho1;have k1:=c_2 B1.out;go_wp2_with fail
   refine (HA.out _).mono ?_;rintro e w2 ⟨rfl,ho⟩;clear k1;replace OO:=hid (OO.out.aB ho);replace B1:=hid (ho.got B1.out (by simp));clear ho;have k1:=c_2 B1.out;go_wp2_with fail
   refine (HS.out _).mono ?_;rintro e w3 ⟨rfl,ho⟩
 rotate_left 2
 all_goals
  clear k1;replace OO:=hid (OO.out.aB ho);replace B1:=hid (ho.got B1.out (by simp));clear ho;have k1:=c_2 B1.out;go_wp2;go_ret
  exact⟨rfl,OO.out⟩
theorem uT (n lo hi:Int) (w:World) :
  Calls Tryz.prog 113 #[.int .i64 n,.int .i64 lo,.int .i64 hi] w fun e w'=>e=.returned (.bool (bT n lo hi))/\Only [] w w':=by
 by_cases h1:lo<=n
 focus
  have a1:decide (lo<=n)=true:=dF h1;obtain⟨r,hr⟩:∃ r,decide (n<=hi)=r:=⟨_,rfl⟩;rw[show bT n lo hi=r from by unfold bT;rw[a1,hr];rfl]
 rotate_left
 focus
  have a1:decide (lo<=n)=false:=bR h1;rw[show bT n lo hi=false from by unfold bT;rw[a1];rfl]
 rotate_left
 all_goals
  go_enter Tryz.func113,Tryz.ntmps113
  have OO:=hid (Only.refl [] w);go_wp2;go_ret
  exact⟨rfl,OO.out⟩
theorem PE (r:K9) (w:World) :
  Calls Tryz.prog 108 #[I9 r] w fun e w'=>e=.returned (.int .i64 (mM r))/\Only [] w w':=by
 obtain⟨bi,po,mn,mx,cn⟩:=r;obtain⟨res,HE⟩:∃ r,Hid (mM ⟨bi,po,mn,mx,cn⟩=r):=⟨_,hid rfl⟩;rw[HE.out];unfold mM at HE;dsimp only at HE;have H1:=hid (fun w'=>uT bi 0 255 w');generalize bT bi 0 255=b1 at H1 HE;have H2:=hid (fun w'=>uT mn 3 17 w');generalize bT mn 3 17=b2 at H2 HE;have H3:=hid (fun w'=>uT mx 3 17 w');generalize bT mx 3 17=b3 at H3 HE;have H4:=hid (fun w'=>uT po mn mx w');generalize bT po mn mx=b4 at H4 HE;have H5:=hid (fun w'=>uT cn (-30) 30 w');generalize bT cn (-30) 30=b5 at H5 HE;unfold I9;dsimp only;have m:=dD w [];have k:=m.out.k;go_enter Tryz.func108,Tryz.ntmps108
 go_wp2_with (first|((with_reducible first|refine cM (H1.out _) ?_|refine cM (H2.out _) ?_|refine cM (H3.out _) ?_|refine cM (H4.out _) ?_|refine cM (H5.out _) ?_|refine wU ?_);clear k m;intro w m k)|((with_reducible refine lF (fun w _=>⟨rfl,?_⟩));rw[<-HE.out];simp[results,Tryz.results108,go_sem]))
 all_goals first|rfl|(clear k m;go_tidy;grind)|trace_state
theorem pShift (r:K9) (w:World) :
  Calls Tryz.prog 104 #[I9 r,.bool false] w fun e w'=>e=.returned (I9 (oG r))/\Only [] w w':=by
 obtain⟨bi,po,mn,mx,cn⟩:=r;have HK:=hid (fun w'=>PE ⟨bi,po,mn,mx,cn⟩ w')
 have hb:mM ⟨bi,po,mn,mx,cn⟩=0->(0<=bi/\bi<=255)/\(3<=mn/\mx<=17)/\(mn<=po/\po<=mx)/\(-30<=cn/\cn<=30):=fun h=>by
  unfold mM at h;dsimp only at h;split at h
  ·rename_i g1
   simp only[Bool.and_eq_true,aW] at g1;split at h
   ·exact absurd h (by decide)
   ·split at h
    ·rename_i g2
     simp only[Bool.and_eq_true,aW] at g2;omega
    ·exact absurd h (by decide)
  ·exact absurd h (by decide)
 obtain⟨res,HE⟩:∃ r,Hid (oG ⟨bi,po,mn,mx,cn⟩=r):=⟨_,hid rfl⟩;rw[HE.out];unfold oG at HE;dsimp only at HE;generalize mM ⟨bi,po,mn,mx,cn⟩=er at HK HE hb;unfold I9 at HK |-;dsimp only at HK |-;by_cases hz:er=0
 rotate_left
 ·clear hb
  have m:=dD w [];have k:=m.out.k;go_enter Tryz.func104,Tryz.ntmps104
  go_wp2_with (first|((with_reducible first|refine cM (HK.out _) ?_|refine wU ?_);clear k m;intro w m k)|((with_reducible refine lE (fun w o g k K hK=>⟨rfl,?_⟩));simp[results,Tryz.results104,go_sem,k];refine hK _ ?_;clear hK K k;rw[<-HE.out];(go_tidy;grind [rc0])))
 ·subst hz
  obtain⟨⟨b7,b8⟩,⟨b1,b2⟩,⟨b3,b4⟩,b5,b6⟩:=hb rfl;clear hb;rw[if_pos rfl] at HE;have r1:IntKind.i64.wrap (bi*2)=bi*2:=by rw[wrap_i64];omega
  have r2:(bi*2).tmod 256=bi*2 % 256:=Int.tmod_eq_emod_of_nonneg (by omega);have r3:IntKind.i64.wrap (bi*2 % 256)=bi*2 % 256:=by rw[wrap_i64];omega
  have he:=HE.out;subst he;clear b1 b2 b3 b4 b5 b6 b7 b8 HE;have m:=dD w [];have k:=m.out.k;go_enter Tryz.func104,Tryz.ntmps104
  go_wp2_with (first|((with_reducible first|refine cM (HK.out _) ?_|refine wU ?_);clear k m;intro w m k)|((with_reducible refine lE (fun w o g k K hK=>⟨rfl,?_⟩));simp[results,Tryz.results104,go_sem,k];refine hK _ ?_;exact⟨rfl,o⟩))
theorem pBack (r:K9) (w:World) :
  Calls Tryz.prog 219 #[I9 r] w fun e w'=>e=.returned (I9 (JA r))/\Only [] w w':=by
 obtain⟨bi,po,mn,mx,cn⟩:=r;have HK:=hid (fun w'=>PE ⟨bi,po,mn,mx,cn⟩ w')
 have hb:mM ⟨bi,po,mn,mx,cn⟩=0->(0<=bi/\bi<=255)/\(3<=mn/\mx<=17)/\(mn<=po/\po<=mx)/\(-30<=cn/\cn<=30):=fun h=>by
  unfold mM at h;dsimp only at h;split at h
  ·rename_i g1
   simp only[Bool.and_eq_true,aW] at g1;split at h
   ·exact absurd h (by decide)
   ·split at h
    ·rename_i g2
     simp only[Bool.and_eq_true,aW] at g2;omega
    ·exact absurd h (by decide)
  ·exact absurd h (by decide)
 obtain⟨res,HE⟩:∃ r,Hid (JA ⟨bi,po,mn,mx,cn⟩=r):=⟨_,hid rfl⟩;rw[HE.out];unfold JA at HE;dsimp only at HE;generalize mM ⟨bi,po,mn,mx,cn⟩=er at HK HE hb;unfold I9 at HK |-;dsimp only at HK |-;by_cases hz:er=0
 rotate_left
 ·clear hb
  have m:=dD w [];have k:=m.out.k;go_enter Tryz.func219,Tryz.ntmps219
  go_wp2_with (first|((with_reducible first|refine cM (HK.out _) ?_|refine wU ?_);clear k m;intro w m k)|((with_reducible refine lE (fun w o g k K hK=>⟨rfl,?_⟩));simp[results,Tryz.results219,go_sem,k];refine hK _ ?_;clear hK K k;rw[<-HE.out];(go_tidy;grind [rc0])))
 ·subst hz
  obtain⟨⟨b7,b8⟩,⟨b1,b2⟩,⟨b3,b4⟩,b5,b6⟩:=hb rfl;clear hb;rw[if_pos rfl] at HE;have r1:IntKind.i64.wrap (po+2)=po+2:=by rw[wrap_i64];omega
  have he:=HE.out;subst he;clear b1 b2 b3 b4 b5 b6 b7 b8 HE;have m:=dD w [];have k:=m.out.k;go_enter Tryz.func219,Tryz.ntmps219
  go_wp2_with (first|((with_reducible first|refine cM (HK.out _) ?_|refine wU ?_);clear k m;intro w m k)|((with_reducible refine lE (fun w o g k K hK=>⟨rfl,?_⟩));simp[results,Tryz.results219,go_sem,k];refine hK _ ?_;exact⟨rfl,o⟩))
theorem pReach (r:K9) (w:World) :
  Calls Tryz.prog 259 #[I9 r] w fun e w'=>e=.returned (.bool (AP r))/\Only [] w w':=by
 obtain⟨bi,po,mn,mx,cn⟩:=r;have HC:=hid (fun w'=>PE ⟨bi,po,mn,mx,cn⟩ w');have hb:=fun h=>rchk_ok.1 (show mM ⟨bi,po,mn,mx,cn⟩=0 from h);have HE:Hid (AP ⟨bi,po,mn,mx,cn⟩=(decide (mM ⟨bi,po,mn,mx,cn⟩=0) && !decide (bi=0))):=hid rfl;generalize AP ⟨bi,po,mn,mx,cn⟩=res at HE |-;clear hb;generalize mM ⟨bi,po,mn,mx,cn⟩=er at HC HE;unfold I9 at HC |-;dsimp only at HC |-;by_cases h0:er=0
 focus
  subst h0;by_cases hz:bi=0
  focus
   subst hz;obtain rfl:res=false:=by rw[HE.out];rfl
   clear HE
  rotate_left
  focus
   have q1:(bi != 0)=true:=by simpa using hz
   have q2:(bi == 0)=false:=by simpa using hz
   obtain rfl:res=true:=by rw[HE.out,bR hz];rfl
   clear HE hz
  rotate_left
 rotate_left 2
 focus
  have q2:(er == 0)=false:=by simpa using h0
  obtain rfl:res=false:=by rw[HE.out,bR h0];rfl
  clear HE h0
 rotate_left
 all_goals
  go_enter Tryz.func259,Tryz.ntmps259
  go_upto_region 1 with (fail)
  refine aF (G:=fun w0=>Code.wp _ _ _ _ w0) ?_;intro w1 hb1 ho1 hs1;obtain⟨b1,hbe1⟩:∃ b,w.heap.size=b:=⟨_,rfl⟩;rw[hbe1] at hb1;rw[hbe1];have HN:Hid (w.heap.size<=b1):=hid (by omega);have B1:=hid hb1;have OO:=hid ho1;clear hb1 hs1 hbe1;clear ho1;have k1:=E8 B1.out;go_wp2_with fail
  refine (HC.out _).mono ?_;rintro e w2 ⟨rfl,ho⟩;clear k1;replace OO:=hid (OO.out.aB ho);replace B1:=hid (ho.got B1.out (by simp));clear ho;have k1:=E8 B1.out;go_wp2;go_ret
  exact⟨rfl,OO.out⟩
theorem uU (n:Int) (w:World) :
  Calls Tryz.prog 254 #[.int .i64 n] w fun e w'=>e=.returned (.bool (fI n))/\Only [] w w':=by
 by_cases h1:(-4503599627370496:Int)<=n
 focus
  have a1:decide ((-4503599627370496:Int)<=n)=true:=dF h1;obtain⟨r,hr⟩:∃ r,decide (n<=(4503599627370496:Int))=r:=⟨_,rfl⟩;rw[show fI n=r from by unfold fI bT;rw[a1,hr];rfl]
 rotate_left
 focus
  have a1:decide ((-4503599627370496:Int)<=n)=false:=bR h1;rw[show fI n=false from by unfold fI bT;rw[a1];rfl]
 rotate_left
 all_goals
  go_enter Tryz.func254,Tryz.ntmps254
  have OO:=hid (Only.refl [] w);go_wp2;go_ret
  exact⟨rfl,OO.out⟩
theorem XF (n:Int) (w:World) :
  Calls Tryz.prog 255 #[.int .i64 n] w fun e w'=>e=.returned (.bool (yH n))/\Only [] w w':=by
 by_cases h1:(0:Int)<=n
 focus
  have a1:decide ((0:Int)<=n)=true:=dF h1;obtain⟨r,hr⟩:∃ r,decide (n<=(500000:Int))=r:=⟨_,rfl⟩;rw[show yH n=r from by unfold yH bT;rw[a1,hr];rfl]
 rotate_left
 focus
  have a1:decide ((0:Int)<=n)=false:=bR h1;rw[show yH n=false from by unfold yH bT;rw[a1];rfl]
 rotate_left
 all_goals
  go_enter Tryz.func255,Tryz.ntmps255
  have OO:=hid (Only.refl [] w);go_wp2;go_ret
  exact⟨rfl,OO.out⟩
theorem PL (n:Int) (w:World) :
  Calls Tryz.prog 170 #[.int .i64 n] w fun e w'=>e=.returned (.bool (isSp n))/\Only [] w w':=by
 by_cases h1:(0:Int)<=n
 focus
  have a1:decide ((0:Int)<=n)=true:=dF h1;obtain⟨r,hr⟩:∃ r,decide (n<=(9007199254740992:Int))=r:=⟨_,rfl⟩;rw[show isSp n=r from by unfold isSp bT;rw[a1,hr];rfl]
 rotate_left
 focus
  have a1:decide ((0:Int)<=n)=false:=bR h1;rw[show isSp n=false from by unfold isSp bT;rw[a1];rfl]
 rotate_left
 all_goals
  go_enter Tryz.func170,Tryz.ntmps170
  have OO:=hid (Only.refl [] w);go_wp2;go_ret
  exact⟨rfl,OO.out⟩
theorem kS (n lo hi:Int) (w:World) :
  Calls Tryz.prog 190 #[.int .i64 n,.int .i64 lo,.int .i64 hi] w fun e w'=>e=.returned (.bool (bT n lo hi))/\Only [] w w':=by
 by_cases h1:lo<=n
 focus
  have a1:decide (lo<=n)=true:=dF h1;obtain⟨r,hr⟩:∃ r,decide (n<=hi)=r:=⟨_,rfl⟩;rw[show bT n lo hi=r from by unfold bT;rw[a1,hr];rfl]
 rotate_left
 focus
  have a1:decide (lo<=n)=false:=bR h1;rw[show bT n lo hi=false from by unfold bT;rw[a1];rfl]
 rotate_left
 all_goals
  go_enter Tryz.func190,Tryz.ntmps190
  have OO:=hid (Only.refl [] w);go_wp2;go_ret
  exact⟨rfl,OO.out⟩
theorem pSmall (off jit:Int) (h0: -9223372036854775807<=off) (h1:off<=9223372036854775807) (h2:jit<=9223372036854775807) (w:World) :
  Calls Tryz.prog 276 #[.int .i64 off,.int .i64 jit] w fun e w'=>e=.returned (.bool (AO off jit))/\Only [] w w':=by
 have HE:Hid (AO off jit=decide ((off.natAbs:Int) / 4<max jit 0)):=hid rfl;generalize AO off jit=res at HE |-;obtain⟨a,ha⟩:∃ a,off.natAbs=a:=⟨_,rfl⟩;rw[ha] at HE;obtain⟨j,hj⟩:∃ j,max jit 0=j:=⟨_,rfl⟩;have hjb:0<=j/\j<=9223372036854775807:=by omega
 have hjw:IntKind.u64.wrap j=j:=by rw[wrap_u64];omega
 rw[hj] at HE;have haw:IntKind.u64.wrap (a:Int)=(a:Int):=by rw[wrap_u64];omega
 have haq:IntKind.u64.wrap ((a:Int) / 4)=(a:Int) / 4:=by rw[wrap_u64];omega
 have HR:=hid HE.out.symm;by_cases hn:off<0
 focus
  obtain⟨u,hu⟩:∃ u,IntKind.u64.wrap off=u:=⟨_,rfl⟩;have huw:IntKind.u64.wrap (-u)=(a:Int):=by rw[<-hu,wrap_u64,wrap_u64];omega
  have d1:decide (off<0)=true:=dF hn
 rotate_left
 focus
  have hu:IntKind.u64.wrap off=(a:Int):=by rw[wrap_u64];omega
  have d1:decide (off<0)=false:=bR hn
 rotate_left
 all_goals
  clear ha HE;go_enter Tryz.func276,Tryz.ntmps276
  have OO:=hid (Only.refl [] w);go_wp2;go_ret
  exact⟨by rw[<-HR.out];rfl,OO.out⟩
theorem pAdapt (r:K9) (off jit:Int) (h0: -9223372036854775807<=off) (h1:off<=9223372036854775807) (h2:jit<=9223372036854775807) (w:World) :
  Calls Tryz.prog 247 #[I9 r,.int .i64 off,.int .i64 jit] w fun e w'=>e=.returned (I9 (AQ r off jit))/\Only [] w w':=by
 obtain⟨bi,po,mn,mx,cn⟩:=r;have HK:=hid (fun w'=>PE ⟨bi,po,mn,mx,cn⟩ w');have HS:=hid (fun w'=>pSmall off jit h0 h1 h2 w')
 have hb:mM ⟨bi,po,mn,mx,cn⟩=0->(3<=mn/\mx<=17)/\(mn<=po/\po<=mx)/\(-30<=cn/\cn<=30):=fun h=>by
  unfold mM at h;dsimp only at h;split at h
  ·rename_i g1
   simp only[Bool.and_eq_true,aW] at g1;split at h
   ·exact absurd h (by decide)
   ·split at h
    ·rename_i g2
     simp only[Bool.and_eq_true,aW] at g2;omega
    ·exact absurd h (by decide)
  ·exact absurd h (by decide)
 obtain⟨res,HE⟩:∃ r,Hid (AQ ⟨bi,po,mn,mx,cn⟩ off jit=r):=⟨_,hid rfl⟩;rw[HE.out];unfold AQ at HE;dsimp only at HE;generalize mM ⟨bi,po,mn,mx,cn⟩=er at HK HE hb;generalize AO off jit=sm at HS HE;unfold I9 at HK |-;dsimp only at HK |-;by_cases hz:er=0
 rotate_left
 ·clear hb
  have m:=dD w [];have k:=m.out.k;go_enter Tryz.func247,Tryz.ntmps247
  go_wp2_with (first|((with_reducible first|refine cM (HK.out _) ?_|refine cM (HS.out _) ?_|refine wU ?_);clear k m;intro w m k)|((with_reducible refine lE (fun w o g k K hK=>⟨rfl,?_⟩));simp[results,Tryz.results247,go_sem,k];refine hK _ ?_;clear hK K k;rw[<-HE.out];(go_tidy;grind [rc0])))
 ·subst hz
  obtain⟨⟨b1,b2⟩,⟨b3,b4⟩,b5,b6⟩:=hb rfl;clear hb;have r1:IntKind.i64.wrap (cn+po)=cn+po:=by rw[wrap_i64];omega
  have r2:IntKind.i64.wrap (2*po)=2*po:=by rw[wrap_i64];omega
  have r3:IntKind.i64.wrap (cn-2*po)=cn-2*po:=by rw[wrap_i64];omega
  have r4:IntKind.i64.wrap (po+1)=po+1:=by rw[wrap_i64];omega
  have r5:IntKind.i64.wrap (po-1)=po-1:=by rw[wrap_i64];omega
  rw[if_pos rfl] at HE
  cases sm
  focus
   rw[if_neg (by simp)] at HE;by_cases g:cn-2*po < -30
   focus
    have f:decide (cn-2*po < -30)=true:=decide_eq_true g;rw[if_pos g] at HE
   rotate_left
   focus
    have f:decide (cn-2*po < -30)=false:=decide_eq_false g;rw[if_neg g] at HE
   rotate_left
  rotate_left 2
  focus
   rw[if_pos rfl] at HE;by_cases g:30<cn+po
   focus
    have f:decide (30<cn+po)=true:=decide_eq_true g;rw[if_pos g] at HE
   rotate_left
   focus
    have f:decide (30<cn+po)=false:=decide_eq_false g;rw[if_neg g] at HE
   rotate_left
  rotate_left 2
  all_goals
   have he:=HE.out;subst he;clear b1 b2 b3 b4 b5 b6 HE;have m:=dD w [];have k:=m.out.k;go_enter Tryz.func247,Tryz.ntmps247
   go_wp2_with (first|((with_reducible first|refine cM (HK.out _) ?_|refine cM (HS.out _) ?_|refine wU ?_);clear k m;intro w m k)|((with_reducible refine lE (fun w o g k K hK=>⟨rfl,?_⟩));simp[results,Tryz.results247,go_sem,k];refine hK _ ?_;exact⟨rfl,o⟩))
theorem WZ (r:FB) (w:World) :
  Calls Tryz.prog 157 #[IU r] w fun e w'=>e=.returned (.int .i64 (kX r))/\Only [] w w':=by
 obtain⟨a,b,c,d⟩:=r;obtain⟨res,HE⟩:∃ r,Hid (kX ⟨a,b,c,d⟩=r):=⟨_,hid rfl⟩;rw[HE.out];unfold kX at HE;dsimp only at HE;have H1:=hid (fun w'=>PL b w');have H2:=hid (fun w'=>PL c w');generalize isSp b=b1 at H1 HE;generalize isSp c=b2 at H2 HE;unfold bT at HE;unfold IU;dsimp only;have m:=dD w [];have k:=m.out.k;go_enter Tryz.func157,Tryz.ntmps157
 go_wp2_with (first|((with_reducible first|refine cM (H1.out _) ?_|refine cM (H2.out _) ?_|refine wU ?_);clear k m;intro w m k)|((with_reducible refine lF (fun w _=>⟨rfl,?_⟩));rw[<-HE.out];simp[results,Tryz.results157,go_sem]))
 all_goals first|rfl|(clear k m;go_tidy;grind)|trace_state
theorem EA (r:FB) (w:World) :
  Calls Tryz.prog 142 #[IU r] w fun e w'=>e=.returned (.tuple #[IU (if kX r=0 then r else LC),.int .i64 (if kX r=0 then 0 else 3)])/\Only [] w w':=by
 obtain⟨a,b,c,d⟩:=r;have HC:=hid (fun w'=>WZ ⟨a,b,c,d⟩ w');have hor:kX ⟨a,b,c,d⟩=0\/kX ⟨a,b,c,d⟩=3:=by unfold kX;split<;>simp
 unfold IU at HC |-;dsimp only at HC |-;rcases hor with h|h<;>rw[h] at HC |-<;>clear h
 ·rw[if_pos rfl,if_pos rfl]
  dsimp only;go_enter Tryz.func142,Tryz.ntmps142
  go_upto_region 1 with (fail)
  refine kP (G:=fun w0=>Code.wp _ _ _ _ w0) (R:=fun w1=>w1.heap[w.heap.size]? = some (.cells #[.int .i64 a,.int .i64 b,.int .i64 c,.int .u32 d] 131 (0,0))/\w1.heap[w.heap.size+1]? = some (.cells #[.int .i64 0,.int .i64 0,.int .i64 0,.int .u32 0] 131 (0,0))/\Only [] w w1) ?_ ?_
  ·skip
   have k0:=bA w (.cells #[.int .i64 a,.int .i64 b,.int .i64 c,.int .u32 d] 131);have k1:=bA (w.alloc (.cells #[.int .i64 a,.int .i64 b,.int .i64 c,.int .u32 d] 131)) (.cells #[.int .i64 0,.int .i64 0,.int .i64 0,.int .u32 0] 131);simp only[World.size_alloc] at k0 k1;exact⟨(alloc_old k0),k1,(((Only.refl [] w).alloc _).alloc _)⟩
  rintro w1 ⟨h1,h2,ho1⟩;obtain⟨b1,hb1⟩:∃ b,w.heap.size=b:=⟨_,rfl⟩;obtain⟨b2,hb2⟩:∃ b,w.heap.size+1=b:=⟨_,rfl⟩;have HN:Hid (w.heap.size<=b1/\w.heap.size<=b2/\b1≠b2/\b2≠b1):=hid (by omega);rw[hb1] at h1;rw[hb2] at h2;rw[show w.heap.size+1=b2 from hb2,hb1];have B1:=hid h1;have B2:=hid h2;have OO:=hid ho1;clear h1 h2 hb1 hb2;clear ho1;have k1:=tZ B1.out;have k2:=tZ B2.out;go_wp2_with fail
  refine (HC.out _).mono ?_;rintro e w2 ⟨rfl,ho⟩;clear k1 k2;replace OO:=hid (OO.out.aB ho);replace B1:=hid (ho.got B1.out (by simp));replace B2:=hid (ho.got B2.out (by simp));clear ho;have k1:=tZ B1.out;have k2:=tZ B2.out;go_wp2;have HD:=aG (o:=3) (.int .u32 d) (aG (o:=2) (.int .i64 c) (aG (o:=1) (.int .i64 b) (aG (o:=0) (.int .i64 a) (B2.out))));have e0:=aA HD 0;have e1:=aA HD 1;have e2:=aA HD 2;have e3:=aA HD 3;have le:=aD HD;refine bodyPost_ret (v:=.tuple #[.agg #[.int .i64 a,.int .i64 b,.int .i64 c,.int .u32 d],.int .i64 0]) (by simp[results,Tryz.results142,go_sem,e0,e1,e2,e3]) rfl ⟨rfl,((((OO.out.setCell (.inr HN.out.2.1) _).setCell (.inr HN.out.2.1) _).setCell (.inr HN.out.2.1) _).setCell (.inr HN.out.2.1) _)⟩
 ·rw[if_neg (by decide),if_neg (by decide)]
  unfold LC;dsimp only;go_enter Tryz.func142,Tryz.ntmps142
  go_upto_region 1 with (fail)
  refine kP (G:=fun w0=>Code.wp _ _ _ _ w0) (R:=fun w1=>w1.heap[w.heap.size]? = some (.cells #[.int .i64 a,.int .i64 b,.int .i64 c,.int .u32 d] 131 (0,0))/\w1.heap[w.heap.size+1]? = some (.cells #[.int .i64 0,.int .i64 0,.int .i64 0,.int .u32 0] 131 (0,0))/\Only [] w w1) ?_ ?_
  ·skip
   have k0:=bA w (.cells #[.int .i64 a,.int .i64 b,.int .i64 c,.int .u32 d] 131);have k1:=bA (w.alloc (.cells #[.int .i64 a,.int .i64 b,.int .i64 c,.int .u32 d] 131)) (.cells #[.int .i64 0,.int .i64 0,.int .i64 0,.int .u32 0] 131);simp only[World.size_alloc] at k0 k1;exact⟨(alloc_old k0),k1,(((Only.refl [] w).alloc _).alloc _)⟩
  rintro w1 ⟨h1,h2,ho1⟩;obtain⟨b1,hb1⟩:∃ b,w.heap.size=b:=⟨_,rfl⟩;obtain⟨b2,hb2⟩:∃ b,w.heap.size+1=b:=⟨_,rfl⟩;have HN:Hid (w.heap.size<=b1/\w.heap.size<=b2/\b1≠b2/\b2≠b1):=hid (by omega);rw[hb1] at h1;rw[hb2] at h2;rw[show w.heap.size+1=b2 from hb2,hb1];have B1:=hid h1;have B2:=hid h2;have OO:=hid ho1;clear h1 h2 hb1 hb2;clear ho1;have k1:=tZ B1.out;have k2:=tZ B2.out;go_wp2_with fail
  refine (HC.out _).mono ?_;rintro e w2 ⟨rfl,ho⟩;clear k1 k2;replace OO:=hid (OO.out.aB ho);replace B1:=hid (ho.got B1.out (by simp));replace B2:=hid (ho.got B2.out (by simp));clear ho;have k1:=tZ B1.out;have k2:=tZ B2.out;go_wp2;have HD:=aG (o:=3) (.int .u32 0) (aG (o:=2) (.int .i64 0) (aG (o:=1) (.int .i64 0) (aG (o:=0) (.int .i64 0) (B2.out))));have e0:=aA HD 0;have e1:=aA HD 1;have e2:=aA HD 2;have e3:=aA HD 3;have le:=aD HD;refine bodyPost_ret (v:=.tuple #[.agg #[.int .i64 0,.int .i64 0,.int .i64 0,.int .u32 0],.int .i64 3]) (by simp[results,Tryz.results142,go_sem,e0,e1,e2,e3]) rfl ⟨rfl,((((OO.out.setCell (.inr HN.out.2.1) _).setCell (.inr HN.out.2.1) _).setCell (.inr HN.out.2.1) _).setCell (.inr HN.out.2.1) _)⟩
theorem XC (p:Np) (w:World) :
  Calls Tryz.prog 184 #[iL p] w fun e w'=>e=.returned (.int .i64 (qM p))/\Only [] w w':=by
 obtain⟨p1,p2,p3,p4,p5,p6,p7,p8,p9,pa,pb,pc,pd⟩:=p;obtain⟨res,HE⟩:∃ r,Hid (qM ⟨p1,p2,p3,p4,p5,p6,p7,p8,p9,pa,pb,pc,pd⟩=r):=⟨_,hid rfl⟩;rw[HE.out];unfold qM at HE;dsimp only at HE;have H1:=hid (fun w'=>kS p1 0 3 w');generalize bT p1 0 3=b1 at H1 HE;have H2:=hid (fun w'=>kS p2 1 4 w');generalize bT p2 1 4=b2 at H2 HE;have H3:=hid (fun w'=>kS p3 0 7 w');generalize bT p3 0 7=b3 at H3 HE;have H4:=hid (fun w'=>kS p4 0 255 w');generalize bT p4 0 255=b4 at H4 HE;have H5:=hid (fun w'=>kS p5 (-128) 127 w');generalize bT p5 (-128) 127=b5 at H5 HE;have H6:=hid (fun w'=>kS p6 (-128) 127 w');generalize bT p6 (-128) 127=b6 at H6 HE;unfold iL;dsimp only;have m:=dD w [];have k:=m.out.k;go_enter Tryz.func184,Tryz.ntmps184
 go_wp2_with (first|((with_reducible first|refine cM (H1.out _) ?_|refine cM (H2.out _) ?_|refine cM (H3.out _) ?_|refine cM (H4.out _) ?_|refine cM (H5.out _) ?_|refine cM (H6.out _) ?_|refine wU ?_);clear k m;intro w m k)|((with_reducible refine lF (fun w _=>⟨rfl,?_⟩));rw[<-HE.out];simp[results,Tryz.results184,go_sem]))
 all_goals first|rfl|(clear k m;go_tidy;grind)|trace_state
theorem XB (p:Np) (w:World) :
  Calls Tryz.prog 252 #[iL p] w fun e w'=>e=.returned (.bool (xG p))/\Only [] w w':=by
 obtain⟨p1,p2,p3,p4,p5,p6,p7,p8,p9,pa,pb,pc,pd⟩:=p;have HE:Hid (xG ⟨p1,p2,p3,p4,p5,p6,p7,p8,p9,pa,pb,pc,pd⟩=(!decide (p1=3) && bT p4 1 15)):=hid rfl;generalize xG ⟨p1,p2,p3,p4,p5,p6,p7,p8,p9,pa,pb,pc,pd⟩=res at HE |-;have H1:=hid (fun w'=>kS p4 1 15 w');generalize bT p4 1 15=x1 at H1 HE;unfold iL;dsimp only;by_cases h:p1=3
 ·subst h
  obtain rfl:res=false:=by have:=HE.out;simpa using this
  clear HE;go_enter Tryz.func252,Tryz.ntmps252
  go_upto_region 1 with (fail)
  refine aF (G:=fun w0=>Code.wp _ _ _ _ w0) ?_;intro w1 hb1 ho1 hs1;obtain⟨b1,hbe1⟩:∃ b,w.heap.size=b:=⟨_,rfl⟩;rw[hbe1] at hb1;rw[hbe1];have HN:Hid (w.heap.size<=b1):=hid (by omega);have B1:=hid hb1;have OO:=hid ho1;clear hb1 hs1 hbe1;clear ho1;have k1:=c_13 B1.out;go_wp2;go_ret
  exact⟨rfl,OO.out⟩
 ·have q1:(p1 != 3)=true:=by simpa using h
  obtain rfl:res=x1:=by have:=HE.out;simpa [h] using this
  clear HE h;go_enter Tryz.func252,Tryz.ntmps252
  go_upto_region 1 with (fail)
  refine aF (G:=fun w0=>Code.wp _ _ _ _ w0) ?_;intro w1 hb1 ho1 hs1;obtain⟨b1,hbe1⟩:∃ b,w.heap.size=b:=⟨_,rfl⟩;rw[hbe1] at hb1;rw[hbe1];have HN:Hid (w.heap.size<=b1):=hid (by omega);have B1:=hid hb1;have OO:=hid ho1;clear hb1 hs1 hbe1;clear ho1;have k1:=c_13 B1.out;go_wp2_with fail
  refine (H1.out _).mono ?_;rintro e w2 ⟨rfl,ho⟩;clear k1;replace OO:=hid (OO.out.aB ho);replace B1:=hid (ho.got B1.out (by simp));clear ho;have k1:=c_13 B1.out;go_wp2;go_ret
  exact⟨rfl,OO.out⟩
theorem PI (s:Int) (h0:0<=s) (h1:s<=4294967295) (w:World) :
  Calls Tryz.prog 258 #[.int .u32 s] w fun e w'=>e=.returned (.int .i64 (iI s))/\Only [] w w':=by
 have HE:Hid ((s*1000000000+65535) / 65536=iI s):=hid rfl;have w0':IntKind.i64.wrap s=s:=by rw[wrap_i64];omega
 have w1':IntKind.i64.wrap (s*1000000000)=s*1000000000:=by rw[wrap_i64];omega
 have w2':IntKind.i64.wrap (s*1000000000+65536)=s*1000000000+65536:=by rw[wrap_i64];omega
 have w3':IntKind.i64.wrap (s*1000000000+65536-1)=s*1000000000+65535:=by rw[wrap_i64];omega
 go_enter Tryz.func258,Tryz.ntmps258
 have OO:=hid (Only.refl [] w);go_wp2;go_ret
 exact⟨by rw[<-HE.out];rfl,OO.out⟩
end
end Go.Proofs.YthbgcpfklmlnjaaGreat
