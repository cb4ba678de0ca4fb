/- V2 V3 -/
import Derived.Test.YtppjhbjmfkiejaaGreatFV1
import Derived.Test.YtppjhbjmfkiejaaGreatShelf
import Derived.IntWalk
import Derived.Laws.Bits64b
namespace Go.Proofs.YtppjhbjmfkiejaaGreat
open IntKind (wrap_u64)
set_option maxRecDepth 100000
set_option maxHeartbeats 2000000
open IntKind (wrap)
section
open Go.RowKit
def NT (n:Int):Bool:=decide (-9223372036854775808<=n/\n<=9223372036854775807)
def QY (n:Int):Int:=if NT n then n else 0
theorem P9 {k:IntKind} {a b:Int} (h:a=b):Ending.returned (.int k a)=.returned (.int k b):=by rw[h]
theorem oO {k:IntKind} {a b:Int} {x y:Bool} (h:a=b) (h2:x=y):Ending.returned (.tuple #[.int k a,.bool x])=.returned (.tuple #[.int k b,.bool y]):=by rw[h,h2]
theorem FH (n:Int) (w:World) (h0: -9223372036854775808<=n) (h1:n<=9223372036854775807) :
  Calls Tryz.prog 122 #[.int .i64 n] w fun e w'=>e=.returned (.int .u64 (n.natAbs:Int))/\w=w':=by
 by_cases h:n<0
 ·go_enter Tryz.func122,Tryz.ntmps122
  go_wp2;go_ret
  refine⟨P9 ?_,rfl⟩;simp only[wrap_u64];omega
 ·go_enter Tryz.func122,Tryz.ntmps122
  go_wp2;go_ret
  refine⟨P9 ?_,rfl⟩;try simp only[wrap_u64]
  omega
theorem gV {n:Int} (h0: -9223372036854775808<=n) (h1:n<=9223372036854775807):NT n=true:=by simp[NT,h0,h1]
theorem kF {n:Int} (h:n < -9223372036854775808\/9223372036854775807<n):NT n=false:=by
 simp only[NT,decide_eq_false_iff_not];omega
theorem gH {n:Int} (h0: -9223372036854775808<=n) (h1:n<=9223372036854775807):QY n=n:=by simp[QY,gV h0 h1]
theorem lM {n:Int} (h:n < -9223372036854775808\/9223372036854775807<n):QY n=0:=by simp[QY,kF h]
def sgn (neg:Bool) (m:Nat):Int:=if neg then -(m:Int) else m
theorem GK (m:Nat):sgn false m=m:=rfl
theorem mP (m:Nat):sgn true m= -(m:Int):=rfl
theorem vX (m:Nat) (neg:Bool) (w:World) (h1:m<=18446744073709551615) :
  Calls Tryz.prog 124 #[.int .u64 m,.bool neg] w fun e w'=>e=.returned (.tuple #[.int .i64 (QY (sgn neg m)),.bool (NT (sgn neg m))])/\w=w':=by
 cases neg
 focus
  rw[GK];by_cases h:m<=9223372036854775807
  ·rw[gH (by omega) (by omega),gV (by omega) (by omega)]
   go_enter Tryz.func124,Tryz.ntmps124
   go_wp2;go_ret2;exact⟨rfl,rfl⟩
 rotate_left
 focus
  rw[mP];by_cases h:m<=9223372036854775808
  ·rw[gH (by omega) (by omega),gV (by omega) (by omega)]
   go_enter Tryz.func124,Tryz.ntmps124
   go_wp2;go_ret2;refine⟨oO ?_ rfl,rfl⟩;simp only[wrap_u64,wrap64];omega
 rotate_left
 all_goals
  ·rw[lM (by omega),kF (by omega)]
   go_enter Tryz.func124,Tryz.ntmps124
   go_wp2;go_ret2;exact⟨rfl,rfl⟩
theorem uZ (a b:Int) (a0: -9223372036854775808<=a) (a1:a<=9223372036854775807) (b0: -9223372036854775808<=b) (b1:b<=9223372036854775807) :
  wrap64 (a+b)=(if a+b < -9223372036854775808 then a+b+18446744073709551616 else if 9223372036854775807<a+b then a+b-18446744073709551616 else a+b):=by
 unfold wrap64;split
 ·omega
 ·split<;>omega
theorem fadd (a b:Int) (w:World) (a0: -9223372036854775808<=a) (a1:a<=9223372036854775807) (b0: -9223372036854775808<=b) (b1:b<=9223372036854775807) :
  Calls Tryz.prog 205 #[.int .i64 a,.int .i64 b] w fun e w'=>e=.returned (.tuple #[.int .i64 (QY (a+b)),.bool (NT (a+b))])/\w=w':=by
 by_cases hlo:a+b < -9223372036854775808
 ·rw[lM (by omega),kF (by omega)]
  have d1:decide (a<0)=true:=by simp;omega
  have d2:decide (b<0)=true:=by simp;omega
  have d3:decide (wrap64 (a+b)<0)=false:=by rw[uZ a b a0 a1 b0 b1];simp[hlo];omega
  clear hlo;go_enter Tryz.func205,Tryz.ntmps205
  go_wp2;go_ret2;exact⟨rfl,rfl⟩
 ·by_cases hhi:9223372036854775807<a+b
  ·rw[lM (by omega),kF (by omega)]
   have d1:decide (a<0)=false:=by simp;omega
   have d2:decide (b<0)=false:=by simp;omega
   have d3:decide (wrap64 (a+b)<0)=true:=by rw[uZ a b a0 a1 b0 b1];simp[hlo,hhi];omega
   clear hlo hhi;go_enter Tryz.func205,Tryz.ntmps205
   go_wp2;go_ret2;exact⟨rfl,rfl⟩
  ·rw[gH (by omega) (by omega),gV (by omega) (by omega)]
   have hl1: -9223372036854775808<=a+b:=by omega
   have hl2:a+b<=9223372036854775807:=by omega
   by_cases h1:a<0<;>by_cases h2:b<0<;>by_cases h3:a+b<0
   all_goals first|(exfalso;omega)|skip
   all_goals
    have d1:decide (a<0)=decide (a<0):=rfl;clear d1;go_enter Tryz.func205,Tryz.ntmps205
    go_wp2;go_ret2;exact⟨rfl,rfl⟩
theorem mul64 (x y:Nat) (hx:x<18446744073709551616) (hy:y<18446744073709551616) (w:World) :
  Calls Tryz.prog 121 #[.int .u64 x,.int .u64 y] w fun e w'=>∃ hi lo:Nat,e=.returned (.tuple #[.int .u64 hi,.int .u64 lo])/\w=w'/\Hid (x*y=hi*18446744073709551616+lo)/\lo<=18446744073709551615:=by
 refine (Tryz.bits_Mul64 x y hx hy w).mono ?_;rintro e w' ⟨rfl,rfl⟩;exact⟨_,_,rfl,rfl,aA (by omega),by omega⟩
theorem uN {a b:Int} {lo:Nat} (h:a.natAbs*b.natAbs=lo):a*b=sgn (!(decide (a<0) == decide (b<0))) lo:=by
 have h':(a.natAbs:Int)*(b.natAbs:Int)=(lo:Int):=by rw[<-h];simp
 by_cases h1:a<0<;>by_cases h2:b<0<;>simp only[h1,h2,decide_true,decide_false,beq_self_eq_true,Bool.not_true,sgn,Bool.false_eq_true,if_false]
 ·rw[show (a.natAbs:Int)= -a by omega,show (b.natAbs:Int)= -b by omega,Int.neg_mul_neg] at h';exact h'
 ·rw[show (a.natAbs:Int)= -a by omega,show (b.natAbs:Int)=b by omega,Int.neg_mul] at h';simp;omega
 ·rw[show (a.natAbs:Int)=a by omega,show (b.natAbs:Int)= -b by omega,Int.mul_neg] at h';simp;omega
 ·rw[show (a.natAbs:Int)=a by omega,show (b.natAbs:Int)=b by omega] at h';exact h'
theorem mul_far {a b:Int} {hi lo:Nat} (h:a.natAbs*b.natAbs=hi*18446744073709551616+lo) (h0:0<hi):a*b < -9223372036854775808\/9223372036854775807<a*b:=by
 have:=uN h;rw[this];unfold sgn;split<;>omega
theorem fmul (a b:Int) (w:World) (a0: -9223372036854775808<=a) (a1:a<=9223372036854775807) (b0: -9223372036854775808<=b) (b1:b<=9223372036854775807) :
  Calls Tryz.prog 214 #[.int .i64 a,.int .i64 b] w fun e w'=>e=.returned (.tuple #[.int .i64 (QY (a*b)),.bool (NT (a*b))])/\w=w':=by
 have hx:a.natAbs<=9223372036854775808:=by omega
 have hy:b.natAbs<=9223372036854775808:=by omega
 obtain⟨p,hp⟩:∃ p,p=a*b:=⟨_,rfl⟩;rw[<-hp];have HP:=aA hp;clear hp;go_enter Tryz.func214,Tryz.ntmps214
 go_wp2_with fail
 refine (FH a w a0 a1).mono ?_;rintro e w' ⟨rfl,rfl⟩;go_wp2_with fail
 refine (FH b w b0 b1).mono ?_;rintro e w' ⟨rfl,rfl⟩;go_wp2_with fail
 refine (mul64 a.natAbs b.natAbs (by omega) (by omega) w).mono ?_;rintro e w' ⟨hi,lo,rfl,rfl,HM,hlo⟩;by_cases hh:0<hi
 ·have hf:=mul_far HM.out hh
  rw[<-HP.out] at hf;have hq:((hi:Int) == 0)=false:=by simp;omega
  have hq':((hi:Int) != 0)=true:=by simp;omega
  have HF:=aA hf;clear hf;go_wp2_with fail
  go_ret2;exact⟨oO (lM HF.out).symm (kF HF.out).symm,rfl⟩
 ·obtain rfl:hi=0:=by omega
  have hs:=uN (a:=a) (b:=b) (lo:=lo) (by have:=HM.out;omega);rw[<-HP.out] at hs;have HS:=aA hs;clear hs;go_wp2_with fail
  refine (vX lo _ w hlo).mono ?_;rintro e w' ⟨rfl,rfl⟩;go_wp2_with fail
  go_ret2;exact⟨oO (by rw[HS.out]) (by rw[HS.out]),rfl⟩
theorem Calls.drawn {P:Program} {f:FuncId} {args:Array Value} {w:World} {v:Value} (h:Calls P f args w fun e w'=>e=.returned v/\w=w'):Calls P f args w fun e w'=>e=.returned v/\∃ n,w'=w.drewN n:=
 h.mono fun _ _ ⟨he,hw⟩=>⟨he,0,by rw[<-hw,World.drewN_zero]⟩
theorem RJ (a b:Int) (w:World) (a0: -9223372036854775808<=a) (a1:a<=9223372036854775807) (b0:0<b) (b1:b<=9223372036854775807) :
  Calls Tryz.prog 111 #[.int .i64 a,.int .i64 b] w fun e w'=>e=.returned (.tuple #[.int .i64 (a.tdiv b),.int .i64 (a.tmod b),.bool true])/\∃ n,w'=w.drewN n:=by
 have hb0:(b == 0)=false:=by simp;omega
 have hb1:(b == -1)=false:=by simp;omega
 have hb2:¬ b=0:=by omega
 have hb3:¬ b= -1:=by omega
 by_cases ha:a= -9223372036854775808
 focus
  have ha1:(a == -9223372036854775808)=true:=by simp[ha]
  clear ha
 rotate_left
 focus
  have ha1:(a == -9223372036854775808)=false:=by simp[ha]
 rotate_left
 all_goals
  go_enter Tryz.func111,Tryz.ntmps111
  go_wp2_with fail
  go_quiet (fail)
  go_wp2;go_ret3
  exact⟨rfl,_,rfl⟩
theorem ediv_bd (a b:Int) (a0: -9223372036854775808<=a) (a1:a<=9223372036854775807) (b0:0<b): -9223372036854775808<=a / b/\a / b<=9223372036854775807/\(a<0->a / b<0):=by
 refine⟨(Int.le_ediv_iff_mul_le b0).2 (by omega),?_,fun h=>?_⟩
 ·have:a / b<9223372036854775808:=(Int.ediv_lt_iff_lt_mul b0).2 (by omega)
  omega
 ·exact (Int.ediv_lt_iff_lt_mul b0).2 (by omega)
theorem EF (a b:Int) (b0:0<b):a.tdiv b=(if a.tmod b<0 then a / b+1 else a / b)/\(a.tmod b<0->a<0):=by
 have h1:=Int.tmod_add_mul_tdiv a b;have h5:a.tmod b<b:=Int.tmod_lt_of_pos a b0;have h6: -b<a.tmod b:=by have:=Int.lt_tmod_of_pos a b0;omega
 have h7:a.tmod b<0->a<0:=fun h=>by
  rcases Int.lt_or_le a 0 with h'|h'
  ·exact h'
  ·have:=Int.tmod_nonneg b h';omega
 refine⟨?_,h7⟩;clear h7;generalize a.tdiv b=q at h1 |-;generalize a.tmod b=r at h1 h5 h6 |-;split
 ·have:a / b=q-1:=by
   have e1:a=(r+b)+b*(q-1):=by rw[Int.mul_sub,Int.mul_one];omega
   rw[e1,Int.add_mul_ediv_left _ _ (Int.ne_of_gt b0),Int.ediv_eq_zero_of_lt (by omega) (by omega)];omega
  omega
 ·have:a / b=q:=by
   rw[<-h1,Int.add_mul_ediv_left _ _ (Int.ne_of_gt b0),Int.ediv_eq_zero_of_lt (by omega) (by omega)];omega
  omega
theorem NY (a b:Int) (w:World) (a0: -9223372036854775808<=a) (a1:a<=9223372036854775807) (b0:0<b) (b1:b<=9223372036854775807) :
  Calls Tryz.prog 95 #[.int .i64 a,.int .i64 b] w fun e w'=>e=.returned (.tuple #[.int .i64 (a / b),.bool true])/\∃ n,w'=w.drewN n:=by
 obtain⟨hfl,hneg⟩:=EF a b b0;obtain⟨e0,e1,e2⟩:=ediv_bd a b a0 a1 b0;have hb:=RJ a b w a0 a1 b0 b1;generalize a.tdiv b=q at hfl hb;generalize a.tmod b=r at hfl hneg hb;generalize a / b=f at hfl e0 e1 e2 |-;have HB:=aA hb;clear hb;have hb2:decide (b<0)=false:=by simp;omega
 by_cases hr0:r<0
 ·have hr1:(r == 0)=false:=by simp;omega
  have hr2:(r != 0)=true:=by simp;omega
  have hr3:decide (r<0)=true:=by simp[hr0]
  rw[if_pos hr0] at hfl;subst hfl;have ha:=e2 (hneg hr0);clear hr0 hneg e2;go_enter Tryz.func95,Tryz.ntmps95
  go_wp2_with fail
  refine HB.out.mono ?_;rintro e w' ⟨rfl,n,rfl⟩;go_wp2_with fail
  go_ret2;exact⟨oO (by omega) rfl,_,rfl⟩
 ·rw[if_neg hr0] at hfl
  subst hfl;have hr3:decide (r<0)=false:=by simpa using hr0
  clear hr0 hneg e2;by_cases hz:r=0
  focus
   subst hz
  rotate_left
  focus
   have hr1:(r == 0)=false:=by simp[hz]
   have hr2:(r != 0)=true:=by simp[hz]
  rotate_left
  all_goals
   go_enter Tryz.func95,Tryz.ntmps95
   go_wp2_with fail
   refine HB.out.mono ?_;rintro e w' ⟨rfl,n,rfl⟩;go_wp2_with fail
   go_ret2;exact⟨rfl,_,rfl⟩
end
section
open Go.RowKit
theorem NH {a b:Nat} (i:Nat) (ha:a<18446744073709551616) (hb:b<18446744073709551616) (x:Nat) (hx:a=2 ^ i*x) (hlt:b<2 ^ i):bits BinOp.or IntKind.u64 (a:Int) (b:Int)=((a+b:Nat):Int):=by
 rw[bits_or_u64_nat a b ha hb,hx,<-Nat.two_pow_add_eq_or_of_lt hlt x]
theorem LD (B N P q c r q' R th Z Y d:Nat) (sum:(q*c+r)*B+Y=N*P) (hq:q'=2*q+d) (hR:R+d*c=2*r+th) (hZ:th*B+Z=2*Y):(q'*c+R)*B+Z=N*(P*2):=by
 have e1:q'*c+R=2*(q*c+r)+th:=by
  rw[hq,Nat.add_mul,Nat.mul_assoc];generalize q*c=X at *;generalize d*c=V at *;omega
 rw[e1,Nat.add_mul,Nat.mul_assoc,<-Nat.mul_assoc N P 2,<-sum];generalize (q*c+r)*B=U;generalize th*B=V at *;omega
theorem MP (W dh tl dl th h l:Nat) (eh:2*h=th*W+dh) (el:2*l=tl*W+dl):th*(W*W)+((dh+tl)*W+dl)=2*(h*W+l):=by
 rw[<-Nat.mul_assoc,Nat.mul_add,<-Nat.mul_assoc,eh,el,Nat.add_mul,Nat.add_mul];generalize th*W*W=U;generalize dh*W=V;omega
theorem EN (dh tl dl th h l:Nat) (eh:2*h=th*18446744073709551616+dh) (el:2*l=tl*18446744073709551616+dl):th*340282366920938463463374607431768211456+((dh+tl)*18446744073709551616+dl)=2*(h*18446744073709551616+l):=
 MP 18446744073709551616 dh tl dl th h l eh el
structure nG (N c k h l q1 q0 r:Nat):Prop where
 sum:((q1*18446744073709551616+q0)*c+r)*340282366920938463463374607431768211456+(h*18446744073709551616+l)=N*2 ^ k
 lt:r<c
 h0:h<18446744073709551616
 l0:l<18446744073709551616
 q0b:q0<18446744073709551616
theorem nG.take {N c k h l q1 q0 r dh th dl tl dq1 dq0 tq dr tr:Nat} (i:nG N c k h l q1 q0 r)
  (eh:2*h=th*18446744073709551616+dh) (el:2*l=tl*18446744073709551616+dl) (eq1:2*q1=dq1) (eq0:2*q0=tq*18446744073709551616+dq0) (er:2*r=tr*18446744073709551616+dr)
  (bh:dh<18446744073709551616) (ph:dh % 2=0) (pq:dq0 % 2=0) (bl:dl<18446744073709551616) (bq:dq0<18446744073709551616) (t1:th<=1) (t2:tl<=1) (R:Nat) (hR:R+c=tr*18446744073709551616+(dr+th)) :
  nG N c (k+1) (dh+tl) (dl) (dq1+tq) (dq0+1) R:=by
 have h2:=i.lt;refine⟨?_,by omega,by omega,by omega,by omega⟩;exact LD _ _ _ _ _ _ _ _ th _ _ 1 i.sum (by omega) (by omega) (EN dh tl dl th h l eh el)
theorem nG.skip {N c k h l q1 q0 r dh th dl tl dq1 dq0 tq dr:Nat} (i:nG N c k h l q1 q0 r)
  (eh:2*h=th*18446744073709551616+dh) (el:2*l=tl*18446744073709551616+dl) (eq1:2*q1=dq1) (eq0:2*q0=tq*18446744073709551616+dq0) (er:2*r=dr)
  (bh:dh<18446744073709551616) (ph:dh % 2=0) (bl:dl<18446744073709551616) (bq:dq0<18446744073709551616) (t2:tl<=1) (hR:dr+th<c) :
  nG N c (k+1) (dh+tl) (dl) (dq1+tq) (dq0) (dr+th):=by
 refine⟨?_,by omega,by omega,by omega,by omega⟩;exact LD _ _ _ _ _ _ _ _ th _ _ 0 i.sum (by omega) (by omega) (EN dh tl dl th h l eh el)
theorem nG.start (hi lo c:Nat) (hc:0<c) (h1:hi<18446744073709551616) (h2:lo<18446744073709551616):nG (hi*18446744073709551616+lo) c 0 hi lo 0 0 0:=
 ⟨by simp,hc,h1,h2,by omega⟩
theorem nG.done {N c h l q1 q0 r:Nat} (i:nG N c 128 h l q1 q0 r):(q1*18446744073709551616+q0)*c+r=N/\r<c:=by
 have h1:=i.sum;have h2:=i.h0;have h3:=i.l0;have h4:(2:Nat) ^ 128=340282366920938463463374607431768211456:=by decide
 rw[h4] at h1;refine⟨?_,i.lt⟩;generalize (q1*18446744073709551616+q0)*c=X at h1 |-;omega
end
section
open Go.RowKit
theorem xZ (x:Nat) (h:x<18446744073709551616):∃ a1 a0:Nat,a1<4294967296/\a0<4294967296/\x=a1*4294967296+a0/\(x:Int) / 4294967296=a1/\(x:Int) % 4294967296=a0:=
 ⟨x / 4294967296,x % 4294967296,by omega,by omega,by omega,by omega,by omega⟩
theorem ediv_pos {Q c r N:Nat} (h:Q*c+r=N) (hr:r<c):(N:Int) / (c:Int)=Q:=by
 have e:(N:Int)=r+c*Q:=by rw[<-h,Int.natCast_add,Int.natCast_mul,Int.mul_comm];omega
 rw[e,Int.add_mul_ediv_left _ _ (by omega),Int.ediv_eq_zero_of_lt (by omega) (by omega)];omega
theorem U5 {Q c N:Nat} (h:Q*c+0=N) (hr:0<c): -(N:Int) / (c:Int)= -(Q:Int):=by
 have e: -(N:Int)=0+c*(-(Q:Int)):=by rw[<-h,Int.natCast_add,Int.natCast_mul,Int.mul_comm,Int.mul_neg];omega
 rw[e,Int.add_mul_ediv_left _ _ (by omega),Int.ediv_eq_zero_of_lt (by omega) (by omega)];omega
theorem U4 {Q c r N:Nat} (h:Q*c+r=N) (hr:r<c) (h0:0<r): -(N:Int) / (c:Int)= -((Q+1:Nat):Int):=by
 have e: -(N:Int)=(c-r)+c*(-((Q+1:Nat):Int)):=by rw[<-h,Int.natCast_add,Int.natCast_mul,Int.natCast_add,Int.mul_neg,Int.mul_add,Int.mul_comm (c:Int)];simp;omega
 rw[e,Int.add_mul_ediv_left _ _ (by omega),Int.ediv_eq_zero_of_lt (by omega) (by omega)];omega
theorem sgn_div {a b c:Int} {C Q r N:Nat} (hc:c=C) (hN:a.natAbs*b.natAbs=N) (h:Q*C+r=N) (hr:r<C) :
  (a*b) / c=if (!(decide (a<0) == decide (b<0)))=true/\0<r then sgn true (Q+1) else sgn (!(decide (a<0) == decide (b<0))) Q:=by
 rw[uN hN,hc]
 cases hs: !(decide (a<0) == decide (b<0))
 ·simp[sgn,ediv_pos h hr]
 ·by_cases h0:0<r
  ·rw[if_pos ⟨rfl,h0⟩,mP,mP,U4 h hr h0]
  ·obtain rfl:r=0:=by omega
   rw[if_neg (by omega),mP,mP,U5 h (by omega)]
theorem abs_prod {a b:Nat} (ha:a<=9223372036854775808) (hb:b<=9223372036854775808):a*b<=85070591730234615865843651857942052864:=Nat.mul_le_mul ha hb
end
section
open Go.RowKit
theorem dg_lo {u d yn1 yn0 Y:Nat} (hY:Y=yn1*4294967296+yn0) (hd:d<4294967296) (h1:0<yn1):(u*4294967296+d) / Y<=u / yn1:=by
 have hY0:0<Y:=by omega
 rw[Nat.le_div_iff_mul_le h1];have hq:=Nat.div_mul_le_self (u*4294967296+d) Y;generalize (u*4294967296+d) / Y=q at hq |-;have e:q*Y=(q*yn1)*4294967296+q*yn0:=by rw[hY,Nat.mul_add,Nat.mul_assoc]
 have h0:=Nat.zero_le (q*yn0);generalize q*yn1=a at *;generalize q*yn0=b at *;omega
structure Dg (u d yn1 yn0 q r:Nat):Prop where
 sum:q*yn1+r=u
 ge:(u*4294967296+d) / (yn1*4294967296+yn0)<=q
theorem dg_start {u d yn1 yn0:Nat} (hd:d<4294967296) (h1:0<yn1):Dg u d yn1 yn0 (u / yn1) (u % yn1):=
 ⟨by rw[Nat.mul_comm];exact Nat.div_add_mod u yn1,dg_lo rfl hd h1⟩
theorem dg_big {u d yn1 yn0 q r:Nat} (h:Dg u d yn1 yn0 q r) (hu:u<yn1*4294967296+yn0) (hd:d<4294967296) (hq:4294967296<=q):Dg u d yn1 yn0 (q-1) (r+yn1):=by
 obtain⟨h1,h2⟩:=h;refine⟨?_,?_⟩
 ·have:q*yn1=(q-1)*yn1+yn1:=by rw[<-Nat.succ_mul];congr 1;omega
  omega
 ·have:(u*4294967296+d) / (yn1*4294967296+yn0)<4294967296:=by
   rw[Nat.div_lt_iff_lt_mul (by omega)];have:=Nat.mul_le_mul_right 4294967296 (Nat.succ_le_of_lt hu);rw[Nat.succ_mul] at this;rw[Nat.mul_comm 4294967296 (_+_)];omega
  omega
theorem RP {u d yn1 yn0 q r:Nat} (h:Dg u d yn1 yn0 q r):q*(yn1*4294967296+yn0)+4294967296*r=u*4294967296+q*yn0:=by
 obtain⟨h1,h2⟩:=h;rw[Nat.mul_add,<-Nat.mul_assoc,<-h1,Nat.add_mul];omega
theorem RQ {u d yn1 yn0 q r:Nat} (h:Dg u d yn1 yn0 q r) (h0:0<yn1) (hq:4294967296*r+d<q*yn0):Dg u d yn1 yn0 (q-1) (r+yn1):=by
 have ht:=RP h;obtain⟨h1,h2⟩:=h
 have hq0:0<q:=by
  rcases Nat.eq_zero_or_pos q with rfl|h
  ·omega
  ·exact h
 refine⟨?_,?_⟩
 ·have:q*yn1=(q-1)*yn1+yn1:=by rw[<-Nat.succ_mul];congr 1;omega
  omega
 ·have:(u*4294967296+d) / (yn1*4294967296+yn0)<q:=by
   rw[Nat.div_lt_iff_lt_mul (by omega)];omega
  omega
theorem I5 {u d yn1 yn0 q r:Nat} (h:Dg u d yn1 yn0 q r) (h0:0<yn1) (hq:q*yn0<=4294967296*r+d):q=(u*4294967296+d) / (yn1*4294967296+yn0):=by
 have ht:=RP h;refine Nat.le_antisymm ?_ h.ge;rw[Nat.le_div_iff_mul_le (by omega)];omega
theorem zX {u d yn1 yn0 q r:Nat} (h:Dg u d yn1 yn0 q r) (h0:0<yn1) (hu:u<yn1*4294967296+yn0) (hn0:yn0<4294967296) (hr:4294967296<=r):q<4294967296/\q=(u*4294967296+d) / (yn1*4294967296+yn0):=by
 have hq:q<4294967296:=by
  have h1:=h.sum;refine Nat.lt_of_not_le fun hge=>?_;have:=Nat.mul_le_mul_right yn1 hge;omega
 refine⟨hq,I5 h h0 ?_⟩;have h1:q*yn0<=4294967295*4294967295:=Nat.mul_le_mul (by omega) (by omega);omega
theorem dg_first {u yn1 yn0:Nat} (hu:u<yn1*4294967296+yn0) (hn0:yn0<4294967296) (h1:2147483648<=yn1):u / yn1<=4294967298:=by
 have:u / yn1<4294967299:=by
  rw[Nat.div_lt_iff_lt_mul (by omega)];omega
 omega
theorem OP:Lib.bitLen 1=1:=by decide
theorem OT (x:Nat) (h0:x≠0) (h:x<2 ^ 64):∃ k,Lib.bitLen x=k+1/\2 ^ k<=x/\x<2 ^ (k+1):=by
 refine⟨Nat.log2 x,?_,Nat.log2_self_le h0,Nat.lt_log2_self⟩;rw[Lib.bitLen_shift (Nat.log2 x) x (Nat.log2_self_le h0) h]
 have h1:x / 2 ^ Nat.log2 x=1:=by
  have hp:0<2 ^ Nat.log2 x:=Nat.two_pow_pos _;refine Nat.le_antisymm ?_ ((Nat.le_div_iff_mul_le hp).2 (by rw[Nat.one_mul];exact Nat.log2_self_le h0));have:x / 2 ^ Nat.log2 x<2:=(Nat.div_lt_iff_lt_mul hp).2 (by have:=@Nat.lt_log2_self x;rw[Nat.pow_succ] at this;omega);omega
 rw[h1,OP]
theorem norm (y:Nat) (h0:0<y) (h:y<18446744073709551616):∃ s:Nat,s<64/\(64-(Lib.bitLen y:Int))=s/\9223372036854775808<=y*2 ^ s/\y*2 ^ s<18446744073709551616:=by
 obtain⟨k,h1,h2,h3⟩:=OT y (by omega) (by omega)
 have hk:k<64:=by
  refine Nat.lt_of_not_le fun hge=>?_;have:=Nat.pow_le_pow_right (n:=2) (by omega) hge;omega
 refine⟨63-k,by omega,by rw[h1];omega,?_,?_⟩
 ·have:=Nat.mul_le_mul_right (2 ^ (63-k)) h2
  rw[<-Nat.pow_add,show k+(63-k)=63 by omega] at this;exact this
 ·have:=Nat.mul_lt_mul_of_pos_right h3 (Nat.two_pow_pos (63-k))
  rw[<-Nat.pow_add,show k+1+(63-k)=64 by omega] at this;exact this
end
section
section
open Go.RowKit
theorem SY (s lo:Nat) (hs:s<=64):lo*2 ^ s=(lo / 2 ^ (64-s))*18446744073709551616+(lo % 2 ^ (64-s))*2 ^ s:=by
 have e:18446744073709551616=2 ^ (64-s)*2 ^ s:=by rw[<-Nat.pow_add,show 64-s+s=64 by omega]
 rw[e,<-Nat.mul_assoc,<-Nat.add_mul,Nat.mul_comm (lo / _),Nat.div_add_mod]
theorem NK (hi lo y s:Nat) (hs:s<64) (hY:y*2 ^ s<18446744073709551616) (hhi:hi<y) (hlo:lo<18446744073709551616) :
  ∃ H L v:Nat,v<18446744073709551616/\wrap .u64 ((y:Int)*2 ^ s)=((y*2 ^ s:Nat):Int)/\wrap .u64 ((hi:Int)*2 ^ s)=(H:Int)/\(lo:Int) / 2 ^ (64-s)=(L:Int)/\bits BinOp.or IntKind.u64 (H:Int) (L:Int)=((H+L:Nat):Int) /\
   wrap .u64 ((lo:Int)*2 ^ s)=(v:Int)/\(hi*18446744073709551616+lo)*2 ^ s=(H+L)*18446744073709551616+v/\H+L<y*2 ^ s:=by
 have hp:0<2 ^ s:=Nat.two_pow_pos s;have hp2:0<2 ^ (64-s):=Nat.two_pow_pos _;have e:=SY s lo (by omega)
 have hm:lo % 2 ^ (64-s)*2 ^ s<18446744073709551616:=by
  have h1:=Nat.mul_lt_mul_of_pos_right (Nat.mod_lt lo hp2) hp;rw[<-Nat.pow_add,show 64-s+s=64 by omega] at h1;exact h1
 have hL:lo / 2 ^ (64-s)<2 ^ s:=by
  rw[Nat.div_lt_iff_lt_mul hp2,<-Nat.pow_add,show s+(64-s)=64 by omega];exact hlo
 have hH:hi*2 ^ s+2 ^ s<=y*2 ^ s:=by
  rw[<-Nat.succ_mul];exact Nat.mul_le_mul_right _ hhi
 have c1:((hi:Int)*2 ^ s)=((hi*2 ^ s:Nat):Int):=by simp
 have c2:((lo:Int)*2 ^ s)=((lo*2 ^ s:Nat):Int):=by simp
 have c3:((y:Int)*2 ^ s)=((y*2 ^ s:Nat):Int):=by simp
 refine⟨hi*2 ^ s,lo / 2 ^ (64-s),lo % 2 ^ (64-s)*2 ^ s,hm,?_,?_,by simp,?_,?_,?_,by omega⟩
 ·rw[c3,wrap_u64];omega
 ·rw[c1,wrap_u64];omega
 ·exact NH s (by omega) (by omega) hi (by rw[Nat.mul_comm]) hL
 ·rw[c2,e,wrap_u64]
  generalize lo / 2 ^ (64-s)=a;generalize lo % 2 ^ (64-s)*2 ^ s=b at hm;omega
 ·rw[Nat.add_mul,e,Nat.add_mul,Nat.mul_right_comm];omega
theorem SF (x:Nat) (h:x<18446744073709551616) (r:Nat) (hr:(x:Int) % 4294967296=r):bits BinOp.and IntKind.u64 (x:Int) 4294967295=(r:Int):=by
 have h1:=bits_and_u64_nat x 4294967295 h (by omega);rw[show (x &&& 4294967295)=x % 2 ^ 32 from Nat.and_two_pow_sub_one_eq_mod x 32] at h1;refine h1.trans ?_;rw[<-hr];rfl
theorem xY (n:Nat) (h:n<18446744073709551616):wrap .u64 (n:Int)=(n:Int):=by
 rw[wrap_u64];omega
theorem xR {u d a1 a0 Y q:Nat} (h:q=(u*4294967296+d) / (a1*4294967296+a0)) (hY:Y=a1*4294967296+a0) (hu:u<Y) (hd:d<4294967296):q<4294967296/\∃ r,u*4294967296+d=q*Y+r/\r<Y:=by
 rw[<-hY] at h;have hY0:0<Y:=by omega
 refine⟨?_,(u*4294967296+d) % Y,?_,Nat.mod_lt _ hY0⟩
 ·rw[h,Nat.div_lt_iff_lt_mul hY0,Nat.mul_comm 4294967296]
  have:=Nat.mul_le_mul_right 4294967296 (Nat.succ_le_of_lt hu);rw[Nat.succ_mul] at this;omega
 ·rw[h,Nat.mul_comm _ Y,Nat.div_add_mod]
theorem nJ {u d q Y r:Nat} (h:u*4294967296+d=q*Y+r) (hr:r<18446744073709551616):∃ x1 x2 x3:Nat,x1<18446744073709551616/\x2<18446744073709551616/\x3<18446744073709551616 /\
  wrap .u64 ((u:Int)*4294967296)=(x1:Int)/\wrap .u64 ((x1:Int)+(d:Int))=(x2:Int)/\wrap .u64 ((q:Int)*(Y:Int))=(x3:Int)/\wrap .u64 ((x2:Int)-(x3:Int))=(r:Int):=by
 have e:(q:Int)*(Y:Int)=((q*Y:Nat):Int):=by simp
 rw[e];generalize q*Y=p at h |-;refine⟨u*4294967296 % 18446744073709551616,(u*4294967296+d) % 18446744073709551616,p % 18446744073709551616,by omega,by omega,by omega,?_,?_,?_,?_⟩<;>rw[wrap_u64]<;>omega
theorem rZ {u d a1 a0 Y:Nat} (hY:Y=a1*4294967296+a0) (hu:u<Y) (hYb:Y<18446744073709551616) (hd:d<4294967296) (ha0:a0<4294967296) (h1:2147483648<=a1):∃ t0 t1 t2:Nat,t0<=4294967298/\t1<4294967296/\t2<18446744073709551616 /\
  (u:Int) / (a1:Int)=(t0:Int)/\wrap .u64 ((t0:Int)*(a1:Int))=(t2:Int)/\wrap .u64 ((u:Int)-(t2:Int))=(t1:Int)/\Dg u d a1 a0 t0 t1:=by
 have h2:=Nat.div_add_mod u a1;rw[Nat.mul_comm] at h2;have h3:=Nat.mod_lt u (show 0<a1 by omega);have e:((u / a1:Nat):Int)*(a1:Int)=((u / a1*a1:Nat):Int):=by simp
 have hb:=Nat.div_le_self u a1;refine⟨u / a1,u % a1,u / a1*a1,dg_first (by omega) ha0 h1,by omega,by omega,by simp,?_,?_,dg_start hd (by omega)⟩
 ·rw[e];exact xY _ (by omega)
 ·generalize u / a1*a1=p at h2 |-
  rw[wrap_u64];omega
theorem fin_step {B u d1 d0 q1 q0 Y r1 r0:Nat} (h1:u*B+d1=q1*Y+r1) (h0:r1*B+d0=q0*Y+r0):u*(B*B)+(d1*B+d0)=(q1*B+q0)*Y+r0:=by
 calc u*(B*B)+(d1*B+d0)=(u*B+d1)*B+d0:=by rw[Nat.add_mul,Nat.mul_assoc,Nat.add_assoc]
  _=q1*Y*B+(r1*B+d0):=by rw[h1,Nat.add_mul,Nat.add_assoc]
  _=(q1*B+q0)*Y+r0:=by rw[h0,Nat.add_mul,Nat.mul_right_comm,Nat.add_assoc]
theorem xL {N y s Y u v d1 d0 q1 q0 r1 r0:Nat} (hU:N*2 ^ s=u*18446744073709551616+v) (hv:v=d1*4294967296+d0) (hY:y*2 ^ s=Y) (h1:u*4294967296+d1=q1*Y+r1) (h0:r1*4294967296+d0=q0*Y+r0) (hr0:r0<Y) :
  q1*4294967296+q0=N / y/\r0 / 2 ^ s=N % y:=by
 have hp:0<2 ^ s:=Nat.two_pow_pos s
 have hs:N*2 ^ s=(q1*4294967296+q0)*Y+r0:=by
  rw[hU,hv];exact fin_step h1 h0
 generalize q1*4294967296+q0=QQ at hs |-
 have hq:QQ=N*2 ^ s / Y:=by
  rw[hs,Nat.add_comm,Nat.add_mul_div_right _ _ (by omega),Nat.div_eq_of_lt hr0,Nat.zero_add]
 have hr:r0=N*2 ^ s % Y:=by
  rw[hs,Nat.add_comm,Nat.add_mul_mod_self_right,Nat.mod_eq_of_lt hr0]
 rw[<-hY,Nat.mul_div_mul_right _ _ hp] at hq;rw[<-hY,Nat.mul_mod_mul_right] at hr;exact⟨hq,by rw[hr,Nat.mul_div_cancel _ hp]⟩
theorem sF {q1 q0 Q R:Nat} (h:q1*4294967296+q0=Q) (h1:q1<4294967296) (h0:q0<4294967296):Ending.returned (.tuple #[.int .u64 (wrap .u64 (wrap .u64 ((q1:Int)*4294967296)+(q0:Int))),.int .u64 (R:Int)])=.returned (.tuple #[.int .u64 (Q:Int),.int .u64 (R:Int)]):=by
 have:wrap .u64 (wrap .u64 ((q1:Int)*4294967296)+(q0:Int))=(Q:Int):=by
  rw[wrap_u64,wrap_u64];omega
 rw[this]
theorem div64 (hi lo y:Nat) (hhi:hi<y) (hlo:lo<18446744073709551616) (hy:y<18446744073709551616) (w:World) :
  Calls Tryz.prog 123 #[.int .u64 hi,.int .u64 lo,.int .u64 y] w fun e w'=>e=.returned (.tuple #[.int .u64 (((hi*18446744073709551616+lo) / y:Nat):Int),.int .u64 (((hi*18446744073709551616+lo) % y:Nat):Int)])/\∃ n,w'=w.drewN n:=by
 obtain⟨N,hN⟩:∃ N,N=hi*18446744073709551616+lo:=⟨_,rfl⟩;rw[<-hN];have y0:((y:Int) == 0)=false:=by rw[beq_eq_false_iff_ne];omega
 have HN:=aA hN;clear hN;by_cases hz:hi=0
 ·subst hz
  obtain rfl:N=lo:=by have:=HN.out;omega
  have c1:((N / y:Nat):Int)=(N:Int) / (y:Int):=by simp
  have c2:((N % y:Nat):Int)=(N:Int) % (y:Int):=by simp
  have w1:=xY (N / y) (Nat.lt_of_le_of_lt (Nat.div_le_self _ _) (by omega));rw[c1] at w1;rw[c1,c2];have y1:¬ (y:Int)=0:=by omega
  have y2:¬ (y:Int)<=0:=by omega
  have y3:decide ((y:Int)<=0)=false:=by simp;omega
  have HYP:=aA hhi;clear hhi HN c1 c2;go_enter Tryz.func123,Tryz.ntmps123
  go_wp2_with fail
  go_quiet (fail)
  go_wp2;go_ret2;exact⟨rfl,_,rfl⟩
 obtain⟨Q,hQ⟩:∃ Q,N / y=Q:=⟨_,rfl⟩;obtain⟨R,hR⟩:∃ R,N % y=R:=⟨_,rfl⟩;rw[hQ,hR];have HQ:=aA hQ;have HR:=aA hR;clear hQ hR;obtain⟨s,hs2,hlz,hY1,hY2⟩:=norm y (by omega) hy;obtain⟨H,L,v,hv,e0,e1,e2,e3,e4,hU,hu⟩:=NK hi lo y s hs2 hY2 hhi hlo;have hm1:min s 64=s:=by omega
 have hm2:min (64-s) 64=64-s:=by omega
 generalize hYe:y*2 ^ s=Y at hY1 hY2 e0 hu;obtain⟨a1,a0,ha1,ha0,hYs,f1,f0⟩:=xZ Y hY2;obtain⟨d1,d0,hd1,hd0,hvs,g1,g0⟩:=xZ v hv;obtain⟨u,hue⟩:∃ u,H+L=u:=⟨_,rfl⟩;rw[hue] at e3 hU hu;rw[<-HN.out] at hU;have HU:=aA hU;have HYE:=aA hYe;have HYS:=aA hYs;have HVS:=aA hvs;have hlb:=fun w=>Tryz.bits_LeadingZeros64 y w (by omega) (by omega);rw[show (y:Int).toNat=y from rfl,hlz] at hlb;have z0:((hi:Int) == 0)=false:=by rw[beq_eq_false_iff_ne];omega
 have y4:decide ((y:Int)<=(hi:Int))=false:=by simp;omega
 have HH:=aA hhi;have HUY:=aA hu;have HLB:=aA hlb;have ha1p:2147483648<=a1:=by have:=HYS.out;omega
 obtain⟨t0,t1,t2,b0,b1,b2,m1,m2,m3,hdg⟩:=rZ (d:=d1) HYS.out HUY.out hY2 hd1 ha0 ha1p;have HDG0:=aA hdg;clear hdg;have k0:=SF Y hY2 a0 f0;have k1:=SF v hv d0 g0;have hY1':(9223372036854775808:Int)<=(Y:Int):=by omega
 clear hU hYe hYs hvs hue hlz hu hlb;go_enter Tryz.func123,Tryz.ntmps123
 go_wp2_with fail
 refine (HLB.out _).mono ?_;rintro e w' ⟨rfl,rfl⟩;go_wp2_with fail
 go_loop [15,16] (fun vq vr=>∃ q r:Nat,vq=.int .u64 q/\vr=.int .u64 r/\Dg u d1 a1 a0 q r/\q<=4294967298/\r<4294967296) (fun _ vr=>4294967296-(intOf vr).toNat)
 case atStart=>exact⟨t0,t1,rfl,rfl,HDG0.out,b0,b1⟩
 case round =>
  obtain⟨q,r,rfl,rfl,hdg,hq,hr⟩:=hrel;have HDG:=aA hdg;clear hdg;by_cases c1:4294967296<=q
  focus
   have n1:=dg_big HDG.out (by rw[<-HYS.out];exact HUY.out) hd1 c1;have HN1:=aA n1;have c1':(4294967296:Int)<=(q:Int):=by omega
   clear n1 HDG;by_cases c2:4294967296<=r+a1
   rotate_left
   focus
    obtain⟨qq,hqq⟩:∃ qq,q-1=qq:=⟨_,rfl⟩;have c4:((q:Int)-1)=(qq:Int):=by omega
    have c3:(r:Int)+(a1:Int)<4294967296:=by omega
    rw[hqq] at HN1;have d3:decide (4294967296<=(r:Int)+(a1:Int))=false:=by rw[decide_eq_false_iff_not];omega
    have d4:¬ (4294967296<=(r:Int)+(a1:Int)):=by omega
    have hb1:=aA (show qq<=4294967298 by omega);have hrb:=aA (show r+a1<4294967296 by omega);clear c2 hqq;clear c1;go_wp2_with fail
    go_round
    case rel=>exact⟨qq,r+a1,rfl,congrArg (Value.int .u64) (by omega),HN1.out,hb1.out,hrb.out⟩
    case measure=>simp only[intOf];omega
   have HF:=aA (zX HN1.out (by omega) (by rw[<-HYS.out];exact HUY.out) ha0 c2);obtain⟨qq,hqq⟩:∃ qq,q-1=qq:=⟨_,rfl⟩;have c3:(4294967296:Int)<=(r:Int)+(a1:Int):=by omega
   have c4:((q:Int)-1)=(qq:Int):=by omega
   rw[hqq] at HF;clear c2 hqq HN1;obtain⟨hq1,r1,hr1,hr1Y⟩:=xR HF.out.2 HYS.out HUY.out hd1;have HR1Y:=aA hr1Y;obtain⟨x1,x2,x3,x1b,x2b,x3b,m5,m6,m7,m8⟩:=nJ hr1 (by omega);obtain⟨z0,z1,z2,i0,i1,i2,m9,m10,m11,hdg2⟩:=rZ (d:=d0) HYS.out hr1Y hY2 hd0 ha0 ha1p;have HDG2:=aA hdg2;have hr1b:(r1:Int)<18446744073709551616:=by omega
   have HR1:Hid (u*4294967296+d1=qq*Y+r1):=aA hr1;have HQ1:=aA hq1;clear hr1 hr1Y hdg2 HF hq1;clear c1
  rotate_left
  focus
   have p4:q*a0<=4294967295*4294967295:=Nat.mul_le_mul (by omega) (by omega);obtain⟨pp,hpp⟩:∃ pp,q*a0=pp:=⟨_,rfl⟩;have e5:(q:Int)*(a0:Int)=(pp:Int):=by rw[<-hpp];simp
   rw[hpp] at p4;have c1':(q:Int)<4294967296:=by omega
   have p4':(pp:Int)<18446744073709551616:=by omega
   by_cases c5:4294967296*r+d1<pp
   focus
    have n1:=RQ HDG.out (by omega) (by rw[hpp];exact c5);have HN1:=aA n1
    have hq0:0<q:=by
     rcases Nat.eq_zero_or_pos q with rfl|h
     ·omega
     ·exact h
    have c5':4294967296*(r:Int)+(d1:Int)<(pp:Int):=by omega
    clear n1 hpp HDG c5 p4 c1;by_cases c2:4294967296<=r+a1
    rotate_left
    focus
     obtain⟨qq,hqq⟩:∃ qq,q-1=qq:=⟨_,rfl⟩;have c4:((q:Int)-1)=(qq:Int):=by omega
     have c3:(r:Int)+(a1:Int)<4294967296:=by omega
     rw[hqq] at HN1;have d3:decide (4294967296<=(r:Int)+(a1:Int))=false:=by rw[decide_eq_false_iff_not];omega
     have d4:¬ (4294967296<=(r:Int)+(a1:Int)):=by omega
     have hb1:=aA (show qq<=4294967298 by omega);have hrb:=aA (show r+a1<4294967296 by omega);clear c2 hqq;go_wp2_with fail
     go_round
     case rel=>exact⟨qq,r+a1,rfl,congrArg (Value.int .u64) (by omega),HN1.out,hb1.out,hrb.out⟩
     case measure=>simp only[intOf];omega
    have HF:=aA (zX HN1.out (by omega) (by rw[<-HYS.out];exact HUY.out) ha0 c2);obtain⟨qq,hqq⟩:∃ qq,q-1=qq:=⟨_,rfl⟩;have c3:(4294967296:Int)<=(r:Int)+(a1:Int):=by omega
    have c4:((q:Int)-1)=(qq:Int):=by omega
    rw[hqq] at HF;clear c2 hqq HN1;obtain⟨hq1,r1,hr1,hr1Y⟩:=xR HF.out.2 HYS.out HUY.out hd1;have HR1Y:=aA hr1Y;obtain⟨x1,x2,x3,x1b,x2b,x3b,m5,m6,m7,m8⟩:=nJ hr1 (by omega);obtain⟨z0,z1,z2,i0,i1,i2,m9,m10,m11,hdg2⟩:=rZ (d:=d0) HYS.out hr1Y hY2 hd0 ha0 ha1p;have HDG2:=aA hdg2;have hr1b:(r1:Int)<18446744073709551616:=by omega
    have HR1:Hid (u*4294967296+d1=qq*Y+r1):=aA hr1;have HQ1:=aA hq1;clear hr1 hr1Y hdg2 HF hq1
   rotate_left
   focus
    have HF:=aA (I5 HDG.out (by omega) (by rw[hpp];omega));have c6:(pp:Int)<=4294967296*(r:Int)+(d1:Int):=by omega
    clear HDG hpp c5 p4 c1 hq;obtain⟨hq1,r1,hr1,hr1Y⟩:=xR HF.out HYS.out HUY.out hd1;have HR1Y:=aA hr1Y;obtain⟨x1,x2,x3,x1b,x2b,x3b,m5,m6,m7,m8⟩:=nJ hr1 (by omega);obtain⟨z0,z1,z2,i0,i1,i2,m9,m10,m11,hdg2⟩:=rZ (d:=d0) HYS.out hr1Y hY2 hd0 ha0 ha1p;have HDG2:=aA hdg2;have hr1b:(r1:Int)<18446744073709551616:=by omega
    have HR1:Hid (u*4294967296+d1=q*Y+r1):=aA hr1;have HQ1:=aA hq1;clear hr1 hr1Y hdg2 HF hq1;obtain⟨rr,hrr⟩:∃ rr:Nat,4294967296*r=rr:=⟨_,rfl⟩;obtain⟨rd,hrd⟩:∃ rd:Nat,rr+d1=rd:=⟨_,rfl⟩;have d5:4294967296*(r:Int)=(rr:Int):=by omega
    have d6:(rr:Int)+(d1:Int)=(rd:Int):=by omega
    have d7:(rr:Int)<18446744073709551616:=by omega
    have d8:(rd:Int)<18446744073709551616:=by omega
    have d9:(pp:Int)<=(rd:Int):=by omega
    have d10:decide ((rd:Int)<(pp:Int))=false:=by rw[decide_eq_false_iff_not];omega
    have d11:decide (rd<pp)=false:=by rw[decide_eq_false_iff_not];omega
    have d12:decide ((4294967296:Int)<=(q:Int))=false:=by rw[decide_eq_false_iff_not];omega
    have d13:(decide ((4294967296:Int)<=(q:Int)) || decide (rd<pp))=false:=by rw[d11,d12];rfl
    clear c6 hrr hrd hr
   rotate_left
  rotate_left 2
  all_goals
   go_wp2_with fail
   try clear d13
   try clear d12
   try clear d11
   try clear d10
   try clear d9
   try clear d8
   try clear d7
   try clear d6
   try clear d5
   try clear e5
   try clear p4'
   try clear c1'
   try clear c3
   try clear c4
   try clear c5'
   try clear m5
   try clear m6
   try clear m7
   try clear m8
   try clear m9
   try clear m10
   try clear m11
   try clear hq0
   try clear hq
   try clear hr
   try clear hq1e
   try clear m1
   try clear m2
   try clear m3
   try clear b0
   try clear b1
   try clear b2
   try clear x1b
   try clear x2b
   try clear x3b
   go_loop [18,16] (fun vq vr=>∃ q r:Nat,vq=.int .u64 q/\vr=.int .u64 r/\Dg r1 d0 a1 a0 q r/\q<=4294967298/\r<4294967296) (fun _ vr=>4294967296-(intOf vr).toNat)
   case atStart=>exact⟨z0,z1,rfl,rfl,HDG2.out,i0,i1⟩
   case round =>
    obtain⟨q,r,rfl,rfl,hdg,hq,hr⟩:=hrel;have HDG:=aA hdg;clear hdg;by_cases c1:4294967296<=q
    ·have n1:=dg_big HDG.out (by rw[<-HYS.out];exact HR1Y.out) hd0 c1
     have HN1:=aA n1;have c1':(4294967296:Int)<=(q:Int):=by omega
     clear n1 HDG;by_cases c2:4294967296<=r+a1
     ·have HF:=aA (zX HN1.out (by omega) (by rw[<-HYS.out];exact HR1Y.out) ha0 c2)
      obtain⟨qq,hqq⟩:∃ qq,q-1=qq:=⟨_,rfl⟩;have c3:(4294967296:Int)<=(r:Int)+(a1:Int):=by omega
      have c4:((q:Int)-1)=(qq:Int):=by omega
      rw[hqq] at HF;clear c2 hqq HN1;obtain⟨hq0',r0,hr0,hr0Y⟩:=xR HF.out.2 HYS.out HR1Y.out hd0;obtain⟨y1,y2,y3,y1b,y2b,y3b,n5,n6,n7,n8⟩:=nJ hr0 (by omega);obtain⟨hfq,hfr⟩:=xL HU.out HVS.out HYE.out HR1.out hr0 hr0Y;rw[HQ.out] at hfq;rw[HR.out] at hfr;have n9:(r0:Int) / 2 ^ s=(R:Int):=by rw[<-hfr];simp
      have HFQ:=aA hfq;have HQ0:=aA hq0';clear hr0 hfq hfr HF hq0';clear c1;go_wp2_with fail
      go_ret2;first|exact⟨sF HFQ.out HQ1.out HQ0.out,_,rfl⟩|exact⟨sF HFQ.out HQ1.out HQ0.out,0,(World.drewN_zero _).symm⟩
     ·obtain⟨qq,hqq⟩:∃ qq,q-1=qq:=⟨_,rfl⟩
      have c4:((q:Int)-1)=(qq:Int):=by omega
      have c3:(r:Int)+(a1:Int)<4294967296:=by omega
      rw[hqq] at HN1;have d3:decide (4294967296<=(r:Int)+(a1:Int))=false:=by rw[decide_eq_false_iff_not];omega
      have d4:¬ (4294967296<=(r:Int)+(a1:Int)):=by omega
      have hb1:=aA (show qq<=4294967298 by omega);have hrb:=aA (show r+a1<4294967296 by omega);clear c2 hqq;clear c1;go_wp2_with fail
      go_round
      case rel=>exact⟨qq,r+a1,rfl,congrArg (Value.int .u64) (by omega),HN1.out,hb1.out,hrb.out⟩
      case measure=>simp only[intOf];omega
    ·have p4:q*a0<=4294967295*4294967295:=Nat.mul_le_mul (by omega) (by omega)
     obtain⟨pp,hpp⟩:∃ pp,q*a0=pp:=⟨_,rfl⟩;have e5:(q:Int)*(a0:Int)=(pp:Int):=by rw[<-hpp];simp
     rw[hpp] at p4;have c1':(q:Int)<4294967296:=by omega
     have p4':(pp:Int)<18446744073709551616:=by omega
     by_cases c5:4294967296*r+d0<pp
     ·have n1:=RQ HDG.out (by omega) (by rw[hpp];exact c5)
      have HN1:=aA n1
      have hq0:0<q:=by
       rcases Nat.eq_zero_or_pos q with rfl|h
       ·omega
       ·exact h
      have c5':4294967296*(r:Int)+(d0:Int)<(pp:Int):=by omega
      clear n1 hpp HDG c5 p4 c1;by_cases c2:4294967296<=r+a1
      ·have HF:=aA (zX HN1.out (by omega) (by rw[<-HYS.out];exact HR1Y.out) ha0 c2)
       obtain⟨qq,hqq⟩:∃ qq,q-1=qq:=⟨_,rfl⟩;have c3:(4294967296:Int)<=(r:Int)+(a1:Int):=by omega
       have c4:((q:Int)-1)=(qq:Int):=by omega
       rw[hqq] at HF;clear c2 hqq HN1;obtain⟨hq0',r0,hr0,hr0Y⟩:=xR HF.out.2 HYS.out HR1Y.out hd0;obtain⟨y1,y2,y3,y1b,y2b,y3b,n5,n6,n7,n8⟩:=nJ hr0 (by omega);obtain⟨hfq,hfr⟩:=xL HU.out HVS.out HYE.out HR1.out hr0 hr0Y;rw[HQ.out] at hfq;rw[HR.out] at hfr;have n9:(r0:Int) / 2 ^ s=(R:Int):=by rw[<-hfr];simp
       have HFQ:=aA hfq;have HQ0:=aA hq0';clear hr0 hfq hfr HF hq0';go_wp2_with fail
       go_ret2;first|exact⟨sF HFQ.out HQ1.out HQ0.out,_,rfl⟩|exact⟨sF HFQ.out HQ1.out HQ0.out,0,(World.drewN_zero _).symm⟩
      ·obtain⟨qq,hqq⟩:∃ qq,q-1=qq:=⟨_,rfl⟩
       have c4:((q:Int)-1)=(qq:Int):=by omega
       have c3:(r:Int)+(a1:Int)<4294967296:=by omega
       rw[hqq] at HN1;have d3:decide (4294967296<=(r:Int)+(a1:Int))=false:=by rw[decide_eq_false_iff_not];omega
       have d4:¬ (4294967296<=(r:Int)+(a1:Int)):=by omega
       have hb1:=aA (show qq<=4294967298 by omega);have hrb:=aA (show r+a1<4294967296 by omega);clear c2 hqq;go_wp2_with fail
       go_round
       case rel=>exact⟨qq,r+a1,rfl,congrArg (Value.int .u64) (by omega),HN1.out,hb1.out,hrb.out⟩
       case measure=>simp only[intOf];omega
     ·have HF:=aA (I5 HDG.out (by omega) (by rw[hpp];omega))
      have c6:(pp:Int)<=4294967296*(r:Int)+(d0:Int):=by omega
      clear HDG hpp c5 p4 c1 hq;obtain⟨hq0',r0,hr0,hr0Y⟩:=xR HF.out HYS.out HR1Y.out hd0;obtain⟨y1,y2,y3,y1b,y2b,y3b,n5,n6,n7,n8⟩:=nJ hr0 (by omega);obtain⟨hfq,hfr⟩:=xL HU.out HVS.out HYE.out HR1.out hr0 hr0Y;rw[HQ.out] at hfq;rw[HR.out] at hfr;have n9:(r0:Int) / 2 ^ s=(R:Int):=by rw[<-hfr];simp
      have HFQ:=aA hfq;have HQ0:=aA hq0';clear hr0 hfq hfr HF hq0';obtain⟨rr,hrr⟩:∃ rr:Nat,4294967296*r=rr:=⟨_,rfl⟩;obtain⟨rd,hrd⟩:∃ rd:Nat,rr+d0=rd:=⟨_,rfl⟩;have d5:4294967296*(r:Int)=(rr:Int):=by omega
      have d6:(rr:Int)+(d0:Int)=(rd:Int):=by omega
      have d7:(rr:Int)<18446744073709551616:=by omega
      have d8:(rd:Int)<18446744073709551616:=by omega
      have d9:(pp:Int)<=(rd:Int):=by omega
      have d10:decide ((rd:Int)<(pp:Int))=false:=by rw[decide_eq_false_iff_not];omega
      have d11:decide (rd<pp)=false:=by rw[decide_eq_false_iff_not];omega
      have d12:decide ((4294967296:Int)<=(q:Int))=false:=by rw[decide_eq_false_iff_not];omega
      have d13:(decide ((4294967296:Int)<=(q:Int)) || decide (rd<pp))=false:=by rw[d11,d12];rfl
      clear c6 hrr hrd hr;go_wp2_with fail
      go_ret2;first|exact⟨sF HFQ.out HQ1.out HQ0.out,_,rfl⟩|exact⟨sF HFQ.out HQ1.out HQ0.out,0,(World.drewN_zero _).symm⟩
end
section
open Go.RowKit
theorem hi_lt {N hi lo C:Nat} (h:N=hi*18446744073709551616+lo) (hlo:lo<18446744073709551616) (hc:hi<C):N / C<=18446744073709551615:=by
 have:N / C<18446744073709551616:=by
  rw[Nat.div_lt_iff_lt_mul (by omega)];omega
 omega
theorem hi_ge {N hi lo C:Nat} (h:N=hi*18446744073709551616+lo) (hc0:0<C) (hc:C<=hi):18446744073709551616<=N / C:=by
 rw[Nat.le_div_iff_mul_le hc0];omega
theorem mU (a b c:Int) (w:World) (a0: -9223372036854775808<=a) (a1:a<=9223372036854775807) (b0: -9223372036854775808<=b) (b1:b<=9223372036854775807) (c0:0<c) (c1:c<=9223372036854775807) :
  Calls Tryz.prog 119 #[.int .i64 a,.int .i64 b,.int .i64 c] w fun e w'=>e=.returned (.tuple #[.int .i64 (QY (a*b / c)),.bool (NT (a*b / c))])/\∃ n,w'=w.drewN n:=by
 have hx:a.natAbs<=9223372036854775808:=by omega
 have hy:b.natAbs<=9223372036854775808:=by omega
 have hnc:decide (c<0)=false:=by simp;omega
 obtain⟨p,hp⟩:∃ p,p=a*b / c:=⟨_,rfl⟩;rw[<-hp];have HP:=aA hp;clear hp;have S1:=aA (FH a w a0 a1);have S2:=aA (FH b w b0 b1);have S3:=aA (fun w=>FH c w (by omega) c1);obtain⟨C,hC⟩:∃ C,c.natAbs=C:=⟨_,rfl⟩;have HCC:Hid (c=(C:Int)):=aA (by omega);have hC0:0<C:=by omega
 have hCb:C<=9223372036854775807:=by omega
 rw[hC] at S3;clear hC;have HSD:=aA (fun (N:Nat) (hN:a.natAbs*b.natAbs=N)=>sgn_div (a:=a) (b:=b) (c:=c) (C:=C) (Q:=N / C) (r:=N % C) HCC.out hN (by rw[Nat.mul_comm];exact Nat.div_add_mod N C) (Nat.mod_lt N hC0));have HM:=aA (mul64 a.natAbs b.natAbs (by omega) (by omega) w);generalize a.natAbs=A at S1 HM HSD hx;generalize b.natAbs=B at S2 HM HSD hy;go_enter Tryz.func119,Tryz.ntmps119
 go_wp2_with fail
 refine S1.out.mono ?_;rintro e w' ⟨rfl,rfl⟩;go_wp2_with fail
 refine S2.out.mono ?_;rintro e w' ⟨rfl,rfl⟩;go_wp2_with fail
 refine HM.out.mono ?_;rintro e w' ⟨hi,lo,rfl,rfl,hm,hlo⟩;obtain⟨N,hN⟩:∃ N,A*B=N:=⟨_,rfl⟩;rw[hN] at hm;have HS:=aA (HSD.out N hN);have HNE:=aA hm.out
 have hhb:hi<=4611686018427387904:=by
  have h1:=abs_prod hx hy;rw[hN,hm.out] at h1;omega
 clear hm HSD HM hN;go_wp2_with fail
 refine (S3.out _).mono ?_;rintro e w' ⟨rfl,rfl⟩;by_cases hge:C<=hi
 ·have t2:decide ((C:Int)<=(hi:Int))=true:=by simp;omega
  have hq:=hi_ge HNE.out hC0 hge;have hs:=HS.out;rw[<-HP.out] at hs
  have hout:p < -9223372036854775808\/9223372036854775807<p:=by
   generalize N / C=q at hq hs;rw[hs];split
   ·rw[mP];omega
   ·cases (!(decide (a<0) == decide (b<0)))
    ·rw[GK];omega
    ·rw[mP];omega
  have HO:=aA hout;clear hs hout hq HS HNE HP;go_wp2_with fail
  go_ret2;exact⟨oO (lM HO.out).symm (kF HO.out).symm,0,rfl⟩
 ·have t2:decide ((C:Int)<=(hi:Int))=false:=by simp;omega
  have t1:¬ (C:Int)<=(hi:Int):=by omega
  have hd:=div64 hi lo C (by omega) (by omega) (by omega) w;rw[<-HNE.out] at hd;have HD:=aA hd;have hq:=hi_lt HNE.out (by omega) (by omega:hi<C);clear hd;go_wp2_with fail
  refine (S3.out _).mono ?_;rintro e w' ⟨rfl,rfl⟩;go_wp2_with fail
  refine HD.out.mono ?_;rintro e w1 ⟨rfl,n,rfl⟩;have hs:=HS.out;rw[<-HP.out] at hs;have hrl:N % C<C:=Nat.mod_lt N hC0;generalize N / C=q at hq hs |-;generalize N % C=r at hs hrl |-;have HS':=aA hs;clear hs HS HD HNE HP t1 t2 hge
  cases hneg: !(decide (a<0) == decide (b<0))
  ·rw[hneg] at HS'
   have hs:=HS'.out;simp only[Bool.false_eq_true,false_and,if_false] at hs;have HX:=aA hs;clear hs HS';go_wp2_with fail
   refine (vX q _ _ hq).mono ?_;rintro e w' ⟨rfl,rfl⟩;go_wp2;go_ret2;exact⟨oO (by rw[HX.out]) (by rw[HX.out]),n,rfl⟩
  ·rw[hneg] at HS'
   have hs:=HS'.out;simp only[true_and] at hs;by_cases h0:0<r
   ·rw[if_pos h0] at hs
    have HX:=aA hs;have r1:((r:Int) != 0)=true:=by rw[bne_iff_ne];omega
    have r2:((r:Int) == 0)=false:=by rw[beq_eq_false_iff_ne];omega
    clear hs HS';by_cases hz:q=18446744073709551615
    ·subst hz
     have HO:Hid (p < -9223372036854775808\/9223372036854775807<p):=aA (by rw[HX.out,mP];omega);go_wp2_with fail
     go_ret2;exact⟨oO (lM HO.out).symm (kF HO.out).symm,n,rfl⟩
    ·have q1:((q:Int) == 18446744073709551615)=false:=by rw[beq_eq_false_iff_ne];omega
     obtain⟨q2,hq2⟩:∃ q2,q+1=q2:=⟨_,rfl⟩;have hq3:(q:Int)+1=(q2:Int):=by omega
     have hq4:q2<=18446744073709551615:=by omega
     rw[hq2] at HX;clear hq2 h0;go_wp2_with fail
     refine (vX q2 _ _ hq4).mono ?_;rintro e w' ⟨rfl,rfl⟩;go_wp2;go_ret2;exact⟨oO (by rw[HX.out]) (by rw[HX.out]),n,rfl⟩
   ·rw[if_neg h0] at hs
    have HX:=aA hs;obtain rfl:r=0:=by omega
    clear hs HS';go_wp2_with fail
    refine (vX q _ _ hq).mono ?_;rintro e w' ⟨rfl,rfl⟩;go_wp2;go_ret2;exact⟨oO (by rw[HX.out]) (by rw[HX.out]),n,rfl⟩
theorem fabs (n:Int) (w:World) (h0: -9223372036854775807<=n) (h1:n<=9223372036854775807) :
  Calls Tryz.prog 303 #[.int .i64 n] w fun e w'=>e=.returned (.tuple #[.int .i64 (n.natAbs:Int),.bool true])/\w=w':=by
 have HS:=aA (FH n w (by omega) (by omega));have hm:n.natAbs<=9223372036854775807:=by omega
 generalize n.natAbs=m at HS hm |-;have HG:=aA (vX m false w (by omega));rw[GK,gH (by omega) (by omega),gV (by omega) (by omega)] at HG;go_enter Tryz.func303,Tryz.ntmps303
 go_wp2_with fail
 refine HS.out.mono ?_;rintro e w' ⟨rfl,rfl⟩;go_wp2_with fail
 refine HG.out.mono ?_;rintro e w' ⟨rfl,rfl⟩;go_wp2;go_ret2;exact⟨rfl,rfl⟩
theorem AL (a b:Int) (a0: -9223372036854775808<=a) (a1:a<=9223372036854775807) (b0: -9223372036854775808<=b) (b1:b<=9223372036854775807) :
  wrap64 (a-b)=(if a-b < -9223372036854775808 then a-b+18446744073709551616 else if 9223372036854775807<a-b then a-b - 18446744073709551616 else a-b):=by
 unfold wrap64;split
 ·omega
 ·split<;>omega
theorem fsub (a b:Int) (w:World) (a0: -9223372036854775808<=a) (a1:a<=9223372036854775807) (b0: -9223372036854775808<=b) (b1:b<=9223372036854775807) :
  Calls Tryz.prog 164 #[.int .i64 a,.int .i64 b] w fun e w'=>e=.returned (.tuple #[.int .i64 (QY (a-b)),.bool (NT (a-b))])/\w=w':=by
 by_cases hlo:a-b < -9223372036854775808
 ·rw[lM (by omega),kF (by omega)]
  have d1:decide (a<0)=true:=by simp;omega
  have d2:decide (b<0)=false:=by simp;omega
  have d3:decide (wrap64 (a-b)<0)=false:=by rw[AL a b a0 a1 b0 b1];simp[hlo];omega
  clear hlo;go_enter Tryz.func164,Tryz.ntmps164
  go_wp2;go_ret2;exact⟨rfl,rfl⟩
 ·by_cases hhi:9223372036854775807<a-b
  ·rw[lM (by omega),kF (by omega)]
   have d1:decide (a<0)=false:=by simp;omega
   have d2:decide (b<0)=true:=by simp;omega
   have d3:decide (wrap64 (a-b)<0)=true:=by rw[AL a b a0 a1 b0 b1];simp[hlo,hhi];omega
   clear hlo hhi;go_enter Tryz.func164,Tryz.ntmps164
   go_wp2;go_ret2;exact⟨rfl,rfl⟩
  ·rw[gH (by omega) (by omega),gV (by omega) (by omega)]
   have hl1: -9223372036854775808<=a-b:=by omega
   have hl2:a-b<=9223372036854775807:=by omega
   by_cases h1:a<0<;>by_cases h2:b<0<;>by_cases h3:a-b<0
   all_goals first|(exfalso;omega)|skip
   all_goals
    go_enter Tryz.func164,Tryz.ntmps164
    go_wp2;go_ret2;exact⟨rfl,rfl⟩
end
section
open Go.RowKit
def uO (n:Nat):Nat->Nat->Nat
 | 0,r=>r
 | k+1,r=>if (r+2 ^ k)*(r+2 ^ k)<=n then uO n k (r+2 ^ k) else uO n k r
def UQ (n:Nat):Nat:=uO n 32 0
theorem xH (n:Nat):∀ (k r:Nat),r*r<=n->n<(r+2 ^ k)*(r+2 ^ k)->uO n k r*uO n k r<=n/\n<(uO n k r+1)*(uO n k r+1)
 | 0,r,h0,h1=>⟨h0,h1⟩
 | k+1,r,h0,h1=>by
  unfold uO;by_cases h:(r+2 ^ k)*(r+2 ^ k)<=n
  ·rw[if_pos h]
   refine xH n k _ h ?_;rw[show r+2 ^ k+2 ^ k=r+2 ^ (k+1) by rw[Nat.pow_succ];omega];exact h1
  ·rw[if_neg h]
   exact xH n k r h0 (by omega)
theorem Z8 (n:Nat) (h:n<18446744073709551616):UQ n*UQ n<=n/\n<(UQ n+1)*(UQ n+1):=xH n 32 0 (by omega) (by simpa using h)
theorem Z9 {n:Nat} (h:n<18446744073709551616):UQ n<4294967296:=by
 have:=(Z8 n h).1;refine Nat.lt_of_not_le fun hge=>?_;have:=Nat.mul_le_mul hge hge;omega
theorem fsqrt (n:Nat) (w:World) (h1:n<=9223372036854775807) :
  Calls Tryz.prog 279 #[.int .i64 n] w fun e w'=>e=.returned (.tuple #[.int .i64 (UQ n:Int),.bool true])/\w=w':=by
 have hisq:=Z9 (n:=n) (by omega);have HR:Hid (UQ n=uO n 32 0):=aA rfl;generalize UQ n=res at HR hisq |-;go_enter Tryz.func279,Tryz.ntmps279
 go_wp2_with fail
 go_loop [4,9] (fun vr vk=>∃ (r k x:Nat),vr=.int .u64 r/\vk=.int .i64 k/\r<4294967296/\k<=32/\Hid (res=uO n (32-k) r)/\Hid (r=2 ^ (32-k)*x)) (fun _ vk=>32-(intOf vk).toNat)
 case atStart=>exact⟨0,0,0,rfl,rfl,by omega,by omega,HR,aA (by simp)⟩
 case round =>
  obtain⟨r,k,x,rfl,rfl,hr,hk,HI,HX⟩:=hrel;by_cases hk2:k<32
  ·obtain⟨j,hj⟩:∃ j,31-k=j:=⟨_,rfl⟩
   have hj2:(31:Int)-(k:Int)=(j:Int):=by omega
   have e1:32-k=j+1:=by omega
   have e2:32-(k+1)=j:=by omega
   have hjb:j<=31:=by omega
   have HS:Hid (res=if (r+2 ^ j)*(r+2 ^ j)<=n then uO n j (r+2 ^ j) else uO n j r):=aA (by have:=HI.out;rw[e1] at this;rw[this,uO]);have hxr:=HX.out;rw[e1] at hxr;have hp:2 ^ j<=2 ^ 31:=Nat.pow_le_pow_right (by omega) hjb;have hps:2 ^ j<2 ^ (j+1):=by rw[Nat.pow_succ];have:=Nat.two_pow_pos j;omega
   have hor:=NH (a:=r) (b:=2 ^ j) (j+1) (by omega) (by omega) x hxr hps;have HX1:Hid (r=2 ^ j*(2*x)):=aA (by rw[hxr,Nat.pow_succ,Nat.mul_assoc]);have HX2:Hid (r+2 ^ j=2 ^ j*(2*x+1)):=aA (by rw[Nat.mul_add,Nat.mul_one,<-HX1.out])
   have hlt:r+2 ^ j<4294967296:=by
    have h3:2 ^ (j+1)*x<2 ^ (j+1)*2 ^ (31-j):=by rw[<-hxr,<-Nat.pow_add,show j+1+(31-j)=32 by omega];exact hr
    have h4:x<2 ^ (31-j):=Nat.lt_of_mul_lt_mul_left h3;have h5:2 ^ (j+1)*(x+1)<=2 ^ (j+1)*2 ^ (31-j):=Nat.mul_le_mul_left _ h4;rw[<-Nat.pow_add,show j+1+(31-j)=32 by omega,Nat.mul_add,<-hxr,Nat.mul_one] at h5;omega
   obtain⟨pw,hpw⟩:∃ pw,2 ^ j=pw:=⟨_,rfl⟩;have hpi:(2:Int) ^ j=(pw:Int):=by rw[<-hpw];simp
   rw[hpw] at hor HS hlt HX2;have hm:min j 64=j:=by omega
   obtain⟨nx,hnx⟩:∃ nx,r+pw=nx:=⟨_,rfl⟩;rw[hnx] at hor HS hlt HX2;have HP:=aA hpw;have HE2:=aA e2;obtain⟨sq,hsq⟩:∃ sq,nx*nx=sq:=⟨_,rfl⟩;have hsqb:sq<=4294967295*4294967295:=by rw[<-hsq];exact Nat.mul_le_mul (by omega) (by omega)
   have hsqi:(nx:Int)*(nx:Int)=(sq:Int):=by rw[<-hsq];simp
   rw[hsq] at HS;have hwr:wrap .u64 (sq:Int)=(sq:Int):=by rw[wrap_u64];omega
   have hwp:wrap .u64 (pw:Int)=(pw:Int):=by rw[wrap_u64];omega
   clear hpw hj hsq hnx hps hp hxr e1 e2 HI HX;by_cases hle:sq<=n
   ·have HS2:Hid (res=uO n j nx):=aA (by have:=HS.out;rw[if_pos hle] at this;exact this)
    have q1:decide ((sq:Int)<=(n:Int))=true:=by simp;omega
    clear HS;go_wp2_with fail
    go_round
    case rel=>exact⟨nx,k+1,2*x+1,rfl,by go_num,hlt,by omega,aA (by rw[HE2.out];exact HS2.out),aA (by rw[HE2.out,HP.out];exact HX2.out)⟩
    case measure=>simp only[intOf];omega
   ·have HS2:Hid (res=uO n j r):=aA (by have:=HS.out;rw[if_neg hle] at this;exact this)
    have q1:decide ((sq:Int)<=(n:Int))=false:=by simp;omega
    clear HS;go_wp2_with fail
    go_round
    case rel=>exact⟨r,k+1,2*x,rfl,by go_num,hr,by omega,aA (by rw[HE2.out];exact HS2.out),aA (by rw[HE2.out];exact HX1.out)⟩
    case measure=>simp only[intOf];omega
  ·obtain rfl:k=32:=by omega
   have HI2:Hid (res=r):=aA HI.out;clear HI HX hk hk2;go_wp2_with fail
   go_ret2;exact⟨by rw[HI2.out];rfl,rfl⟩
def dA (n lo hi:Int):Int:=if n<lo then lo else if hi<n then hi else n
theorem FT {n lo hi:Int}:lo<=hi->(dA n lo hi=n↔lo<=n/\n<=hi):=by
 intro h;unfold dA;split
 ·omega
 ·split<;>omega
theorem IV (n lo hi:Int) (w:World):Calls Tryz.prog 296 #[.int .i64 n,.int .i64 lo,.int .i64 hi] w fun e w'=>e=.returned (.int .i64 (dA n lo hi))/\w=w':=by
 by_cases h1:n<lo
 ·have hr:dA n lo hi=lo:=by unfold dA;rw[if_pos h1]
  rw[hr];go_enter Tryz.func296,Tryz.ntmps296
  go_wp2;go_ret
  exact⟨rfl,rfl⟩
 ·by_cases h2:hi<n
  ·have hr:dA n lo hi=hi:=by unfold dA;rw[if_neg h1,if_pos h2]
   rw[hr];go_enter Tryz.func296,Tryz.ntmps296
   go_wp2;go_ret
   exact⟨rfl,rfl⟩
  ·have hr:dA n lo hi=n:=by unfold dA;rw[if_neg h1,if_neg h2]
   rw[hr];go_enter Tryz.func296,Tryz.ntmps296
   go_wp2;go_ret
   exact⟨rfl,rfl⟩
theorem fceil2 (a:Int) (w:World) (a0:0<=a) (a1:a<=9223372036854775800) :
  Calls Tryz.prog 299 #[.int .i64 a,.int .i64 2] w fun e w'=>e=.returned (.tuple #[.int .i64 ((a+1) / 2),.bool true])/\∃ n,w'=w.drewN n:=by
 have hb:=RJ a 2 w (by omega) (by omega) (by omega) (by omega);have e1:a.tdiv 2=a / 2:=Int.tdiv_eq_ediv_of_nonneg a0;have e2:a.tmod 2=a % 2:=Int.tmod_eq_emod_of_nonneg a0;rw[e1,e2] at hb;have hr:a % 2=0\/a % 2=1:=by omega
 have HB:=aA hb;clear hb e1 e2;obtain⟨q,hq⟩:∃ q,a / 2=q:=⟨_,rfl⟩;obtain⟨r,hr2⟩:∃ r,a % 2=r:=⟨_,rfl⟩;have hqb:q<=4611686018427387904/\0<=q:=by omega
 rw[hq,hr2] at HB;rw[hr2] at hr;rcases hr with rfl|rfl
 focus
  have HV:Hid ((a+1) / 2=q):=aA (by omega)
 rotate_left
 focus
  have HV:Hid ((a+1) / 2=q+1):=aA (by omega)
 rotate_left
 all_goals
  clear hq hr2;go_enter Tryz.func299,Tryz.ntmps299
  go_wp2_with fail
  refine HB.out.mono ?_;rintro e w' ⟨rfl,n,rfl⟩;go_wp2_with fail
  go_ret2;exact⟨by rw[HV.out];rfl,_,rfl⟩
end
section
open Go.RowKit
theorem md_bd {a b c:Int} (ha:0<=a) (hac:a<=c) (hc:0<c):(0<=b->0<=a*b / c/\a*b / c<=b)/\(b<0->b<=a*b / c/\a*b / c<=0):=by
 refine⟨fun hb=>⟨Int.ediv_nonneg (Int.mul_nonneg ha hb) (by omega),?_⟩,fun hb=>⟨?_,?_⟩⟩
 ·refine Int.ediv_le_of_le_mul hc ?_
  rw[Int.mul_comm b c];exact Int.mul_le_mul_of_nonneg_right hac hb
 ·rw[Int.le_ediv_iff_mul_le hc,Int.mul_comm b c]
  exact Int.mul_le_mul_of_nonpos_right hac (by omega)
 ·refine Int.ediv_le_of_le_mul hc ?_
  rw[Int.zero_mul];exact Int.mul_nonpos_of_nonneg_of_nonpos ha (by omega)
theorem j5 {P:Program} {f:FuncId} {args:Array Value} {w:World} {v:Ending} (h:Calls P f args w fun e w'=>e=v/\∃ n,w'=w.drewN n):Calls P f args w fun e w'=>e=v/\Oy [] w w':=
 h.mono fun e w' ⟨he,n,hn⟩=>⟨he,by rw[hn];exact⟨rfl,rfl,rfl,Nat.le_refl _,fun _ _ _=>rfl⟩⟩
theorem jH {P:Program} {f:FuncId} {args:Array Value} {w:World} {v:Ending} (h:Calls P f args w fun e w'=>e=v/\w=w'):Calls P f args w fun e w'=>e=v/\Oy [] w w':=
 h.mono fun e w' ⟨he,hn⟩=>⟨he,by rw[<-hn];exact aR _ _⟩
end
end
end Go.Proofs.YtppjhbjmfkiejaaGreat
