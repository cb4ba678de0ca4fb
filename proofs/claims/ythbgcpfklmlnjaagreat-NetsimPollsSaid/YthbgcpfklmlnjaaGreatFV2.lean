/- Texts of one chain: Fx, W, Rb, M1. Conditions: those named in each theorem. -/
import Derived.Test.YthbgcpfklmlnjaaGreatFV1
import Derived.Test.YthbgcpfklmlnjaaGreatShelf
import Derived.IntWalk
import Derived.Laws.Bits64b
namespace Go.Proofs.YthbgcpfklmlnjaaGreat
set_option maxRecDepth 100000
set_option maxHeartbeats 400000
section
open Go.RowKit
def MO (n:Int):Bool:=decide (-9223372036854775808<=n/\n<=9223372036854775807)
def PY (n:Int):Int:=if MO n then n else 0
theorem OE {k:IntKind} {a b:Int} (h:a=b):Ending.returned (.int k a)=.returned (.int k b):=by rw[h]
theorem oH {k:IntKind} {a b:Int} {x y:Bool} (h:a=b) (h2:x=y):Ending.returned (.tuple #[.int k a,.bool x])=.returned (.tuple #[.int k b,.bool y]):=by rw[h,h2]
theorem EK (n:Int) (w:World) (h0: -9223372036854775808<=n) (h1:n<=9223372036854775807) :
  Calls Tryz.prog 121 #[.int .i64 n] w fun e w'=>e=.returned (.int .u64 (n.natAbs:Int))/\w=w':=by
 by_cases h:n<0
 ·go_enter Tryz.func121,Tryz.ntmps121
  go_wp2;go_ret
  refine⟨OE ?_,rfl⟩;simp only[IntKind.wrap_u64];omega
 ·go_enter Tryz.func121,Tryz.ntmps121
  go_wp2;go_ret
  refine⟨OE ?_,rfl⟩;try simp only[IntKind.wrap_u64]
  omega
theorem gM {n:Int} (h0: -9223372036854775808<=n) (h1:n<=9223372036854775807):MO n=true:=by simp[MO,h0,h1]
theorem jX {n:Int} (h:n < -9223372036854775808\/9223372036854775807<n):MO n=false:=by
 simp only[MO,decide_eq_false_iff_not];omega
theorem fU {n:Int} (h0: -9223372036854775808<=n) (h1:n<=9223372036854775807):PY n=n:=by simp[PY,gM h0 h1]
theorem kW {n:Int} (h:n < -9223372036854775808\/9223372036854775807<n):PY n=0:=by simp[PY,jX h]
def sgn (neg:Bool) (m:Nat):Int:=if neg then -(m:Int) else m
theorem FV (m:Nat):sgn false m=m:=rfl
theorem mD (m:Nat):sgn true m= -(m:Int):=rfl
theorem vH (m:Nat) (neg:Bool) (w:World) (h1:m<=18446744073709551615) :
  Calls Tryz.prog 123 #[.int .u64 m,.bool neg] w fun e w'=>e=.returned (.tuple #[.int .i64 (PY (sgn neg m)),.bool (MO (sgn neg m))])/\w=w':=by
 cases neg
 focus
  rw[FV];by_cases h:m<=9223372036854775807
  ·rw[fU (by omega) (by omega),gM (by omega) (by omega)]
   go_enter Tryz.func123,Tryz.ntmps123
   go_wp2;go_ret2;exact⟨rfl,rfl⟩
 rotate_left
 focus
  rw[mD];by_cases h:m<=9223372036854775808
  ·rw[fU (by omega) (by omega),gM (by omega) (by omega)]
   go_enter Tryz.func123,Tryz.ntmps123
   go_wp2;go_ret2;refine⟨oH ?_ rfl,rfl⟩;simp only[IntKind.wrap_u64,wrap64];omega
 rotate_left
 all_goals
  ·rw[kW (by omega),jX (by omega)]
   go_enter Tryz.func123,Tryz.ntmps123
   go_wp2;go_ret2;exact⟨rfl,rfl⟩
theorem uD (a b:Int) (a0: -9223372036854775808<=a) (a1:a<=9223372036854775807) (b0: -9223372036854775808<=b) (b1:b<=9223372036854775807) :
  wrap64 (a+b)=(if a+b < -9223372036854775808 then a+b+18446744073709551616 else if 9223372036854775807<a+b then a+b-18446744073709551616 else a+b):=by
 unfold wrap64;split
 ·omega
 ·split<;>omega
theorem fadd (a b:Int) (w:World) (a0: -9223372036854775808<=a) (a1:a<=9223372036854775807) (b0: -9223372036854775808<=b) (b1:b<=9223372036854775807) :
  Calls Tryz.prog 166 #[.int .i64 a,.int .i64 b] w fun e w'=>e=.returned (.tuple #[.int .i64 (PY (a+b)),.bool (MO (a+b))])/\w=w':=by
 by_cases hlo:a+b < -9223372036854775808
 ·rw[kW (by omega),jX (by omega)]
  have d1:decide (a<0)=true:=by simp;omega
  have d2:decide (b<0)=true:=by simp;omega
  have d3:decide (wrap64 (a+b)<0)=false:=by rw[uD a b a0 a1 b0 b1];simp[hlo];omega
  clear hlo;go_enter Tryz.func166,Tryz.ntmps166
  go_wp2;go_ret2;exact⟨rfl,rfl⟩
 ·by_cases hhi:9223372036854775807<a+b
  ·rw[kW (by omega),jX (by omega)]
   have d1:decide (a<0)=false:=by simp;omega
   have d2:decide (b<0)=false:=by simp;omega
   have d3:decide (wrap64 (a+b)<0)=true:=by rw[uD a b a0 a1 b0 b1];simp[hlo,hhi];omega
   clear hlo hhi;go_enter Tryz.func166,Tryz.ntmps166
   go_wp2;go_ret2;exact⟨rfl,rfl⟩
  ·rw[fU (by omega) (by omega),gM (by omega) (by omega)]
   have hl1: -9223372036854775808<=a+b:=by omega
   have hl2:a+b<=9223372036854775807:=by omega
   by_cases h1:a<0<;>by_cases h2:b<0<;>by_cases h3:a+b<0
   all_goals first|(exfalso;omega)|skip
   all_goals
    have d1:decide (a<0)=decide (a<0):=rfl;clear d1;go_enter Tryz.func166,Tryz.ntmps166
    go_wp2;go_ret2;exact⟨rfl,rfl⟩
theorem mul64 (x y:Nat) (hx:x<18446744073709551616) (hy:y<18446744073709551616) (w:World) :
  Calls Tryz.prog 120 #[.int .u64 x,.int .u64 y] w fun e w'=>∃ hi lo:Nat,e=.returned (.tuple #[.int .u64 hi,.int .u64 lo])/\w=w'/\Hid (x*y=hi*18446744073709551616+lo)/\lo<=18446744073709551615:=by
 refine (Tryz.bits_Mul64 x y hx hy w).mono ?_;rintro e w' ⟨rfl,rfl⟩;exact⟨_,_,rfl,rfl,Lib.hid (by omega),by omega⟩
theorem tK {a b:Int} {lo:Nat} (h:a.natAbs*b.natAbs=lo):a*b=sgn (!(decide (a<0) == decide (b<0))) lo:=by
 have h':(a.natAbs:Int)*(b.natAbs:Int)=(lo:Int):=by rw[<-h];simp
 by_cases h1:a<0<;>by_cases h2:b<0<;>simp only[h1,h2,decide_true,decide_false,beq_self_eq_true,Bool.not_true,sgn,Bool.false_eq_true,if_false]
 ·rw[show (a.natAbs:Int)= -a by omega,show (b.natAbs:Int)= -b by omega,Int.neg_mul_neg] at h';exact h'
 ·rw[show (a.natAbs:Int)= -a by omega,show (b.natAbs:Int)=b by omega,Int.neg_mul] at h';simp;omega
 ·rw[show (a.natAbs:Int)=a by omega,show (b.natAbs:Int)= -b by omega,Int.mul_neg] at h';simp;omega
 ·rw[show (a.natAbs:Int)=a by omega,show (b.natAbs:Int)=b by omega] at h';exact h'
theorem mul_far {a b:Int} {hi lo:Nat} (h:a.natAbs*b.natAbs=hi*18446744073709551616+lo) (h0:0<hi):a*b < -9223372036854775808\/9223372036854775807<a*b:=by
 have:=tK h;rw[this];unfold sgn;split<;>omega
theorem fmul (a b:Int) (w:World) (a0: -9223372036854775808<=a) (a1:a<=9223372036854775807) (b0: -9223372036854775808<=b) (b1:b<=9223372036854775807) :
  Calls Tryz.prog 177 #[.int .i64 a,.int .i64 b] w fun e w'=>e=.returned (.tuple #[.int .i64 (PY (a*b)),.bool (MO (a*b))])/\w=w':=by
 have hx:a.natAbs<=9223372036854775808:=by omega
 have hy:b.natAbs<=9223372036854775808:=by omega
 obtain⟨p,hp⟩:∃ p,p=a*b:=⟨_,rfl⟩;rw[<-hp];have HP:=Lib.hid hp;clear hp;go_enter Tryz.func177,Tryz.ntmps177
 go_wp2_with fail
 refine (EK a w a0 a1).mono ?_;rintro e w' ⟨rfl,rfl⟩;go_wp2_with fail
 refine (EK b w b0 b1).mono ?_;rintro e w' ⟨rfl,rfl⟩;go_wp2_with fail
 refine (mul64 a.natAbs b.natAbs (by omega) (by omega) w).mono ?_;rintro e w' ⟨hi,lo,rfl,rfl,HM,hlo⟩;by_cases hh:0<hi
 ·have hf:=mul_far HM.out hh
  rw[<-HP.out] at hf;have hq:((hi:Int) == 0)=false:=by simp;omega
  have hq':((hi:Int) != 0)=true:=by simp;omega
  have HF:=Lib.hid hf;clear hf;go_wp2_with fail
  go_ret2;exact⟨oH (kW HF.out).symm (jX HF.out).symm,rfl⟩
 ·obtain rfl:hi=0:=by omega
  have hs:=tK (a:=a) (b:=b) (lo:=lo) (by have:=HM.out;omega);rw[<-HP.out] at hs;have HS:=Lib.hid hs;clear hs;go_wp2_with fail
  refine (vH lo _ w hlo).mono ?_;rintro e w' ⟨rfl,rfl⟩;go_wp2_with fail
  go_ret2;exact⟨oH (by rw[HS.out]) (by rw[HS.out]),rfl⟩
theorem Calls.drawn {P:Program} {f:FuncId} {args:Array Value} {w:World} {v:Value} (h:Calls P f args w fun e w'=>e=.returned v/\w=w'):Calls P f args w fun e w'=>e=.returned v/\∃ n,w'=w.drewN n:=
 h.mono fun _ _ ⟨he,hw⟩=>⟨he,0,by rw[<-hw,World.drewN_zero]⟩
theorem QG (a b:Int) (w:World) (a0: -9223372036854775808<=a) (a1:a<=9223372036854775807) (b0:0<b) (b1:b<=9223372036854775807) :
  Calls Tryz.prog 79 #[.int .i64 a,.int .i64 b] w fun e w'=>e=.returned (.tuple #[.int .i64 (a.tdiv b),.int .i64 (a.tmod b),.bool true])/\∃ n,w'=w.drewN n:=by
 have hb0:(b == 0)=false:=by simp;omega
 have hb1:(b == -1)=false:=by simp;omega
 have hb2:¬ b=0:=by omega
 have hb3:¬ b= -1:=by omega
 by_cases ha:a= -9223372036854775808
 focus
  have ha1:(a == -9223372036854775808)=true:=by simp[ha]
  clear ha
 rotate_left
 focus
  have ha1:(a == -9223372036854775808)=false:=by simp[ha]
 rotate_left
 all_goals
  go_enter Tryz.func79,Tryz.ntmps79
  go_wp2_with fail
  go_quiet (fail)
  go_wp2;go_ret3
  exact⟨rfl,_,rfl⟩
theorem ediv_bd (a b:Int) (a0: -9223372036854775808<=a) (a1:a<=9223372036854775807) (b0:0<b): -9223372036854775808<=a / b/\a / b<=9223372036854775807/\(a<0->a / b<0):=by
 refine⟨(Int.le_ediv_iff_mul_le b0).2 (by omega),?_,fun h=>?_⟩
 ·have:a / b<9223372036854775808:=(Int.ediv_lt_iff_lt_mul b0).2 (by omega)
  omega
 ·exact (Int.ediv_lt_iff_lt_mul b0).2 (by omega)
theorem DR (a b:Int) (b0:0<b):a.tdiv b=(if a.tmod b<0 then a / b+1 else a / b)/\(a.tmod b<0->a<0):=by
 have h1:=Int.tmod_add_mul_tdiv a b;have h5:a.tmod b<b:=Int.tmod_lt_of_pos a b0;have h6: -b<a.tmod b:=by have:=Int.lt_tmod_of_pos a b0;omega
 have h7:a.tmod b<0->a<0:=fun h=>by
  rcases Int.lt_or_le a 0 with h'|h'
  ·exact h'
  ·have:=Int.tmod_nonneg b h';omega
 refine⟨?_,h7⟩;clear h7;generalize a.tdiv b=q at h1 |-;generalize a.tmod b=r at h1 h5 h6 |-;split
 ·have:a / b=q-1:=by
   have e1:a=(r+b)+b*(q-1):=by rw[Int.mul_sub,Int.mul_one];omega
   rw[e1,Int.add_mul_ediv_left _ _ (Int.ne_of_gt b0),Int.ediv_eq_zero_of_lt (by omega) (by omega)];omega
  omega
 ·have:a / b=q:=by
   rw[<-h1,Int.add_mul_ediv_left _ _ (Int.ne_of_gt b0),Int.ediv_eq_zero_of_lt (by omega) (by omega)];omega
  omega
theorem MR (a b:Int) (w:World) (a0: -9223372036854775808<=a) (a1:a<=9223372036854775807) (b0:0<b) (b1:b<=9223372036854775807) :
  Calls Tryz.prog 76 #[.int .i64 a,.int .i64 b] w fun e w'=>e=.returned (.tuple #[.int .i64 (a / b),.bool true])/\∃ n,w'=w.drewN n:=by
 obtain⟨hfl,hneg⟩:=DR a b b0;obtain⟨e0,e1,e2⟩:=ediv_bd a b a0 a1 b0;have hb:=QG a b w a0 a1 b0 b1;generalize a.tdiv b=q at hfl hb;generalize a.tmod b=r at hfl hneg hb;generalize a / b=f at hfl e0 e1 e2 |-;have HB:=Lib.hid hb;clear hb;have hb2:decide (b<0)=false:=by simp;omega
 by_cases hr0:r<0
 ·have hr1:(r == 0)=false:=by simp;omega
  have hr2:(r != 0)=true:=by simp;omega
  have hr3:decide (r<0)=true:=by simp[hr0]
  rw[if_pos hr0] at hfl;subst hfl;have ha:=e2 (hneg hr0);clear hr0 hneg e2;go_enter Tryz.func76,Tryz.ntmps76
  go_wp2_with fail
  refine HB.out.mono ?_;rintro e w' ⟨rfl,n,rfl⟩;go_wp2_with fail
  go_ret2;exact⟨oH (by omega) rfl,_,rfl⟩
 ·rw[if_neg hr0] at hfl
  subst hfl;have hr3:decide (r<0)=false:=by simpa using hr0
  clear hr0 hneg e2;by_cases hz:r=0
  focus
   subst hz
  rotate_left
  focus
   have hr1:(r == 0)=false:=by simp[hz]
   have hr2:(r != 0)=true:=by simp[hz]
  rotate_left
  all_goals
   go_enter Tryz.func76,Tryz.ntmps76
   go_wp2_with fail
   refine HB.out.mono ?_;rintro e w' ⟨rfl,n,rfl⟩;go_wp2_with fail
   go_ret2;exact⟨rfl,_,rfl⟩
end
section
open Go.RowKit
theorem MC {a b:Nat} (i:Nat) (ha:a<18446744073709551616) (hb:b<18446744073709551616) (x:Nat) (hx:a=2 ^ i*x) (hlt:b<2 ^ i):bits BinOp.or IntKind.u64 (a:Int) (b:Int)=((a+b:Nat):Int):=by
 rw[bits_or_u64_nat a b ha hb,hx,<-Nat.two_pow_add_eq_or_of_lt hlt x]
theorem KL (B N P q c r q' R th Z Y d:Nat) (sum:(q*c+r)*B+Y=N*P) (hq:q'=2*q+d) (hR:R+d*c=2*r+th) (hZ:th*B+Z=2*Y):(q'*c+R)*B+Z=N*(P*2):=by
 have e1:q'*c+R=2*(q*c+r)+th:=by
  rw[hq,Nat.add_mul,Nat.mul_assoc];generalize q*c=X at *;generalize d*c=V at *;omega
 rw[e1,Nat.add_mul,Nat.mul_assoc,<-Nat.mul_assoc N P 2,<-sum];generalize (q*c+r)*B=U;generalize th*B=V at *;omega
theorem LJ (W dh tl dl th h l:Nat) (eh:2*h=th*W+dh) (el:2*l=tl*W+dl):th*(W*W)+((dh+tl)*W+dl)=2*(h*W+l):=by
 rw[<-Nat.mul_assoc,Nat.mul_add,<-Nat.mul_assoc,eh,el,Nat.add_mul,Nat.add_mul];generalize th*W*W=U;generalize dh*W=V;omega
theorem DY (dh tl dl th h l:Nat) (eh:2*h=th*18446744073709551616+dh) (el:2*l=tl*18446744073709551616+dl):th*340282366920938463463374607431768211456+((dh+tl)*18446744073709551616+dl)=2*(h*18446744073709551616+l):=
 LJ 18446744073709551616 dh tl dl th h l eh el
structure mX (N c k h l q1 q0 r:Nat):Prop where
 sum:((q1*18446744073709551616+q0)*c+r)*340282366920938463463374607431768211456+(h*18446744073709551616+l)=N*2 ^ k
 lt:r<c
 h0:h<18446744073709551616
 l0:l<18446744073709551616
 q0b:q0<18446744073709551616
theorem mX.take {N c k h l q1 q0 r dh th dl tl dq1 dq0 tq dr tr:Nat} (i:mX N c k h l q1 q0 r)
  (eh:2*h=th*18446744073709551616+dh) (el:2*l=tl*18446744073709551616+dl) (eq1:2*q1=dq1) (eq0:2*q0=tq*18446744073709551616+dq0) (er:2*r=tr*18446744073709551616+dr)
  (bh:dh<18446744073709551616) (ph:dh % 2=0) (pq:dq0 % 2=0) (bl:dl<18446744073709551616) (bq:dq0<18446744073709551616) (t1:th<=1) (t2:tl<=1) (R:Nat) (hR:R+c=tr*18446744073709551616+(dr+th)) :
  mX N c (k+1) (dh+tl) (dl) (dq1+tq) (dq0+1) R:=by
 have h2:=i.lt;refine⟨?_,by omega,by omega,by omega,by omega⟩;exact KL _ _ _ _ _ _ _ _ th _ _ 1 i.sum (by omega) (by omega) (DY dh tl dl th h l eh el)
theorem mX.skip {N c k h l q1 q0 r dh th dl tl dq1 dq0 tq dr:Nat} (i:mX N c k h l q1 q0 r)
  (eh:2*h=th*18446744073709551616+dh) (el:2*l=tl*18446744073709551616+dl) (eq1:2*q1=dq1) (eq0:2*q0=tq*18446744073709551616+dq0) (er:2*r=dr)
  (bh:dh<18446744073709551616) (ph:dh % 2=0) (bl:dl<18446744073709551616) (bq:dq0<18446744073709551616) (t2:tl<=1) (hR:dr+th<c) :
  mX N c (k+1) (dh+tl) (dl) (dq1+tq) (dq0) (dr+th):=by
 refine⟨?_,by omega,by omega,by omega,by omega⟩;exact KL _ _ _ _ _ _ _ _ th _ _ 0 i.sum (by omega) (by omega) (DY dh tl dl th h l eh el)
theorem mX.start (hi lo c:Nat) (hc:0<c) (h1:hi<18446744073709551616) (h2:lo<18446744073709551616):mX (hi*18446744073709551616+lo) c 0 hi lo 0 0 0:=
 ⟨by simp,hc,h1,h2,by omega⟩
theorem mX.done {N c h l q1 q0 r:Nat} (i:mX N c 128 h l q1 q0 r):(q1*18446744073709551616+q0)*c+r=N/\r<c:=by
 have h1:=i.sum;have h2:=i.h0;have h3:=i.l0;have h4:(2:Nat) ^ 128=340282366920938463463374607431768211456:=by decide
 rw[h4] at h1;refine⟨?_,i.lt⟩;generalize (q1*18446744073709551616+q0)*c=X at h1 |-;omega
end
section
open Go.RowKit
theorem xB (x:Nat) (h:x<18446744073709551616):∃ a1 a0:Nat,a1<4294967296/\a0<4294967296/\x=a1*4294967296+a0/\(x:Int) / 4294967296=a1/\(x:Int) % 4294967296=a0:=
 ⟨x / 4294967296,x % 4294967296,by omega,by omega,by omega,by omega,by omega⟩
theorem ZB {Q c r N:Nat} (h:Q*c+r=N) (hr:r<c):(N:Int) / (c:Int)=Q:=by
 have e:(N:Int)=r+c*Q:=by rw[<-h,Int.natCast_add,Int.natCast_mul,Int.mul_comm];omega
 rw[e,Int.add_mul_ediv_left _ _ (by omega),Int.ediv_eq_zero_of_lt (by omega) (by omega)];omega
theorem TJ {Q c N:Nat} (h:Q*c+0=N) (hr:0<c): -(N:Int) / (c:Int)= -(Q:Int):=by
 have e: -(N:Int)=0+c*(-(Q:Int)):=by rw[<-h,Int.natCast_add,Int.natCast_mul,Int.mul_comm,Int.mul_neg];omega
 rw[e,Int.add_mul_ediv_left _ _ (by omega),Int.ediv_eq_zero_of_lt (by omega) (by omega)];omega
theorem TI {Q c r N:Nat} (h:Q*c+r=N) (hr:r<c) (h0:0<r): -(N:Int) / (c:Int)= -((Q+1:Nat):Int):=by
 have e: -(N:Int)=(c-r)+c*(-((Q+1:Nat):Int)):=by rw[<-h,Int.natCast_add,Int.natCast_mul,Int.natCast_add,Int.mul_neg,Int.mul_add,Int.mul_comm (c:Int)];simp;omega
 rw[e,Int.add_mul_ediv_left _ _ (by omega),Int.ediv_eq_zero_of_lt (by omega) (by omega)];omega
theorem sgn_div {a b c:Int} {C Q r N:Nat} (hc:c=C) (hN:a.natAbs*b.natAbs=N) (h:Q*C+r=N) (hr:r<C) :
  (a*b) / c=if (!(decide (a<0) == decide (b<0)))=true/\0<r then sgn true (Q+1) else sgn (!(decide (a<0) == decide (b<0))) Q:=by
 rw[tK hN,hc]
 cases hs: !(decide (a<0) == decide (b<0))
 ·simp[sgn,ZB h hr]
 ·by_cases h0:0<r
  ·rw[if_pos ⟨rfl,h0⟩,mD,mD,TI h hr h0]
  ·obtain rfl:r=0:=by omega
   rw[if_neg (by omega),mD,mD,TJ h (by omega)]
theorem Z8 {a b:Nat} (ha:a<=9223372036854775808) (hb:b<=9223372036854775808):a*b<=85070591730234615865843651857942052864:=Nat.mul_le_mul ha hb
end
section
open Go.RowKit
theorem dg_lo {u d yn1 yn0 Y:Nat} (hY:Y=yn1*4294967296+yn0) (hd:d<4294967296) (h1:0<yn1):(u*4294967296+d) / Y<=u / yn1:=by
 have hY0:0<Y:=by omega
 rw[Nat.le_div_iff_mul_le h1];have hq:=Nat.div_mul_le_self (u*4294967296+d) Y;generalize (u*4294967296+d) / Y=q at hq |-;have e:q*Y=(q*yn1)*4294967296+q*yn0:=by rw[hY,Nat.mul_add,Nat.mul_assoc]
 have h0:=Nat.zero_le (q*yn0);generalize q*yn1=a at *;generalize q*yn0=b at *;omega
structure Dg (u d yn1 yn0 q r:Nat):Prop where
 sum:q*yn1+r=u
 ge:(u*4294967296+d) / (yn1*4294967296+yn0)<=q
theorem ZG {u d yn1 yn0:Nat} (hd:d<4294967296) (h1:0<yn1):Dg u d yn1 yn0 (u / yn1) (u % yn1):=
 ⟨by rw[Nat.mul_comm];exact Nat.div_add_mod u yn1,dg_lo rfl hd h1⟩
theorem ZI {u d yn1 yn0 q r:Nat} (h:Dg u d yn1 yn0 q r) (hu:u<yn1*4294967296+yn0) (hd:d<4294967296) (hq:4294967296<=q):Dg u d yn1 yn0 (q-1) (r+yn1):=by
 obtain⟨h1,h2⟩:=h;refine⟨?_,?_⟩
 ·have:q*yn1=(q-1)*yn1+yn1:=by rw[<-Nat.succ_mul];congr 1;omega
  omega
 ·have:(u*4294967296+d) / (yn1*4294967296+yn0)<4294967296:=by
   rw[Nat.div_lt_iff_lt_mul (by omega)];have:=Nat.mul_le_mul_right 4294967296 (Nat.succ_le_of_lt hu);rw[Nat.succ_mul] at this;rw[Nat.mul_comm 4294967296 (_+_)];omega
  omega
theorem QJ {u d yn1 yn0 q r:Nat} (h:Dg u d yn1 yn0 q r):q*(yn1*4294967296+yn0)+4294967296*r=u*4294967296+q*yn0:=by
 obtain⟨h1,h2⟩:=h;rw[Nat.mul_add,<-Nat.mul_assoc,<-h1,Nat.add_mul];omega
theorem QK {u d yn1 yn0 q r:Nat} (h:Dg u d yn1 yn0 q r) (h0:0<yn1) (hq:4294967296*r+d<q*yn0):Dg u d yn1 yn0 (q-1) (r+yn1):=by
 have ht:=QJ h;obtain⟨h1,h2⟩:=h
 have hq0:0<q:=by
  rcases Nat.eq_zero_or_pos q with rfl|h
  ·omega
  ·exact h
 refine⟨?_,?_⟩
 ·have:q*yn1=(q-1)*yn1+yn1:=by rw[<-Nat.succ_mul];congr 1;omega
  omega
 ·have:(u*4294967296+d) / (yn1*4294967296+yn0)<q:=by
   rw[Nat.div_lt_iff_lt_mul (by omega)];omega
  omega
theorem GZ {u d yn1 yn0 q r:Nat} (h:Dg u d yn1 yn0 q r) (h0:0<yn1) (hq:q*yn0<=4294967296*r+d):q=(u*4294967296+d) / (yn1*4294967296+yn0):=by
 have ht:=QJ h;refine Nat.le_antisymm ?_ h.ge;rw[Nat.le_div_iff_mul_le (by omega)];omega
theorem zK {u d yn1 yn0 q r:Nat} (h:Dg u d yn1 yn0 q r) (h0:0<yn1) (hu:u<yn1*4294967296+yn0) (hn0:yn0<4294967296) (hr:4294967296<=r):q<4294967296/\q=(u*4294967296+d) / (yn1*4294967296+yn0):=by
 have hq:q<4294967296:=by
  have h1:=h.sum;refine Nat.lt_of_not_le fun hge=>?_;have:=Nat.mul_le_mul_right yn1 hge;omega
 refine⟨hq,GZ h h0 ?_⟩;have h1:q*yn0<=4294967295*4294967295:=Nat.mul_le_mul (by omega) (by omega);omega
theorem ZH {u yn1 yn0:Nat} (hu:u<yn1*4294967296+yn0) (hn0:yn0<4294967296) (h1:2147483648<=yn1):u / yn1<=4294967298:=by
 have:u / yn1<4294967299:=by
  rw[Nat.div_lt_iff_lt_mul (by omega)];omega
 omega
theorem NA:Lib.bitLen 1=1:=by decide
theorem NC (x:Nat) (h0:x≠0) (h:x<2 ^ 64):∃ k,Lib.bitLen x=k+1/\2 ^ k<=x/\x<2 ^ (k+1):=by
 refine⟨Nat.log2 x,?_,Nat.log2_self_le h0,Nat.lt_log2_self⟩;rw[Lib.bitLen_shift (Nat.log2 x) x (Nat.log2_self_le h0) h]
 have h1:x / 2 ^ Nat.log2 x=1:=by
  have hp:0<2 ^ Nat.log2 x:=Nat.two_pow_pos _;refine Nat.le_antisymm ?_ ((Nat.le_div_iff_mul_le hp).2 (by rw[Nat.one_mul];exact Nat.log2_self_le h0));have:x / 2 ^ Nat.log2 x<2:=(Nat.div_lt_iff_lt_mul hp).2 (by have:=@Nat.lt_log2_self x;rw[Nat.pow_succ] at this;omega);omega
 rw[h1,NA]
theorem norm (y:Nat) (h0:0<y) (h:y<18446744073709551616):∃ s:Nat,s<64/\(64-(Lib.bitLen y:Int))=s/\9223372036854775808<=y*2 ^ s/\y*2 ^ s<18446744073709551616:=by
 obtain⟨k,h1,h2,h3⟩:=NC y (by omega) (by omega)
 have hk:k<64:=by
  refine Nat.lt_of_not_le fun hge=>?_;have:=Nat.pow_le_pow_right (n:=2) (by omega) hge;omega
 refine⟨63-k,by omega,by rw[h1];omega,?_,?_⟩
 ·have:=Nat.mul_le_mul_right (2 ^ (63-k)) h2
  rw[<-Nat.pow_add,show k+(63-k)=63 by omega] at this;exact this
 ·have:=Nat.mul_lt_mul_of_pos_right h3 (Nat.two_pow_pos (63-k))
  rw[<-Nat.pow_add,show k+1+(63-k)=64 by omega] at this;exact this
end
end Go.Proofs.YthbgcpfklmlnjaaGreat
