/- Texts of one chain: M2, N1, N2, M3. Conditions: those named in each theorem. -/
import Derived.Test.YthbgcpfklmlnjaaGreatFV2
namespace Go.Proofs.YthbgcpfklmlnjaaGreat
open IntKind (wrap_u64)
open Go.Lib (hid)
set_option maxRecDepth 100000
set_option maxHeartbeats 2000000
section
open Go.RowKit
theorem RJ (s lo:Nat) (hs:s<=64):lo*2 ^ s=(lo / 2 ^ (64-s))*18446744073709551616+(lo % 2 ^ (64-s))*2 ^ s:=by
 have e:18446744073709551616=2 ^ (64-s)*2 ^ s:=by rw[<-Nat.pow_add,show 64-s+s=64 by omega]
 rw[e,<-Nat.mul_assoc,<-Nat.add_mul,Nat.mul_comm (lo / _),Nat.div_add_mod]
theorem MG (hi lo y s:Nat) (hs:s<64) (hY:y*2 ^ s<18446744073709551616) (hhi:hi<y) (hlo:lo<18446744073709551616) :
  ∃ H L v:Nat,v<18446744073709551616/\IntKind.u64.wrap ((y:Int)*2 ^ s)=((y*2 ^ s:Nat):Int)/\IntKind.u64.wrap ((hi:Int)*2 ^ s)=(H:Int)/\(lo:Int) / 2 ^ (64-s)=(L:Int)/\bits BinOp.or IntKind.u64 (H:Int) (L:Int)=((H+L:Nat):Int) /\
   IntKind.u64.wrap ((lo:Int)*2 ^ s)=(v:Int)/\(hi*18446744073709551616+lo)*2 ^ s=(H+L)*18446744073709551616+v/\H+L<y*2 ^ s:=by
 have hp:0<2 ^ s:=Nat.two_pow_pos s;have hp2:0<2 ^ (64-s):=Nat.two_pow_pos _;have e:=RJ s lo (by omega)
 have hm:lo % 2 ^ (64-s)*2 ^ s<18446744073709551616:=by
  have h1:=Nat.mul_lt_mul_of_pos_right (Nat.mod_lt lo hp2) hp;rw[<-Nat.pow_add,show 64-s+s=64 by omega] at h1;exact h1
 have hL:lo / 2 ^ (64-s)<2 ^ s:=by
  rw[Nat.div_lt_iff_lt_mul hp2,<-Nat.pow_add,show s+(64-s)=64 by omega];exact hlo
 have hH:hi*2 ^ s+2 ^ s<=y*2 ^ s:=by
  rw[<-Nat.succ_mul];exact Nat.mul_le_mul_right _ hhi
 have c1:((hi:Int)*2 ^ s)=((hi*2 ^ s:Nat):Int):=by simp
 have c2:((lo:Int)*2 ^ s)=((lo*2 ^ s:Nat):Int):=by simp
 have c3:((y:Int)*2 ^ s)=((y*2 ^ s:Nat):Int):=by simp
 refine⟨hi*2 ^ s,lo / 2 ^ (64-s),lo % 2 ^ (64-s)*2 ^ s,hm,?_,?_,by simp,?_,?_,?_,by omega⟩
 ·rw[c3,wrap_u64];omega
 ·rw[c1,wrap_u64];omega
 ·exact MC s (by omega) (by omega) hi (by rw[Nat.mul_comm]) hL
 ·rw[c2,e,wrap_u64]
  generalize lo / 2 ^ (64-s)=a;generalize lo % 2 ^ (64-s)*2 ^ s=b at hm;omega
 ·rw[Nat.add_mul,e,Nat.add_mul,Nat.mul_right_comm];omega
theorem Q5 (x:Nat) (h:x<18446744073709551616) (r:Nat) (hr:(x:Int) % 4294967296=r):bits BinOp.and IntKind.u64 (x:Int) 4294967295=(r:Int):=by
 have h1:=bits_and_u64_nat x 4294967295 h (by omega);rw[show (x &&& 4294967295)=x % 2 ^ 32 from Nat.and_two_pow_sub_one_eq_mod x 32] at h1;refine h1.trans ?_;rw[<-hr];rfl
theorem xA (n:Nat) (h:n<18446744073709551616):IntKind.u64.wrap (n:Int)=(n:Int):=by
 rw[wrap_u64];omega
theorem wT {u d a1 a0 Y q:Nat} (h:q=(u*4294967296+d) / (a1*4294967296+a0)) (hY:Y=a1*4294967296+a0) (hu:u<Y) (hd:d<4294967296):q<4294967296/\∃ r,u*4294967296+d=q*Y+r/\r<Y:=by
 rw[<-hY] at h;have hY0:0<Y:=by omega
 refine⟨?_,(u*4294967296+d) % Y,?_,Nat.mod_lt _ hY0⟩
 ·rw[h,Nat.div_lt_iff_lt_mul hY0,Nat.mul_comm 4294967296]
  have:=Nat.mul_le_mul_right 4294967296 (Nat.succ_le_of_lt hu);rw[Nat.succ_mul] at this;omega
 ·rw[h,Nat.mul_comm _ Y,Nat.div_add_mod]
theorem nA {u d q Y r:Nat} (h:u*4294967296+d=q*Y+r) (hr:r<18446744073709551616):∃ x1 x2 x3:Nat,x1<18446744073709551616/\x2<18446744073709551616/\x3<18446744073709551616 /\
  IntKind.u64.wrap ((u:Int)*4294967296)=(x1:Int)/\IntKind.u64.wrap ((x1:Int)+(d:Int))=(x2:Int)/\IntKind.u64.wrap ((q:Int)*(Y:Int))=(x3:Int)/\IntKind.u64.wrap ((x2:Int)-(x3:Int))=(r:Int):=by
 have e:(q:Int)*(Y:Int)=((q*Y:Nat):Int):=by simp
 rw[e];generalize q*Y=p at h |-;refine⟨u*4294967296 % 18446744073709551616,(u*4294967296+d) % 18446744073709551616,p % 18446744073709551616,by omega,by omega,by omega,?_,?_,?_,?_⟩<;>rw[wrap_u64]<;>omega
theorem qZ {u d a1 a0 Y:Nat} (hY:Y=a1*4294967296+a0) (hu:u<Y) (hYb:Y<18446744073709551616) (hd:d<4294967296) (ha0:a0<4294967296) (h1:2147483648<=a1):∃ t0 t1 t2:Nat,t0<=4294967298/\t1<4294967296/\t2<18446744073709551616 /\
  (u:Int) / (a1:Int)=(t0:Int)/\IntKind.u64.wrap ((t0:Int)*(a1:Int))=(t2:Int)/\IntKind.u64.wrap ((u:Int)-(t2:Int))=(t1:Int)/\Dg u d a1 a0 t0 t1:=by
 have h2:=Nat.div_add_mod u a1;rw[Nat.mul_comm] at h2;have h3:=Nat.mod_lt u (show 0<a1 by omega);have e:((u / a1:Nat):Int)*(a1:Int)=((u / a1*a1:Nat):Int):=by simp
 have hb:=Nat.div_le_self u a1;refine⟨u / a1,u % a1,u / a1*a1,ZH (by omega) ha0 h1,by omega,by omega,by simp,?_,?_,ZG hd (by omega)⟩
 ·rw[e];exact xA _ (by omega)
 ·generalize u / a1*a1=p at h2 |-
  rw[wrap_u64];omega
theorem Y7 {B u d1 d0 q1 q0 Y r1 r0:Nat} (h1:u*B+d1=q1*Y+r1) (h0:r1*B+d0=q0*Y+r0):u*(B*B)+(d1*B+d0)=(q1*B+q0)*Y+r0:=by
 calc u*(B*B)+(d1*B+d0)=(u*B+d1)*B+d0:=by rw[Nat.add_mul,Nat.mul_assoc,Nat.add_assoc]
  _=q1*Y*B+(r1*B+d0):=by rw[h1,Nat.add_mul,Nat.add_assoc]
  _=(q1*B+q0)*Y+r0:=by rw[h0,Nat.add_mul,Nat.mul_right_comm,Nat.add_assoc]
theorem wP {N y s Y u v d1 d0 q1 q0 r1 r0:Nat} (hU:N*2 ^ s=u*18446744073709551616+v) (hv:v=d1*4294967296+d0) (hY:y*2 ^ s=Y) (h1:u*4294967296+d1=q1*Y+r1) (h0:r1*4294967296+d0=q0*Y+r0) (hr0:r0<Y) :
  q1*4294967296+q0=N / y/\r0 / 2 ^ s=N % y:=by
 have hp:0<2 ^ s:=Nat.two_pow_pos s
 have hs:N*2 ^ s=(q1*4294967296+q0)*Y+r0:=by
  rw[hU,hv];exact Y7 h1 h0
 generalize q1*4294967296+q0=QQ at hs |-
 have hq:QQ=N*2 ^ s / Y:=by
  rw[hs,Nat.add_comm,Nat.add_mul_div_right _ _ (by omega),Nat.div_eq_of_lt hr0,Nat.zero_add]
 have hr:r0=N*2 ^ s % Y:=by
  rw[hs,Nat.add_comm,Nat.add_mul_mod_self_right,Nat.mod_eq_of_lt hr0]
 rw[<-hY,Nat.mul_div_mul_right _ _ hp] at hq;rw[<-hY,Nat.mul_mod_mul_right] at hr;exact⟨hq,by rw[hr,Nat.mul_div_cancel _ hp]⟩
theorem rE {q1 q0 Q R:Nat} (h:q1*4294967296+q0=Q) (h1:q1<4294967296) (h0:q0<4294967296):Ending.returned (.tuple #[.int .u64 (IntKind.u64.wrap (IntKind.u64.wrap ((q1:Int)*4294967296)+(q0:Int))),.int .u64 (R:Int)])=.returned (.tuple #[.int .u64 (Q:Int),.int .u64 (R:Int)]):=by
 have:IntKind.u64.wrap (IntKind.u64.wrap ((q1:Int)*4294967296)+(q0:Int))=(Q:Int):=by
  rw[wrap_u64,wrap_u64];omega
 rw[this]
theorem div64 (hi lo y:Nat) (hhi:hi<y) (hlo:lo<18446744073709551616) (hy:y<18446744073709551616) (w:World) :
  Calls Tryz.prog 122 #[.int .u64 hi,.int .u64 lo,.int .u64 y] w fun e w'=>e=.returned (.tuple #[.int .u64 (((hi*18446744073709551616+lo) / y:Nat):Int),.int .u64 (((hi*18446744073709551616+lo) % y:Nat):Int)])/\∃ n,w'=w.drewN n:=by
 obtain⟨N,hN⟩:∃ N,N=hi*18446744073709551616+lo:=⟨_,rfl⟩;rw[<-hN];have y0:((y:Int) == 0)=false:=by rw[beq_eq_false_iff_ne];omega
 have HN:=hid hN;clear hN;by_cases hz:hi=0
 ·subst hz
  obtain rfl:N=lo:=by have:=HN.out;omega
  have c1:((N / y:Nat):Int)=(N:Int) / (y:Int):=by simp
  have c2:((N % y:Nat):Int)=(N:Int) % (y:Int):=by simp
  have w1:=xA (N / y) (Nat.lt_of_le_of_lt (Nat.div_le_self _ _) (by omega));rw[c1] at w1;rw[c1,c2];have y1:¬ (y:Int)=0:=by omega
  have y2:¬ (y:Int)<=0:=by omega
  have y3:decide ((y:Int)<=0)=false:=by simp;omega
  have HYP:=hid hhi;clear hhi HN c1 c2;go_enter Tryz.func122,Tryz.ntmps122
  go_wp2_with fail
  go_quiet (fail)
  go_wp2;go_ret2;exact⟨rfl,_,rfl⟩
 obtain⟨Q,hQ⟩:∃ Q,N / y=Q:=⟨_,rfl⟩;obtain⟨R,hR⟩:∃ R,N % y=R:=⟨_,rfl⟩;rw[hQ,hR];have HQ:=hid hQ;have HR:=hid hR;clear hQ hR;obtain⟨s,hs2,hlz,hY1,hY2⟩:=norm y (by omega) hy;obtain⟨H,L,v,hv,e0,e1,e2,e3,e4,hU,hu⟩:=MG hi lo y s hs2 hY2 hhi hlo;have hm1:min s 64=s:=by omega
 have hm2:min (64-s) 64=64-s:=by omega
 generalize hYe:y*2 ^ s=Y at hY1 hY2 e0 hu;obtain⟨a1,a0,ha1,ha0,hYs,f1,f0⟩:=xB Y hY2;obtain⟨d1,d0,hd1,hd0,hvs,g1,g0⟩:=xB v hv;obtain⟨u,hue⟩:∃ u,H+L=u:=⟨_,rfl⟩;rw[hue] at e3 hU hu;rw[<-HN.out] at hU;have HU:=hid hU;have HYE:=hid hYe;have HYS:=hid hYs;have HVS:=hid hvs;have hlb:=fun w=>Tryz.bits_LeadingZeros64 y w (by omega) (by omega);rw[show (y:Int).toNat=y from rfl,hlz] at hlb;have z0:((hi:Int) == 0)=false:=by rw[beq_eq_false_iff_ne];omega
 have y4:decide ((y:Int)<=(hi:Int))=false:=by simp;omega
 have HH:=hid hhi;have HUY:=hid hu;have HLB:=hid hlb;have ha1p:2147483648<=a1:=by have:=HYS.out;omega
 obtain⟨t0,t1,t2,b0,b1,b2,m1,m2,m3,hdg⟩:=qZ (d:=d1) HYS.out HUY.out hY2 hd1 ha0 ha1p;have HDG0:=hid hdg;clear hdg;have k0:=Q5 Y hY2 a0 f0;have k1:=Q5 v hv d0 g0;have hY1':(9223372036854775808:Int)<=(Y:Int):=by omega
 clear hU hYe hYs hvs hue hlz hu hlb;go_enter Tryz.func122,Tryz.ntmps122
 go_wp2_with fail
 refine (HLB.out _).mono ?_;rintro e w' ⟨rfl,rfl⟩;go_wp2_with fail
 go_loop [15,16] (fun vq vr=>∃ q r:Nat,vq=.int .u64 q/\vr=.int .u64 r/\Dg u d1 a1 a0 q r/\q<=4294967298/\r<4294967296) (fun _ vr=>4294967296-(intOf vr).toNat)
 case atStart=>exact⟨t0,t1,rfl,rfl,HDG0.out,b0,b1⟩
 case round =>
  obtain⟨q,r,rfl,rfl,hdg,hq,hr⟩:=hrel;have HDG:=hid hdg;clear hdg;by_cases c1:4294967296<=q
  focus
   have n1:=ZI HDG.out (by rw[<-HYS.out];exact HUY.out) hd1 c1;have HN1:=hid n1;have c1':(4294967296:Int)<=(q:Int):=by omega
   clear n1 HDG;by_cases c2:4294967296<=r+a1
   rotate_left
   focus
    obtain⟨qq,hqq⟩:∃ qq,q-1=qq:=⟨_,rfl⟩;have c4:((q:Int)-1)=(qq:Int):=by omega
    have c3:(r:Int)+(a1:Int)<4294967296:=by omega
    rw[hqq] at HN1;have d3:decide (4294967296<=(r:Int)+(a1:Int))=false:=by rw[decide_eq_false_iff_not];omega
    have d4:¬ (4294967296<=(r:Int)+(a1:Int)):=by omega
    have hb1:=hid (show qq<=4294967298 by omega);have hrb:=hid (show r+a1<4294967296 by omega);clear c2 hqq;clear c1;go_wp2_with fail
    go_round
    case rel=>exact⟨qq,r+a1,rfl,congrArg (Value.int .u64) (by omega),HN1.out,hb1.out,hrb.out⟩
    case measure=>simp only[intOf];omega
   have HF:=hid (zK HN1.out (by omega) (by rw[<-HYS.out];exact HUY.out) ha0 c2);obtain⟨qq,hqq⟩:∃ qq,q-1=qq:=⟨_,rfl⟩;have c3:(4294967296:Int)<=(r:Int)+(a1:Int):=by omega
   have c4:((q:Int)-1)=(qq:Int):=by omega
   rw[hqq] at HF;clear c2 hqq HN1;obtain⟨hq1,r1,hr1,hr1Y⟩:=wT HF.out.2 HYS.out HUY.out hd1;have HR1Y:=hid hr1Y;obtain⟨x1,x2,x3,x1b,x2b,x3b,m5,m6,m7,m8⟩:=nA hr1 (by omega);obtain⟨z0,z1,z2,i0,i1,i2,m9,m10,m11,hdg2⟩:=qZ (d:=d0) HYS.out hr1Y hY2 hd0 ha0 ha1p;have HDG2:=hid hdg2;have hr1b:(r1:Int)<18446744073709551616:=by omega
   have HR1:Hid (u*4294967296+d1=qq*Y+r1):=hid hr1;have HQ1:=hid hq1;clear hr1 hr1Y hdg2 HF hq1;clear c1
  rotate_left
  focus
   have p4:q*a0<=4294967295*4294967295:=Nat.mul_le_mul (by omega) (by omega);obtain⟨pp,hpp⟩:∃ pp,q*a0=pp:=⟨_,rfl⟩;have e5:(q:Int)*(a0:Int)=(pp:Int):=by rw[<-hpp];simp
   rw[hpp] at p4;have c1':(q:Int)<4294967296:=by omega
   have p4':(pp:Int)<18446744073709551616:=by omega
   by_cases c5:4294967296*r+d1<pp
   focus
    have n1:=QK HDG.out (by omega) (by rw[hpp];exact c5);have HN1:=hid n1
    have hq0:0<q:=by
     rcases Nat.eq_zero_or_pos q with rfl|h
     ·omega
     ·exact h
    have c5':4294967296*(r:Int)+(d1:Int)<(pp:Int):=by omega
    clear n1 hpp HDG c5 p4 c1;by_cases c2:4294967296<=r+a1
    rotate_left
    focus
     obtain⟨qq,hqq⟩:∃ qq,q-1=qq:=⟨_,rfl⟩;have c4:((q:Int)-1)=(qq:Int):=by omega
     have c3:(r:Int)+(a1:Int)<4294967296:=by omega
     rw[hqq] at HN1;have d3:decide (4294967296<=(r:Int)+(a1:Int))=false:=by rw[decide_eq_false_iff_not];omega
     have d4:¬ (4294967296<=(r:Int)+(a1:Int)):=by omega
     have hb1:=hid (show qq<=4294967298 by omega);have hrb:=hid (show r+a1<4294967296 by omega);clear c2 hqq;go_wp2_with fail
     go_round
     case rel=>exact⟨qq,r+a1,rfl,congrArg (Value.int .u64) (by omega),HN1.out,hb1.out,hrb.out⟩
     case measure=>simp only[intOf];omega
    have HF:=hid (zK HN1.out (by omega) (by rw[<-HYS.out];exact HUY.out) ha0 c2);obtain⟨qq,hqq⟩:∃ qq,q-1=qq:=⟨_,rfl⟩;have c3:(4294967296:Int)<=(r:Int)+(a1:Int):=by omega
    have c4:((q:Int)-1)=(qq:Int):=by omega
    rw[hqq] at HF;clear c2 hqq HN1;obtain⟨hq1,r1,hr1,hr1Y⟩:=wT HF.out.2 HYS.out HUY.out hd1;have HR1Y:=hid hr1Y;obtain⟨x1,x2,x3,x1b,x2b,x3b,m5,m6,m7,m8⟩:=nA hr1 (by omega);obtain⟨z0,z1,z2,i0,i1,i2,m9,m10,m11,hdg2⟩:=qZ (d:=d0) HYS.out hr1Y hY2 hd0 ha0 ha1p;have HDG2:=hid hdg2;have hr1b:(r1:Int)<18446744073709551616:=by omega
    have HR1:Hid (u*4294967296+d1=qq*Y+r1):=hid hr1;have HQ1:=hid hq1;clear hr1 hr1Y hdg2 HF hq1
   rotate_left
   focus
    have HF:=hid (GZ HDG.out (by omega) (by rw[hpp];omega));have c6:(pp:Int)<=4294967296*(r:Int)+(d1:Int):=by omega
    clear HDG hpp c5 p4 c1 hq;obtain⟨hq1,r1,hr1,hr1Y⟩:=wT HF.out HYS.out HUY.out hd1;have HR1Y:=hid hr1Y;obtain⟨x1,x2,x3,x1b,x2b,x3b,m5,m6,m7,m8⟩:=nA hr1 (by omega);obtain⟨z0,z1,z2,i0,i1,i2,m9,m10,m11,hdg2⟩:=qZ (d:=d0) HYS.out hr1Y hY2 hd0 ha0 ha1p;have HDG2:=hid hdg2;have hr1b:(r1:Int)<18446744073709551616:=by omega
    have HR1:Hid (u*4294967296+d1=q*Y+r1):=hid hr1;have HQ1:=hid hq1;clear hr1 hr1Y hdg2 HF hq1;obtain⟨rr,hrr⟩:∃ rr:Nat,4294967296*r=rr:=⟨_,rfl⟩;obtain⟨rd,hrd⟩:∃ rd:Nat,rr+d1=rd:=⟨_,rfl⟩;have d5:4294967296*(r:Int)=(rr:Int):=by omega
    have d6:(rr:Int)+(d1:Int)=(rd:Int):=by omega
    have d7:(rr:Int)<18446744073709551616:=by omega
    have d8:(rd:Int)<18446744073709551616:=by omega
    have d9:(pp:Int)<=(rd:Int):=by omega
    have d10:decide ((rd:Int)<(pp:Int))=false:=by rw[decide_eq_false_iff_not];omega
    have d11:decide (rd<pp)=false:=by rw[decide_eq_false_iff_not];omega
    have d12:decide ((4294967296:Int)<=(q:Int))=false:=by rw[decide_eq_false_iff_not];omega
    have d13:(decide ((4294967296:Int)<=(q:Int)) || decide (rd<pp))=false:=by rw[d11,d12];rfl
    clear c6 hrr hrd hr
   rotate_left
  rotate_left 2
  all_goals
   go_wp2_with fail
   try clear d13
   try clear d12
   try clear d11
   try clear d10
   try clear d9
   try clear d8
   try clear d7
   try clear d6
   try clear d5
   try clear e5
   try clear p4'
   try clear c1'
   try clear c3
   try clear c4
   try clear c5'
   try clear m5
   try clear m6
   try clear m7
   try clear m8
   try clear m9
   try clear m10
   try clear m11
   try clear hq0
   try clear hq
   try clear hr
   try clear hq1e
   try clear m1
   try clear m2
   try clear m3
   try clear b0
   try clear b1
   try clear b2
   try clear x1b
   try clear x2b
   try clear x3b
   go_loop [18,16] (fun vq vr=>∃ q r:Nat,vq=.int .u64 q/\vr=.int .u64 r/\Dg r1 d0 a1 a0 q r/\q<=4294967298/\r<4294967296) (fun _ vr=>4294967296-(intOf vr).toNat)
   case atStart=>exact⟨z0,z1,rfl,rfl,HDG2.out,i0,i1⟩
   case round =>
    obtain⟨q,r,rfl,rfl,hdg,hq,hr⟩:=hrel;have HDG:=hid hdg;clear hdg;by_cases c1:4294967296<=q
    ·have n1:=ZI HDG.out (by rw[<-HYS.out];exact HR1Y.out) hd0 c1
     have HN1:=hid n1;have c1':(4294967296:Int)<=(q:Int):=by omega
     clear n1 HDG;by_cases c2:4294967296<=r+a1
     ·have HF:=hid (zK HN1.out (by omega) (by rw[<-HYS.out];exact HR1Y.out) ha0 c2)
      obtain⟨qq,hqq⟩:∃ qq,q-1=qq:=⟨_,rfl⟩;have c3:(4294967296:Int)<=(r:Int)+(a1:Int):=by omega
      have c4:((q:Int)-1)=(qq:Int):=by omega
      rw[hqq] at HF;clear c2 hqq HN1;obtain⟨hq0',r0,hr0,hr0Y⟩:=wT HF.out.2 HYS.out HR1Y.out hd0;obtain⟨y1,y2,y3,y1b,y2b,y3b,n5,n6,n7,n8⟩:=nA hr0 (by omega);obtain⟨hfq,hfr⟩:=wP HU.out HVS.out HYE.out HR1.out hr0 hr0Y;rw[HQ.out] at hfq;rw[HR.out] at hfr;have n9:(r0:Int) / 2 ^ s=(R:Int):=by rw[<-hfr];simp
      have HFQ:=hid hfq;have HQ0:=hid hq0';clear hr0 hfq hfr HF hq0';clear c1;go_wp2_with fail
      go_ret2;first|exact⟨rE HFQ.out HQ1.out HQ0.out,_,rfl⟩|exact⟨rE HFQ.out HQ1.out HQ0.out,0,(World.drewN_zero _).symm⟩
     ·obtain⟨qq,hqq⟩:∃ qq,q-1=qq:=⟨_,rfl⟩
      have c4:((q:Int)-1)=(qq:Int):=by omega
      have c3:(r:Int)+(a1:Int)<4294967296:=by omega
      rw[hqq] at HN1;have d3:decide (4294967296<=(r:Int)+(a1:Int))=false:=by rw[decide_eq_false_iff_not];omega
      have d4:¬ (4294967296<=(r:Int)+(a1:Int)):=by omega
      have hb1:=hid (show qq<=4294967298 by omega);have hrb:=hid (show r+a1<4294967296 by omega);clear c2 hqq;clear c1;go_wp2_with fail
      go_round
      case rel=>exact⟨qq,r+a1,rfl,congrArg (Value.int .u64) (by omega),HN1.out,hb1.out,hrb.out⟩
      case measure=>simp only[intOf];omega
    ·have p4:q*a0<=4294967295*4294967295:=Nat.mul_le_mul (by omega) (by omega)
     obtain⟨pp,hpp⟩:∃ pp,q*a0=pp:=⟨_,rfl⟩;have e5:(q:Int)*(a0:Int)=(pp:Int):=by rw[<-hpp];simp
     rw[hpp] at p4;have c1':(q:Int)<4294967296:=by omega
     have p4':(pp:Int)<18446744073709551616:=by omega
     by_cases c5:4294967296*r+d0<pp
     ·have n1:=QK HDG.out (by omega) (by rw[hpp];exact c5)
      have HN1:=hid n1
      have hq0:0<q:=by
       rcases Nat.eq_zero_or_pos q with rfl|h
       ·omega
       ·exact h
      have c5':4294967296*(r:Int)+(d0:Int)<(pp:Int):=by omega
      clear n1 hpp HDG c5 p4 c1;by_cases c2:4294967296<=r+a1
      ·have HF:=hid (zK HN1.out (by omega) (by rw[<-HYS.out];exact HR1Y.out) ha0 c2)
       obtain⟨qq,hqq⟩:∃ qq,q-1=qq:=⟨_,rfl⟩;have c3:(4294967296:Int)<=(r:Int)+(a1:Int):=by omega
       have c4:((q:Int)-1)=(qq:Int):=by omega
       rw[hqq] at HF;clear c2 hqq HN1;obtain⟨hq0',r0,hr0,hr0Y⟩:=wT HF.out.2 HYS.out HR1Y.out hd0;obtain⟨y1,y2,y3,y1b,y2b,y3b,n5,n6,n7,n8⟩:=nA hr0 (by omega);obtain⟨hfq,hfr⟩:=wP HU.out HVS.out HYE.out HR1.out hr0 hr0Y;rw[HQ.out] at hfq;rw[HR.out] at hfr;have n9:(r0:Int) / 2 ^ s=(R:Int):=by rw[<-hfr];simp
       have HFQ:=hid hfq;have HQ0:=hid hq0';clear hr0 hfq hfr HF hq0';go_wp2_with fail
       go_ret2;first|exact⟨rE HFQ.out HQ1.out HQ0.out,_,rfl⟩|exact⟨rE HFQ.out HQ1.out HQ0.out,0,(World.drewN_zero _).symm⟩
      ·obtain⟨qq,hqq⟩:∃ qq,q-1=qq:=⟨_,rfl⟩
       have c4:((q:Int)-1)=(qq:Int):=by omega
       have c3:(r:Int)+(a1:Int)<4294967296:=by omega
       rw[hqq] at HN1;have d3:decide (4294967296<=(r:Int)+(a1:Int))=false:=by rw[decide_eq_false_iff_not];omega
       have d4:¬ (4294967296<=(r:Int)+(a1:Int)):=by omega
       have hb1:=hid (show qq<=4294967298 by omega);have hrb:=hid (show r+a1<4294967296 by omega);clear c2 hqq;go_wp2_with fail
       go_round
       case rel=>exact⟨qq,r+a1,rfl,congrArg (Value.int .u64) (by omega),HN1.out,hb1.out,hrb.out⟩
       case measure=>simp only[intOf];omega
     ·have HF:=hid (GZ HDG.out (by omega) (by rw[hpp];omega))
      have c6:(pp:Int)<=4294967296*(r:Int)+(d0:Int):=by omega
      clear HDG hpp c5 p4 c1 hq;obtain⟨hq0',r0,hr0,hr0Y⟩:=wT HF.out HYS.out HR1Y.out hd0;obtain⟨y1,y2,y3,y1b,y2b,y3b,n5,n6,n7,n8⟩:=nA hr0 (by omega);obtain⟨hfq,hfr⟩:=wP HU.out HVS.out HYE.out HR1.out hr0 hr0Y;rw[HQ.out] at hfq;rw[HR.out] at hfr;have n9:(r0:Int) / 2 ^ s=(R:Int):=by rw[<-hfr];simp
      have HFQ:=hid hfq;have HQ0:=hid hq0';clear hr0 hfq hfr HF hq0';obtain⟨rr,hrr⟩:∃ rr:Nat,4294967296*r=rr:=⟨_,rfl⟩;obtain⟨rd,hrd⟩:∃ rd:Nat,rr+d0=rd:=⟨_,rfl⟩;have d5:4294967296*(r:Int)=(rr:Int):=by omega
      have d6:(rr:Int)+(d0:Int)=(rd:Int):=by omega
      have d7:(rr:Int)<18446744073709551616:=by omega
      have d8:(rd:Int)<18446744073709551616:=by omega
      have d9:(pp:Int)<=(rd:Int):=by omega
      have d10:decide ((rd:Int)<(pp:Int))=false:=by rw[decide_eq_false_iff_not];omega
      have d11:decide (rd<pp)=false:=by rw[decide_eq_false_iff_not];omega
      have d12:decide ((4294967296:Int)<=(q:Int))=false:=by rw[decide_eq_false_iff_not];omega
      have d13:(decide ((4294967296:Int)<=(q:Int)) || decide (rd<pp))=false:=by rw[d11,d12];rfl
      clear c6 hrr hrd hr;go_wp2_with fail
      go_ret2;first|exact⟨rE HFQ.out HQ1.out HQ0.out,_,rfl⟩|exact⟨rE HFQ.out HQ1.out HQ0.out,0,(World.drewN_zero _).symm⟩
end
section
open Go.RowKit
theorem hi_lt {N hi lo C:Nat} (h:N=hi*18446744073709551616+lo) (hlo:lo<18446744073709551616) (hc:hi<C):N / C<=18446744073709551615:=by
 have:N / C<18446744073709551616:=by
  rw[Nat.div_lt_iff_lt_mul (by omega)];omega
 omega
theorem hi_ge {N hi lo C:Nat} (h:N=hi*18446744073709551616+lo) (hc0:0<C) (hc:C<=hi):18446744073709551616<=N / C:=by
 rw[Nat.le_div_iff_mul_le hc0];omega
theorem mF (a b c:Int) (w:World) (a0: -9223372036854775808<=a) (a1:a<=9223372036854775807) (b0: -9223372036854775808<=b) (b1:b<=9223372036854775807) (c0:0<c) (c1:c<=9223372036854775807) :
  Calls Tryz.prog 118 #[.int .i64 a,.int .i64 b,.int .i64 c] w fun e w'=>e=.returned (.tuple #[.int .i64 (PY (a*b / c)),.bool (MO (a*b / c))])/\∃ n,w'=w.drewN n:=by
 have hx:a.natAbs<=9223372036854775808:=by omega
 have hy:b.natAbs<=9223372036854775808:=by omega
 have hnc:decide (c<0)=false:=by simp;omega
 obtain⟨p,hp⟩:∃ p,p=a*b / c:=⟨_,rfl⟩;rw[<-hp];have HP:=hid hp;clear hp;have S1:=hid (EK a w a0 a1);have S2:=hid (EK b w b0 b1);have S3:=hid (fun w=>EK c w (by omega) c1);obtain⟨C,hC⟩:∃ C,c.natAbs=C:=⟨_,rfl⟩;have HCC:Hid (c=(C:Int)):=hid (by omega);have hC0:0<C:=by omega
 have hCb:C<=9223372036854775807:=by omega
 rw[hC] at S3;clear hC;have HSD:=hid (fun (N:Nat) (hN:a.natAbs*b.natAbs=N)=>sgn_div (a:=a) (b:=b) (c:=c) (C:=C) (Q:=N / C) (r:=N % C) HCC.out hN (by rw[Nat.mul_comm];exact Nat.div_add_mod N C) (Nat.mod_lt N hC0));have HM:=hid (mul64 a.natAbs b.natAbs (by omega) (by omega) w);generalize a.natAbs=A at S1 HM HSD hx;generalize b.natAbs=B at S2 HM HSD hy;go_enter Tryz.func118,Tryz.ntmps118
 go_wp2_with fail
 refine S1.out.mono ?_;rintro e w' ⟨rfl,rfl⟩;go_wp2_with fail
 refine S2.out.mono ?_;rintro e w' ⟨rfl,rfl⟩;go_wp2_with fail
 refine HM.out.mono ?_;rintro e w' ⟨hi,lo,rfl,rfl,hm,hlo⟩;obtain⟨N,hN⟩:∃ N,A*B=N:=⟨_,rfl⟩;rw[hN] at hm;have HS:=hid (HSD.out N hN);have HNE:=hid hm.out
 have hhb:hi<=4611686018427387904:=by
  have h1:=Z8 hx hy;rw[hN,hm.out] at h1;omega
 clear hm HSD HM hN;go_wp2_with fail
 refine (S3.out _).mono ?_;rintro e w' ⟨rfl,rfl⟩;by_cases hge:C<=hi
 ·have t2:decide ((C:Int)<=(hi:Int))=true:=by simp;omega
  have hq:=hi_ge HNE.out hC0 hge;have hs:=HS.out;rw[<-HP.out] at hs
  have hout:p < -9223372036854775808\/9223372036854775807<p:=by
   generalize N / C=q at hq hs;rw[hs];split
   ·rw[mD];omega
   ·cases (!(decide (a<0) == decide (b<0)))
    ·rw[FV];omega
    ·rw[mD];omega
  have HO:=hid hout;clear hs hout hq HS HNE HP;go_wp2_with fail
  go_ret2;exact⟨oH (kW HO.out).symm (jX HO.out).symm,0,rfl⟩
 ·have t2:decide ((C:Int)<=(hi:Int))=false:=by simp;omega
  have t1:¬ (C:Int)<=(hi:Int):=by omega
  have hd:=div64 hi lo C (by omega) (by omega) (by omega) w;rw[<-HNE.out] at hd;have HD:=hid hd;have hq:=hi_lt HNE.out (by omega) (by omega:hi<C);clear hd;go_wp2_with fail
  refine (S3.out _).mono ?_;rintro e w' ⟨rfl,rfl⟩;go_wp2_with fail
  refine HD.out.mono ?_;rintro e w1 ⟨rfl,n,rfl⟩;have hs:=HS.out;rw[<-HP.out] at hs;have hrl:N % C<C:=Nat.mod_lt N hC0;generalize N / C=q at hq hs |-;generalize N % C=r at hs hrl |-;have HS':=hid hs;clear hs HS HD HNE HP t1 t2 hge
  cases hneg: !(decide (a<0) == decide (b<0))
  ·rw[hneg] at HS'
   have hs:=HS'.out;simp only[Bool.false_eq_true,false_and,if_false] at hs;have HX:=hid hs;clear hs HS';go_wp2_with fail
   refine (vH q _ _ hq).mono ?_;rintro e w' ⟨rfl,rfl⟩;go_wp2;go_ret2;exact⟨oH (by rw[HX.out]) (by rw[HX.out]),n,rfl⟩
  ·rw[hneg] at HS'
   have hs:=HS'.out;simp only[true_and] at hs;by_cases h0:0<r
   ·rw[if_pos h0] at hs
    have HX:=hid hs;have r1:((r:Int) != 0)=true:=by rw[bne_iff_ne];omega
    have r2:((r:Int) == 0)=false:=by rw[beq_eq_false_iff_ne];omega
    clear hs HS';by_cases hz:q=18446744073709551615
    ·subst hz
     have HO:Hid (p < -9223372036854775808\/9223372036854775807<p):=hid (by rw[HX.out,mD];omega);go_wp2_with fail
     go_ret2;exact⟨oH (kW HO.out).symm (jX HO.out).symm,n,rfl⟩
    ·have q1:((q:Int) == 18446744073709551615)=false:=by rw[beq_eq_false_iff_ne];omega
     obtain⟨q2,hq2⟩:∃ q2,q+1=q2:=⟨_,rfl⟩;have hq3:(q:Int)+1=(q2:Int):=by omega
     have hq4:q2<=18446744073709551615:=by omega
     rw[hq2] at HX;clear hq2 h0;go_wp2_with fail
     refine (vH q2 _ _ hq4).mono ?_;rintro e w' ⟨rfl,rfl⟩;go_wp2;go_ret2;exact⟨oH (by rw[HX.out]) (by rw[HX.out]),n,rfl⟩
   ·rw[if_neg h0] at hs
    have HX:=hid hs;obtain rfl:r=0:=by omega
    clear hs HS';go_wp2_with fail
    refine (vH q _ _ hq).mono ?_;rintro e w' ⟨rfl,rfl⟩;go_wp2;go_ret2;exact⟨oH (by rw[HX.out]) (by rw[HX.out]),n,rfl⟩
theorem fabs (n:Int) (w:World) (h0: -9223372036854775807<=n) (h1:n<=9223372036854775807) :
  Calls Tryz.prog 288 #[.int .i64 n] w fun e w'=>e=.returned (.tuple #[.int .i64 (n.natAbs:Int),.bool true])/\w=w':=by
 have HS:=hid (EK n w (by omega) (by omega));have hm:n.natAbs<=9223372036854775807:=by omega
 generalize n.natAbs=m at HS hm |-;have HG:=hid (vH m false w (by omega));rw[FV,fU (by omega) (by omega),gM (by omega) (by omega)] at HG;go_enter Tryz.func288,Tryz.ntmps288
 go_wp2_with fail
 refine HS.out.mono ?_;rintro e w' ⟨rfl,rfl⟩;go_wp2_with fail
 refine HG.out.mono ?_;rintro e w' ⟨rfl,rfl⟩;go_wp2;go_ret2;exact⟨rfl,rfl⟩
theorem zQ (a b:Int) (a0: -9223372036854775808<=a) (a1:a<=9223372036854775807) (b0: -9223372036854775808<=b) (b1:b<=9223372036854775807) :
  wrap64 (a-b)=(if a-b < -9223372036854775808 then a-b+18446744073709551616 else if 9223372036854775807<a-b then a-b - 18446744073709551616 else a-b):=by
 unfold wrap64;split
 ·omega
 ·split<;>omega
theorem fsub (a b:Int) (w:World) (a0: -9223372036854775808<=a) (a1:a<=9223372036854775807) (b0: -9223372036854775808<=b) (b1:b<=9223372036854775807) :
  Calls Tryz.prog 119 #[.int .i64 a,.int .i64 b] w fun e w'=>e=.returned (.tuple #[.int .i64 (PY (a-b)),.bool (MO (a-b))])/\w=w':=by
 by_cases hlo:a-b < -9223372036854775808
 ·rw[kW (by omega),jX (by omega)]
  have d1:decide (a<0)=true:=by simp;omega
  have d2:decide (b<0)=false:=by simp;omega
  have d3:decide (wrap64 (a-b)<0)=false:=by rw[zQ a b a0 a1 b0 b1];simp[hlo];omega
  clear hlo;go_enter Tryz.func119,Tryz.ntmps119
  go_wp2;go_ret2;exact⟨rfl,rfl⟩
 ·by_cases hhi:9223372036854775807<a-b
  ·rw[kW (by omega),jX (by omega)]
   have d1:decide (a<0)=false:=by simp;omega
   have d2:decide (b<0)=true:=by simp;omega
   have d3:decide (wrap64 (a-b)<0)=true:=by rw[zQ a b a0 a1 b0 b1];simp[hlo,hhi];omega
   clear hlo hhi;go_enter Tryz.func119,Tryz.ntmps119
   go_wp2;go_ret2;exact⟨rfl,rfl⟩
  ·rw[fU (by omega) (by omega),gM (by omega) (by omega)]
   have hl1: -9223372036854775808<=a-b:=by omega
   have hl2:a-b<=9223372036854775807:=by omega
   by_cases h1:a<0<;>by_cases h2:b<0<;>by_cases h3:a-b<0
   all_goals first|(exfalso;omega)|skip
   all_goals
    go_enter Tryz.func119,Tryz.ntmps119
    go_wp2;go_ret2;exact⟨rfl,rfl⟩
end
section
open Go.RowKit
def tN (n:Nat):Nat->Nat->Nat
 | 0,r=>r
 | k+1,r=>if (r+2 ^ k)*(r+2 ^ k)<=n then tN n k (r+2 ^ k) else tN n k r
def SX (n:Nat):Nat:=tN n 32 0
theorem wM (n:Nat):∀ (k r:Nat),r*r<=n->n<(r+2 ^ k)*(r+2 ^ k)->tN n k r*tN n k r<=n/\n<(tN n k r+1)*(tN n k r+1)
 | 0,r,h0,h1=>⟨h0,h1⟩
 | k+1,r,h0,h1=>by
  unfold tN;by_cases h:(r+2 ^ k)*(r+2 ^ k)<=n
  ·rw[if_pos h]
   refine wM n k _ h ?_;rw[show r+2 ^ k+2 ^ k=r+2 ^ (k+1) by rw[Nat.pow_succ];omega];exact h1
  ·rw[if_neg h]
   exact wM n k r h0 (by omega)
theorem YQ (n:Nat) (h:n<18446744073709551616):SX n*SX n<=n/\n<(SX n+1)*(SX n+1):=wM n 32 0 (by omega) (by simpa using h)
theorem YR {n:Nat} (h:n<18446744073709551616):SX n<4294967296:=by
 have:=(YQ n h).1;refine Nat.lt_of_not_le fun hge=>?_;have:=Nat.mul_le_mul hge hge;omega
theorem YZ (n:Nat) (w:World) (h1:n<=9223372036854775807) :
  Calls Tryz.prog 264 #[.int .i64 n] w fun e w'=>e=.returned (.tuple #[.int .i64 (SX n:Int),.bool true])/\w=w':=by
 have hisq:=YR (n:=n) (by omega);have HR:Hid (SX n=tN n 32 0):=hid rfl;generalize SX n=res at HR hisq |-;go_enter Tryz.func264,Tryz.ntmps264
 go_wp2_with fail
 go_loop [4,9] (fun vr vk=>∃ (r k x:Nat),vr=.int .u64 r/\vk=.int .i64 k/\r<4294967296/\k<=32/\Hid (res=tN n (32-k) r)/\Hid (r=2 ^ (32-k)*x)) (fun _ vk=>32-(intOf vk).toNat)
 case atStart=>exact⟨0,0,0,rfl,rfl,by omega,by omega,HR,hid (by simp)⟩
 case round =>
  obtain⟨r,k,x,rfl,rfl,hr,hk,HI,HX⟩:=hrel;by_cases hk2:k<32
  ·obtain⟨j,hj⟩:∃ j,31-k=j:=⟨_,rfl⟩
   have hj2:(31:Int)-(k:Int)=(j:Int):=by omega
   have e1:32-k=j+1:=by omega
   have e2:32-(k+1)=j:=by omega
   have hjb:j<=31:=by omega
   have HS:Hid (res=if (r+2 ^ j)*(r+2 ^ j)<=n then tN n j (r+2 ^ j) else tN n j r):=hid (by have:=HI.out;rw[e1] at this;rw[this,tN]);have hxr:=HX.out;rw[e1] at hxr;have hp:2 ^ j<=2 ^ 31:=Nat.pow_le_pow_right (by omega) hjb;have hps:2 ^ j<2 ^ (j+1):=by rw[Nat.pow_succ];have:=Nat.two_pow_pos j;omega
   have hor:=MC (a:=r) (b:=2 ^ j) (j+1) (by omega) (by omega) x hxr hps;have HX1:Hid (r=2 ^ j*(2*x)):=hid (by rw[hxr,Nat.pow_succ,Nat.mul_assoc]);have HX2:Hid (r+2 ^ j=2 ^ j*(2*x+1)):=hid (by rw[Nat.mul_add,Nat.mul_one,<-HX1.out])
   have hlt:r+2 ^ j<4294967296:=by
    have h3:2 ^ (j+1)*x<2 ^ (j+1)*2 ^ (31-j):=by rw[<-hxr,<-Nat.pow_add,show j+1+(31-j)=32 by omega];exact hr
    have h4:x<2 ^ (31-j):=Nat.lt_of_mul_lt_mul_left h3;have h5:2 ^ (j+1)*(x+1)<=2 ^ (j+1)*2 ^ (31-j):=Nat.mul_le_mul_left _ h4;rw[<-Nat.pow_add,show j+1+(31-j)=32 by omega,Nat.mul_add,<-hxr,Nat.mul_one] at h5;omega
   obtain⟨pw,hpw⟩:∃ pw,2 ^ j=pw:=⟨_,rfl⟩;have hpi:(2:Int) ^ j=(pw:Int):=by rw[<-hpw];simp
   rw[hpw] at hor HS hlt HX2;have hm:min j 64=j:=by omega
   obtain⟨nx,hnx⟩:∃ nx,r+pw=nx:=⟨_,rfl⟩;rw[hnx] at hor HS hlt HX2;have HP:=hid hpw;have HE2:=hid e2;obtain⟨sq,hsq⟩:∃ sq,nx*nx=sq:=⟨_,rfl⟩;have hsqb:sq<=4294967295*4294967295:=by rw[<-hsq];exact Nat.mul_le_mul (by omega) (by omega)
   have hsqi:(nx:Int)*(nx:Int)=(sq:Int):=by rw[<-hsq];simp
   rw[hsq] at HS;have hwr:IntKind.u64.wrap (sq:Int)=(sq:Int):=by rw[wrap_u64];omega
   have hwp:IntKind.u64.wrap (pw:Int)=(pw:Int):=by rw[wrap_u64];omega
   clear hpw hj hsq hnx hps hp hxr e1 e2 HI HX;by_cases hle:sq<=n
   ·have HS2:Hid (res=tN n j nx):=hid (by have:=HS.out;rw[if_pos hle] at this;exact this)
    have q1:decide ((sq:Int)<=(n:Int))=true:=by simp;omega
    clear HS;go_wp2_with fail
    go_round
    case rel=>exact⟨nx,k+1,2*x+1,rfl,by go_num,hlt,by omega,hid (by rw[HE2.out];exact HS2.out),hid (by rw[HE2.out,HP.out];exact HX2.out)⟩
    case measure=>simp only[intOf];omega
   ·have HS2:Hid (res=tN n j r):=hid (by have:=HS.out;rw[if_neg hle] at this;exact this)
    have q1:decide ((sq:Int)<=(n:Int))=false:=by simp;omega
    clear HS;go_wp2_with fail
    go_round
    case rel=>exact⟨r,k+1,2*x,rfl,by go_num,hr,by omega,hid (by rw[HE2.out];exact HS2.out),hid (by rw[HE2.out];exact HX1.out)⟩
    case measure=>simp only[intOf];omega
  ·obtain rfl:k=32:=by omega
   have HI2:Hid (res=r):=hid HI.out;clear HI HX hk hk2;go_wp2_with fail
   go_ret2;exact⟨by rw[HI2.out];rfl,rfl⟩
def bZ (n lo hi:Int):Int:=if n<lo then lo else if hi<n then hi else n
theorem EY {n lo hi:Int}:lo<=hi->(bZ n lo hi=n↔lo<=n/\n<=hi):=by
 intro h;unfold bZ;split
 ·omega
 ·split<;>omega
theorem GQ (n lo hi:Int) (w:World):Calls Tryz.prog 281 #[.int .i64 n,.int .i64 lo,.int .i64 hi] w fun e w'=>e=.returned (.int .i64 (bZ n lo hi))/\w=w':=by
 by_cases h1:n<lo
 ·have hr:bZ n lo hi=lo:=by unfold bZ;rw[if_pos h1]
  rw[hr];go_enter Tryz.func281,Tryz.ntmps281
  go_wp2;go_ret
  exact⟨rfl,rfl⟩
 ·by_cases h2:hi<n
  ·have hr:bZ n lo hi=hi:=by unfold bZ;rw[if_neg h1,if_pos h2]
   rw[hr];go_enter Tryz.func281,Tryz.ntmps281
   go_wp2;go_ret
   exact⟨rfl,rfl⟩
  ·have hr:bZ n lo hi=n:=by unfold bZ;rw[if_neg h1,if_neg h2]
   rw[hr];go_enter Tryz.func281,Tryz.ntmps281
   go_wp2;go_ret
   exact⟨rfl,rfl⟩
theorem fceil2 (a:Int) (w:World) (a0:0<=a) (a1:a<=9223372036854775800) :
  Calls Tryz.prog 284 #[.int .i64 a,.int .i64 2] w fun e w'=>e=.returned (.tuple #[.int .i64 ((a+1) / 2),.bool true])/\∃ n,w'=w.drewN n:=by
 have hb:=QG a 2 w (by omega) (by omega) (by omega) (by omega);have e1:a.tdiv 2=a / 2:=Int.tdiv_eq_ediv_of_nonneg a0;have e2:a.tmod 2=a % 2:=Int.tmod_eq_emod_of_nonneg a0;rw[e1,e2] at hb;have hr:a % 2=0\/a % 2=1:=by omega
 have HB:=hid hb;clear hb e1 e2;obtain⟨q,hq⟩:∃ q,a / 2=q:=⟨_,rfl⟩;obtain⟨r,hr2⟩:∃ r,a % 2=r:=⟨_,rfl⟩;have hqb:q<=4611686018427387904/\0<=q:=by omega
 rw[hq,hr2] at HB;rw[hr2] at hr;rcases hr with rfl|rfl
 focus
  have HV:Hid ((a+1) / 2=q):=hid (by omega)
 rotate_left
 focus
  have HV:Hid ((a+1) / 2=q+1):=hid (by omega)
 rotate_left
 all_goals
  clear hq hr2;go_enter Tryz.func284,Tryz.ntmps284
  go_wp2_with fail
  refine HB.out.mono ?_;rintro e w' ⟨rfl,n,rfl⟩;go_wp2_with fail
  go_ret2;exact⟨by rw[HV.out];rfl,_,rfl⟩
end
section
open Go.RowKit
theorem md_bd {a b c:Int} (ha:0<=a) (hac:a<=c) (hc:0<c):(0<=b->0<=a*b / c/\a*b / c<=b)/\(b<0->b<=a*b / c/\a*b / c<=0):=by
 refine⟨fun hb=>⟨Int.ediv_nonneg (Int.mul_nonneg ha hb) (by omega),?_⟩,fun hb=>⟨?_,?_⟩⟩
 ·refine Int.ediv_le_of_le_mul hc ?_
  rw[Int.mul_comm b c];exact Int.mul_le_mul_of_nonneg_right hac hb
 ·rw[Int.le_ediv_iff_mul_le hc,Int.mul_comm b c]
  exact Int.mul_le_mul_of_nonpos_right hac (by omega)
 ·refine Int.ediv_le_of_le_mul hc ?_
  rw[Int.zero_mul];exact Int.mul_nonpos_of_nonneg_of_nonpos ha (by omega)
theorem jU {P:Program} {f:FuncId} {args:Array Value} {w:World} {v:Ending} (h:Calls P f args w fun e w'=>e=v/\∃ n,w'=w.drewN n):Calls P f args w fun e w'=>e=v/\Only [] w w':=
 h.mono fun e w' ⟨he,n,hn⟩=>⟨he,by rw[hn];exact⟨rfl,rfl,rfl,Nat.le_refl _,fun _ _ _=>rfl⟩⟩
theorem jD {P:Program} {f:FuncId} {args:Array Value} {w:World} {v:Ending} (h:Calls P f args w fun e w'=>e=v/\w=w'):Calls P f args w fun e w'=>e=v/\Only [] w w':=
 h.mono fun e w' ⟨he,hn⟩=>⟨he,by rw[<-hn];exact Only.refl _ _⟩
end
end Go.Proofs.YthbgcpfklmlnjaaGreat
