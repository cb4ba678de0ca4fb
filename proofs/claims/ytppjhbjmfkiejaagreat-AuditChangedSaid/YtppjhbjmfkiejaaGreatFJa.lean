/- Ja Jb -/
import Derived.Test.YtppjhbjmfkiejaaGreatFJ9
import Derived.Test.YtppjhbjmfkiejaaGreatFV1
import Derived.Laws.CopyOwn
import Derived.Laws.BytesArg
import Derived.Test.YtppjhbjmfkiejaaGreatFV6
namespace Go.Proofs.YtppjhbjmfkiejaaGreat
open IntKind (wrap_i64 wrap_u64)
set_option maxRecDepth 100000
set_option maxHeartbeats 8000000
open IntKind (wrap)
section
open Go.RowKit
def fS (t:Int):Int:=(t-t / 1000000000*1000000000)*4294967296 / 1000000000
def mF (t:Int):Int:=(t / 1000000000*4294967296+fS t) % 18446744073709551616
def FP (a b:Int):Int:=(a-b+9223372036854775808) % 18446744073709551616-9223372036854775808
def nnS (f:Int):Int:=(f*1000000000+4294967295) / 4294967296
def tmR (s pivot:Int):Int:=(pivot / 1000000000+(FP s (mF pivot) / 4294967296+(fS pivot+FP s (mF pivot) % 4294967296) / 4294967296))*1000000000+nnS ((fS pivot+FP s (mF pivot) % 4294967296) % 4294967296)
def oF (s pivot:Int):Int × Int:=
 if pivot < -8000000000000000000\/8000000000000000000<pivot then (0,2)
 else if tmR s pivot < -8000000000000000000\/8000000000000000000<tmR s pivot then (0,3) else (tmR s pivot,0)
def pY (s now:Int):Int × Bool:=
 if (oF s (3900000000000000000+now)).2=0/\fQ ((oF s (3900000000000000000+now)).1-3900000000000000000)=true then ((oF s (3900000000000000000+now)).1-3900000000000000000,true) else (0,false)
theorem fS_bd (t:Int):0<=fS t/\fS t<=4294967295:=by unfold fS;omega
theorem dfS_bd (a b:Int): -9223372036854775808<=FP a b/\FP a b<=9223372036854775807:=by unfold FP;omega
theorem nnS_bd {f:Int} (h0:0<=f) (h1:f<=4294967295):0<=nnS f/\nnS f<=1000000000:=by unfold nnS;omega
theorem FB (n:Int):bits .and .i64 n 4294967295=n % 4294967296:=by
 have hm:(BitVec.ofInt 64 4294967295).toNat=2 ^ 32-1:=by decide
 have key:(BitVec.ofInt 64 n &&& BitVec.ofInt 64 4294967295).toNat=(n % ((2 ^ 64:Nat):Int)).toNat % 2 ^ 32:=by
  rw[BitVec.toNat_and,BitVec.toNat_ofInt,hm,Nat.and_two_pow_sub_one_eq_mod]
 show wrap .i64 ((BitVec.ofInt 64 n &&& BitVec.ofInt 64 4294967295).toNat:Nat)=n % 4294967296
 rw[key,wrap_i64];omega
theorem YF (t:Int) (h0: -9000000000000000000<=t) (h1:t<=9223372036854775807) (w:World) :
  Calls Tryz.prog 184 #[.int .i64 t] w fun e w'=>e=.returned (.tuple #[.int .i64 (t / 1000000000),.int .i64 (fS t)])/\Oy [] w w':=by
 have HF:=aA (fun w'=>j5 (NY t 1000000000 w' (by omega) h1 (by omega) (by omega)));have HE:Hid (fS t=(t-t / 1000000000*1000000000)*4294967296 / 1000000000):=aA rfl;obtain⟨q,hq⟩:∃ q,t / 1000000000=q:=⟨_,rfl⟩;have hb:=fS_bd t;generalize fS t=f at HE hb |-;rw[hq] at HF HE |-;have r1:wrap .i64 (q*1000000000)=q*1000000000:=by rw[wrap_i64];omega
 obtain⟨r,hr⟩:∃ r,t-q*1000000000=r:=⟨_,rfl⟩;have r2:wrap .i64 (t-q*1000000000)=r:=by rw[wrap_i64];omega
 have hrb:0<=r/\r<=999999999:=by omega
 rw[hr] at HE;have r3:wrap .i64 (r*4294967296)=r*4294967296:=by rw[wrap_i64];omega
 have r4:(r*4294967296).tdiv 1000000000=f:=by rw[Int.tdiv_eq_ediv_of_nonneg (by omega),<-HE.out]
 have r5:wrap .i64 f=f:=by rw[wrap_i64];omega
 clear hq hr HE;go_enter Tryz.func184,Tryz.ntmps184
 have OO:=aA (aR [] w);go_wp2_with fail
 refine (HF.out _).mono ?_;rintro e w2 ⟨rfl,ho⟩;replace OO:=aA (OO.out.aB ho);clear ho;go_wp2;go_ret2;exact⟨rfl,OO.out⟩
theorem nM (t:Int) (h0: -9000000000000000000<=t) (h1:t<=9223372036854775807) (w:World) :
  Calls Tryz.prog 178 #[.int .i64 t] w fun e w'=>e=.returned (.int .u64 (mF t))/\Oy [] w w':=by
 have HF:=aA (fun w'=>YF t h0 h1 w');have hb:=fS_bd t;have HE:Hid (mF t=(t / 1000000000*4294967296+fS t) % 18446744073709551616):=aA rfl;generalize mF t=res at HE |-;obtain⟨q,hq⟩:∃ q,t / 1000000000=q:=⟨_,rfl⟩;generalize fS t=f at HF HE hb;rw[hq] at HF HE;obtain⟨fn,rfl⟩:∃ fn:Nat,f=(fn:Int):=⟨f.toNat,by omega⟩;obtain⟨u,hu⟩:∃ u,wrap .u64 q=u:=⟨_,rfl⟩;obtain⟨x,hx⟩:∃ x:Nat,(x:Int)=q % 4294967296:=⟨(q % 4294967296).toNat,by omega⟩;have hub:u=q % 18446744073709551616:=by rw[<-hu,wrap_u64]
 have r1:wrap .u64 (u*4294967296)=((4294967296*x:Nat):Int):=by rw[wrap_u64,hub];omega
 have r2:wrap .u64 (fn:Int)=(fn:Int):=by rw[wrap_u64];omega
 have r3:wrap .u64 ((4294967296*x:Nat):Int)=((4294967296*x:Nat):Int):=by rw[wrap_u64];omega
 have hor:=NH (a:=4294967296*x) (b:=fn) 32 (by omega) (by omega) x (by rfl) (by omega);have HV:Hid (res=((4294967296*x+fn:Nat):Int)):=aA (by rw[HE.out];omega);generalize 4294967296*x=y at r1 r3 hor HV;clear hq hx HE hub;go_enter Tryz.func178,Tryz.ntmps178
 have OO:=aA (aR [] w);go_wp2_with fail
 refine (HF.out _).mono ?_;rintro e w2 ⟨rfl,ho⟩;replace OO:=aA (OO.out.aB ho);clear ho;go_wp2;go_ret
 exact⟨by rw[HV.out];rfl,OO.out⟩
theorem pDiff (a b:Int) (w:World) :
  Calls Tryz.prog 213 #[.int .u64 a,.int .u64 b] w fun e w'=>e=.returned (.int .i64 (FP a b))/\Oy [] w w':=by
 have r1:wrap .i64 (wrap .u64 (a-b))=FP a b:=by unfold FP;rw[wrap_u64,wrap_i64];omega
 generalize FP a b=r at r1 |-;go_enter Tryz.func213,Tryz.ntmps213
 have OO:=aA (aR [] w);go_wp2;go_ret
 exact⟨rfl,OO.out⟩
theorem pNanos (f:Int) (h0:0<=f) (h1:f<=4294967295) (w:World) :
  Calls Tryz.prog 215 #[.int .i64 f] w fun e w'=>e=.returned (.int .i64 (nnS f))/\Oy [] w w':=by
 have HE:Hid ((f*1000000000+4294967295) / 4294967296=nnS f):=aA rfl;have r1:wrap .i64 (f*1000000000)=f*1000000000:=by rw[wrap_i64];omega
 have r2:wrap .i64 (f*1000000000+4294967295)=f*1000000000+4294967295:=by rw[wrap_i64];omega
 go_enter Tryz.func215,Tryz.ntmps215
 have OO:=aA (aR [] w);go_wp2;go_ret
 exact⟨by rw[<-HE.out];rfl,OO.out⟩
theorem YC (s pivot:Int) (h0: -9223372036854775808<=pivot) (h1:pivot<=9223372036854775807) (w:World) :
  Calls Tryz.prog 204 #[.int .u64 s,.int .i64 pivot] w fun e w'=>e=.returned (.tuple #[.int .i64 (oF s pivot).1,.int .i64 (oF s pivot).2])/\Oy [] w w':=by
 by_cases p1:pivot < -8000000000000000000
 ·have d1:decide (pivot < -8000000000000000000)=true:=decide_eq_true p1
  rw[show oF s pivot=(0,2) from by unfold oF;rw[if_pos (.inl p1)]];go_enter Tryz.func204,Tryz.ntmps204
  have OO:=aA (aR [] w);go_wp2;go_ret2;exact⟨rfl,OO.out⟩
 ·have d1:decide (pivot < -8000000000000000000)=false:=decide_eq_false p1
  by_cases p2:8000000000000000000<pivot
  ·have d2:decide (8000000000000000000<pivot)=true:=decide_eq_true p2
   rw[show oF s pivot=(0,2) from by unfold oF;rw[if_pos (.inr p2)]];go_enter Tryz.func204,Tryz.ntmps204
   have OO:=aA (aR [] w);go_wp2;go_ret2;exact⟨rfl,OO.out⟩
  ·have d2:decide (8000000000000000000<pivot)=false:=decide_eq_false p2
   have hne:¬ (pivot < -8000000000000000000\/8000000000000000000<pivot):=by omega
   have HE:Hid (oF s pivot=if (pivot / 1000000000+(FP s (mF pivot) / 4294967296+(fS pivot+FP s (mF pivot) % 4294967296) / 4294967296))*1000000000+nnS ((fS pivot+FP s (mF pivot) % 4294967296) % 4294967296) < -8000000000000000000\/8000000000000000000<(pivot / 1000000000+(FP s (mF pivot) / 4294967296+(fS pivot+FP s (mF pivot) % 4294967296) / 4294967296))*1000000000+nnS ((fS pivot+FP s (mF pivot) % 4294967296) % 4294967296) then (0,3) else ((pivot / 1000000000+(FP s (mF pivot) / 4294967296+(fS pivot+FP s (mF pivot) % 4294967296) / 4294967296))*1000000000+nnS ((fS pivot+FP s (mF pivot) % 4294967296) % 4294967296),0)):=aA (by unfold oF;rw[if_neg hne];rfl);generalize oF s pivot=res at HE |-;have HS:=aA (fun w'=>YF pivot (by omega) (by omega) w');have HO:=aA (fun w'=>nM pivot (by omega) (by omega) w');have HD:=aA (fun w'=>pDiff s (mF pivot) w');have hfb:=fS_bd pivot;have hdb:=dfS_bd s (mF pivot);generalize FP s (mF pivot)=d at HE HD hdb;generalize mF pivot=op at HO HD;generalize fS pivot=f at HE HS hfb;obtain⟨q,hq⟩:∃ q,pivot / 1000000000=q:=⟨_,rfl⟩;rw[hq] at HE HS;have hqb: -8000000000<=q/\q<=8000000000:=by omega
   have b1:=FB d;obtain⟨d0,hd0⟩:∃ d0,d % 4294967296=d0:=⟨_,rfl⟩;obtain⟨d1',hd1⟩:∃ d1,d / 4294967296=d1:=⟨_,rfl⟩;rw[hd0] at b1 HE;rw[hd1] at HE;have hd0b:0<=d0/\d0<=4294967295:=by omega
   have hd1b: -2147483648<=d1'/\d1'<=2147483647:=by omega
   obtain⟨lo,hlo⟩:∃ lo,f+d0=lo:=⟨_,rfl⟩;have r1:wrap .i64 (f+d0)=lo:=by rw[wrap_i64];omega
   rw[hlo] at HE;obtain⟨c,hc⟩:∃ c,lo / 4294967296=c:=⟨_,rfl⟩;have b2:=FB lo;obtain⟨l0,hl0⟩:∃ l0,lo % 4294967296=l0:=⟨_,rfl⟩;rw[hl0] at b2 HE;rw[hc] at HE;have hl0b:0<=l0/\l0<=4294967295:=by omega
   have hcb:0<=c/\c<=1:=by omega
   have r2:wrap .i64 (d1'+c)=d1'+c:=by rw[wrap_i64];omega
   obtain⟨sec,hsec⟩:∃ sec,q+(d1'+c)=sec:=⟨_,rfl⟩;have r3:wrap .i64 (q+(d1'+c))=sec:=by rw[wrap_i64];omega
   rw[hsec] at HE;have HN:=aA (fun w'=>pNanos l0 hl0b.1 hl0b.2 w');have hnb:=nnS_bd hl0b.1 hl0b.2;generalize nnS l0=nn at HE HN hnb;have HM:=aA (fun w'=>jH (fmul sec 1000000000 w' (by omega) (by omega) (by omega) (by omega)));clear hq hlo hd0 hl0 hsec hne;obtain⟨m,hm⟩:∃ m,sec*1000000000=m:=⟨_,rfl⟩;rw[hm] at HE HM;by_cases hin: -9223372036854775808<=m/\m<=9223372036854775807
   ·rw [gH hin.1 hin.2,gV hin.1 hin.2] at HM
    have HA:=aA (fun w'=>jH (fadd m nn w' hin.1 hin.2 (by omega) (by omega)));obtain⟨v,hv⟩:∃ v,m+nn=v:=⟨_,rfl⟩;rw[hv] at HE HA;by_cases hv2: -9223372036854775808<=v/\v<=9223372036854775807
    focus
     rw[gH hv2.1 hv2.2,gV hv2.1 hv2.2] at HA;by_cases v1:v < -8000000000000000000
     focus
      have e1:decide (v < -8000000000000000000)=true:=decide_eq_true v1;obtain rfl:res=(0,3):=by rw[HE.out,if_pos (.inl v1)]
     rotate_left
     focus
      have e1:decide (v < -8000000000000000000)=false:=decide_eq_false v1;by_cases v2:8000000000000000000<v
      focus
       have e2:decide (8000000000000000000<v)=true:=decide_eq_true v2;obtain rfl:res=(0,3):=by rw[HE.out,if_pos (.inr v2)]
      rotate_left
      focus
       have e2:decide (8000000000000000000<v)=false:=decide_eq_false v2;obtain rfl:res=(v,0):=by rw[HE.out,if_neg (by omega)]
      rotate_left
     rotate_left 2
    rotate_left 3
    focus
     rw[lM (by omega),kF (by omega)] at HA;obtain rfl:res=(0,3):=by rw[HE.out,if_pos (by omega)]
    rotate_left
    all_goals
     clear HE hm hv;go_enter Tryz.func204,Tryz.ntmps204
     have OO:=aA (aR [] w);go_wp2_with fail
     refine (HS.out _).mono ?_;rintro e w2 ⟨rfl,ho⟩;replace OO:=aA (OO.out.aB ho);clear ho;go_wp2_with fail
     refine (HO.out _).mono ?_;rintro e w3 ⟨rfl,ho⟩;replace OO:=aA (OO.out.aB ho);clear ho;go_wp2_with fail
     refine (HD.out _).mono ?_;rintro e w4 ⟨rfl,ho⟩;replace OO:=aA (OO.out.aB ho);clear ho;go_wp2_with fail
     refine (HM.out _).mono ?_;rintro e w5 ⟨rfl,ho⟩;replace OO:=aA (OO.out.aB ho);clear ho;go_wp2_with fail
     refine (HN.out _).mono ?_;rintro e w6 ⟨rfl,ho⟩;replace OO:=aA (OO.out.aB ho);clear ho;go_wp2_with fail
     refine (HA.out _).mono ?_;rintro e w7 ⟨rfl,ho⟩;replace OO:=aA (OO.out.aB ho);clear ho;go_wp2;go_ret2;exact⟨rfl,OO.out⟩
   ·rw[lM (by omega),kF (by omega)] at HM
    obtain rfl:res=(0,3):=by rw[HE.out,if_pos (by omega)]
    clear HE hm;go_enter Tryz.func204,Tryz.ntmps204
    have OO:=aA (aR [] w);go_wp2_with fail
    refine (HS.out _).mono ?_;rintro e w2 ⟨rfl,ho⟩;replace OO:=aA (OO.out.aB ho);clear ho;go_wp2_with fail
    refine (HO.out _).mono ?_;rintro e w3 ⟨rfl,ho⟩;replace OO:=aA (OO.out.aB ho);clear ho;go_wp2_with fail
    refine (HD.out _).mono ?_;rintro e w4 ⟨rfl,ho⟩;replace OO:=aA (OO.out.aB ho);clear ho;go_wp2_with fail
    refine (HM.out _).mono ?_;rintro e w5 ⟨rfl,ho⟩;replace OO:=aA (OO.out.aB ho);clear ho;go_wp2;go_ret2;exact⟨rfl,OO.out⟩
theorem BR (n:Int) (w:World) :
  Calls Tryz.prog 153 #[.int .i64 n] w fun e w'=>e=.returned (.bool (fQ n))/\Oy [] w w':=by
 by_cases h1:(-4503599627370496:Int)<=n
 focus
  have a1:decide ((-4503599627370496:Int)<=n)=true:=eY h1;obtain⟨r,hr⟩:∃ r,decide (n<=(4503599627370496:Int))=r:=⟨_,rfl⟩;rw[show fQ n=r from by unfold fQ bZ;rw[a1,hr];rfl]
 rotate_left
 focus
  have a1:decide ((-4503599627370496:Int)<=n)=false:=dL h1;rw[show fQ n=false from by unfold fQ bZ;rw[a1];rfl]
 rotate_left
 all_goals
  go_enter Tryz.func153,Tryz.ntmps153
  have OO:=aA (aR [] w);go_wp2;go_ret
  exact⟨rfl,OO.out⟩
theorem KD (s now:Int) (hn:fQ now=true) (w:World) :
  Calls Tryz.prog 268 #[.int .u64 s,.int .i64 now] w fun e w'=>e=.returned (.tuple #[.int .i64 (pY s now).1,.bool (pY s now).2])/\Oy [] w w':=by
 obtain⟨n0,n1⟩:=aY.1 (show fQ now=true from hn);have HE:Hid (pY s now=if (oF s (3900000000000000000+now)).2=0/\fQ ((oF s (3900000000000000000+now)).1-3900000000000000000)=true then ((oF s (3900000000000000000+now)).1-3900000000000000000,true) else (0,false)):=aA rfl;generalize pY s now=res at HE |-;obtain⟨pv,hpv⟩:∃ pv,3900000000000000000+now=pv:=⟨_,rfl⟩;have r1:wrap .i64 (3900000000000000000+now)=pv:=by rw[wrap_i64];omega
 rw[hpv] at HE;have HT:=aA (fun w'=>YC s pv (by omega) (by omega) w')
 have htb: -8000000000000000000<=(oF s pv).1/\(oF s pv).1<=8000000000000000000:=by
  unfold oF;split
  ·simp
  ·split
   ·simp
   ·simp only[];omega
 generalize oF s pv=tt at HE HT htb;obtain⟨tv,te⟩:=tt;dsimp only at HE HT htb;obtain⟨v,hv⟩:∃ v,tv-3900000000000000000=v:=⟨_,rfl⟩;have HI:Hid (-12000000000000000000<=v):=aA (by omega);rw[hv] at HE;clear hpv;by_cases hz:te=0
 ·subst hz
  obtain⟨u,hu⟩:∃ u,wrap .i64 (tv-3900000000000000000)=u:=⟨_,rfl⟩;have HR:=aA (fun w'=>BR u w')
  have hiu:fQ v=fQ u:=by
   have h2:u=v\/(fQ v=false/\fQ u=false):=by
    rw[wrap_i64] at hu;by_cases hlow:v < -9223372036854775808
    ·refine .inr ⟨?_,?_⟩
     ·unfold fQ;rw[oG];omega
     ·unfold fQ;rw[oG];omega
    ·exact .inl (by omega)
   rcases h2 with h2|h2
   ·rw[h2]
   ·rw[h2.1,h2.2]
  have hvu:fQ u=true->u=v:=by
   intro h;obtain⟨u0,u1⟩:=aY.1 (show fQ u=true from h);rw[wrap_i64] at hu;omega
  rw[hiu] at HE;generalize fQ u=b at HE HR hvu
  cases b
  focus
   obtain rfl:res=(0,false):=by have:=HE.out;simpa using this
  rotate_left
  focus
   obtain rfl:=hvu rfl;obtain rfl:res=(u,true):=by have:=HE.out;simpa using this
  rotate_left
  all_goals
   clear HE hvu hv;go_enter Tryz.func268,Tryz.ntmps268
   have OO:=aA (aR [] w);go_wp2_with fail
   refine (HT.out _).mono ?_;rintro e w2 ⟨rfl,ho⟩;replace OO:=aA (OO.out.aB ho);clear ho;go_wp2_with fail
   refine (HR.out _).mono ?_;rintro e w3 ⟨rfl,ho⟩;replace OO:=aA (OO.out.aB ho);clear ho;go_wp2;go_ret2;exact⟨rfl,OO.out⟩
 ·have q1:(te != 0)=true:=by simpa using hz
  obtain rfl:res=(0,false):=by rw[HE.out,if_neg (fun h=>hz h.1)]
  clear HE hv;go_enter Tryz.func268,Tryz.ntmps268
  have OO:=aA (aR [] w);go_wp2_with fail
  refine (HT.out _).mono ?_;rintro e w2 ⟨rfl,ho⟩;replace OO:=aA (OO.out.aB ho);clear ho;go_wp2;go_ret2;exact⟨rfl,OO.out⟩
end
section
open Go.RowKit
abbrev bE:Int->List Value:=fun z=>[.int .u8 z]
def PD (x size i:Nat):Int:=((x / 2 ^ (8*(size-1 - i)) % 256:Nat):Int)
def be (x size:Nat):List Int:=(List.range size).map (PD x size)
theorem gY (x size:Nat):(be x size).length=size:=by simp[be]
theorem TA (n:Nat) (w:World) (h1:1<=n) (h2:n<=8) :
  Calls Tryz.prog 216 #[.int .i64 n] w fun e w'=>e=.returned (.bool true)/\w=w':=by
 have d1:decide (1<=(n:Int))=true:=by simp;omega
 have d2:decide ((n:Int)<=8)=true:=by simp;omega
 go_enter Tryz.func216,Tryz.ntmps216
 go_wp2;go_ret
 exact⟨rfl,rfl⟩
theorem aU.cells1 {f:Int->Value} {w:World} {p:Option Addr} {n cap:Nat} {l:List Int} (h:aU (fun z=>[f z]) 1 w p n cap l) (hl:0<l.length) :
  ∃ ad,p=some ad/\∀ j v,(l.map f)[j]? = some v->w.cell? (ad.add j)=some v:=by
 obtain⟨b,off,hp,_,_⟩:=h.cell 0 l[0] (List.getElem?_eq_getElem hl);refine⟨_,hp,fun j v hv=>?_⟩;rw[List.getElem?_map] at hv;obtain⟨z,hz,rfl⟩:=Option.map_eq_some_iff.1 hv;obtain⟨b',off',hp',_,hc⟩:=h.cell j z hz;rw[hp'] at hp;simp only[Option.some.injEq,Addr.mk.injEq,and_true] at hp;obtain⟨rfl,rfl⟩:=hp;rw[addr_add];have:=hc 0 (f z) rfl;simpa using this
theorem TH {w:World} {g n:Nat} {l:List Int} {e:TypeId} (h:aO bE e 1 w g n l) (hn:l.length=n):∃ cur:List Value,w.heap[g]? = some (.cells cur.toArray e (0,0))/\cur=l.map (Value.int .u8):=by
 obtain⟨cur,hg,h1,h2,h3,h4⟩:=h
 have e1:l.flatMap bE=l.map (Value.int .u8):=by
  clear hg h1 h2 h3 h4 hn;induction l with
  | nil=>rfl
  | cons x l ih=>simp[List.flatMap_cons,bE,<-ih]
 refine⟨cur.toList,by simpa using hg,?_⟩;rw[<-e1,<-h4,List.take_of_length_le (by simp;omega)]
theorem GV {w:World} {g:Nat} {l:List Int} {e:TypeId} (h:w.heap[g]? = some (.cells (l.map (Value.int .u8)).toArray e (0,0))) (hm:l.length<=maxLen):aO bE e 1 w g l.length l:=by
 have e1:l.flatMap bE=l.map (Value.int .u8):=by
  clear h hm;induction l with
  | nil=>rfl
  | cons x l ih=>simp[List.flatMap_cons,bE,<-ih]
 exact⟨_,h,by simp,Nat.le_refl _,hm,by rw[e1,List.take_of_length_le (by simp)]⟩
theorem u6 {P:Program} {w:World} {ops:Array Oper} {rest:List Oper} {o:Oper} {a:Act} {Q:Exit->Act->World->Prop} (hgd:o.guard=none) (d s:Operand) (dT sT:TypeId)
  (ho:o.op=.call { callee:=.builtin .copy,args:=#[d,s],argTypes:=#[dT,sT] }) (elem:TypeId) (hu:P.underlying dT=some (.slice elem)) (hsz:(P.info? elem).map (·.size)=some 1)
  (g N cap:Nat) (p:Option Addr) (n scap:Nat) (hd:a.eval d=.slice (some ⟨g,0,none⟩) N cap) (hs:a.eval s=.slice p n scap)
  (old new:List Int) (hrow:aO bE elem 1 w g N old) (hold:old.length=N) (hv:aU bE 1 w p n scap new) (hle:n<=N)
  (h:∀ w',aO bE elem 1 w' g N (new ++ old.drop n)->Oy [g] w w'->w'.heap.size=w.heap.size->wpList P ops Q rest (a.put o.dst (goInt n)) w') :
  wpList P ops Q (o::rest) a w:=by
 by_cases h0:n=0
 ·subst h0
  have hn:new=[]:=List.eq_nil_of_length_eq_zero hv.len;subst hn;refine wpList_copy_nothing hgd d s dT sT ho elem hu hsz _ _ _ _ _ _ hd hs (by simp) ?_;exact h w (by simpa using hrow) (aR _ _) rfl
 ·have hlen:=hv.len
  obtain⟨ad,rfl,hc⟩:=hv.cells1 (f:=Value.int .u8) (by omega);obtain⟨cur,hg,hcur⟩:=TH hrow hold;have hm:N<=maxLen:=by obtain⟨_,_,_,_,h,_⟩:=hrow;exact h
  have hcl:cur.length=N:=by rw[hcur];simpa using hold
  refine wpList_copy_own hgd d s dT sT ho elem hu hsz g 0 N cap ad n scap hd hs cur.toArray elem hg (new.map (Value.int .u8)) (by rw[List.length_map,hlen];exact (Nat.min_eq_left hle).symm) hc (by simp[hlen];omega) (by intro v hv;obtain⟨z,_,rfl⟩:=List.mem_map.1 hv;rfl) ?_;have e1:(new.map (Value.int .u8)).length=n:=by simp[hlen]
  rw[e1]
  have e2:(cur.toArray.toList.take 0 ++ (new.map (Value.int .u8) ++ cur.toArray.toList.drop (0+n)))=(new ++ old.drop n).map (Value.int .u8):=by
   rw[hcur];simp
  rw[e2];refine h _ ?_ ⟨rfl,rfl,rfl,by simp[World.setRow],fun k _ hk=>setRow_other w g k _ (fun e=>hk (by simp[e]))⟩ (by simp[World.setRow]);have hl:(new ++ old.drop n).length=N:=by simp;omega
  have:=GV (l:=new ++ old.drop n) (setRow_heap w g cur.toArray _ elem _ hg) (by omega);rw[hl] at this;exact this
def AppRel (w:World) (bs:List Int) (x n size:Nat) (vi:Value) (wr:World):Prop:=
 ∃ k:Nat,k<=size/\vi=.int .i64 k/\aO bE 5 1 wr w.heap.size (n+size) (bs ++ ((be x size).take k ++ List.replicate (size-k) 0))/\Oy [] w wr
theorem app_list (bs b:List Int) (k size:Nat) (hb:b.length=size) (hk:k<size) (v:Int) (hv:b[k]? = some v) :
  (bs ++ (b.take k ++ List.replicate (size-k) 0)).set (bs.length+k) v=bs ++ (b.take (k+1) ++ List.replicate (size-(k+1)) 0):=by
 apply List.ext_getElem?
 intro j;obtain⟨m,hm⟩:∃ m,size-k=m+1:=⟨size-k - 1,by omega⟩;rw[hm,show size-(k+1)=m by omega,List.replicate_succ,List.set_append_right _ _ (by omega),Nat.add_sub_cancel_left,List.set_append_right _ _ (by simp;omega)];congr 2
 rw[List.take_add_one,hv];simp[hb,Nat.min_eq_left (Nat.le_of_lt hk)]
theorem beAt_get (x size k:Nat) (hk:k<size):(be x size)[k]? = some (PD x size k):=by simp[be,hk]
theorem app_cell {wr:World} {bs:List Int} {x n size k g:Nat} (h:aO bE 5 1 wr g (n+size) (bs ++ ((be x size).take k ++ List.replicate (size-k) 0))) (hn:bs.length=n) (hk:k<size) :
  wr.cell? ⟨g,n+k,none⟩=some (.int .u8 0):=by
 have hg:(bs ++ ((be x size).take k ++ List.replicate (size-k) 0))[n+k]? = some 0:=by
  have hl:((be x size).take k).length=k:=by simp[gY];omega
  rw[List.getElem?_append_right (by omega),List.getElem?_append_right (by omega),hn,hl,show n+k-n - k=0 by omega,List.getElem?_replicate,if_pos (by omega)]
 have:=aO.cell (s:=1) (enc:=bE) (fun _=>rfl) h (i:=n+k) (j:=0) (x:=(0:Int)) hg (by decide);simpa using this
theorem app_next {wr:World} {bs:List Int} {x n size k g:Nat} (h:aO bE 5 1 wr g (n+size) (bs ++ ((be x size).take k ++ List.replicate (size-k) 0))) (hn:bs.length=n) (hk:k<size) :
  aO bE 5 1 (wr.setCell ⟨g,n+k,none⟩ (.int .u8 (PD x size k))) g (n+size) (bs ++ ((be x size).take (k+1) ++ List.replicate (size-(k+1)) 0)):=by
 have h1:=aO.set1 (f:=Value.int .u8) h (i:=n+k) (by simp[gY];omega) (PD x size k);rw[<-hn,app_list bs (be x size) k size (gY x size) hk _ (beAt_get x size k hk),hn] at h1;exact h1
theorem info_u8:(Tryz.prog.info? 5).map (fun i=>(i.zero,i.size,i.bytes))=some (some (.int .u8 0),1,1):=by kernel_rfl
theorem wappend {w:World} {p:Option Addr} {n cap:Nat} {bs:List Int} (hv:aU bE 1 w p n cap bs) (x size:Nat) (h1:1<=size) (h2:size<=8) (hx:x<2 ^ (8*size)) (hn:n<=1000000) :
  Calls Tryz.prog 308 #[.slice p n cap,.int .u64 x,.int .i64 size] w fun e w' =>
   e=.returned (.tuple #[.slice (some ⟨w.heap.size,0,none⟩) (n+size) (n+size),.int .i64 0])/\aO bE 5 1 w' w.heap.size (n+size) (bs ++ be x size)/\Oy [] w w':=by
 obtain⟨i0,hi,hz0,hz1,hz2⟩:=info_parts info_u8;have HV:=aA hv;have hx64:x<18446744073709551616:=Nat.lt_of_lt_of_le hx (Nat.le_trans (Nat.pow_le_pow_right (by omega) (by omega:8*size<=64)) (by decide));have HX:=aA hx;have HL:=aA hv.len;clear hv hx
 have hsh:(x:Int) / 2 ^ (8*(size:Int)).toNat=0:=by
  rw[show (8*(size:Int)).toNat=8*size by omega];have:=Nat.div_eq_of_lt HX.out;have h3:((x / 2 ^ (8*size):Nat):Int)=0:=by rw[this];rfl
  rw[Int.natCast_ediv] at h3;simpa using h3
 go_enter Tryz.func308,Tryz.ntmps308
 go_wp2_with fail
 refine (TA size w h1 h2).mono ?_;rintro e w' ⟨rfl,rfl⟩;have hd8:decide ((size:Int)<8)=true\/decide ((size:Int)<8)=false:=by cases decide ((size:Int)<8)<;>simp
 rcases hd8 with d8|d8
 all_goals
  go_wp2_with (first|(at_make;refine wpList_make_row bE rfl _ _ 347 rfl 5 i0 (.int .u8 0) 1 1 Tryz.underlying347 hi hz0 hz1 hz2 (fun _=>rfl) 0 rfl .i64 .i64 _ _ (n+size) rfl rfl (by omega) (by omega) (by omega) (by simp[maxLen];omega) ?_;intro w3 hrow3 ho3 hs3)|(with_reducible refine u6 rfl (.tmp 27) (.tmp 28) 347 347 rfl 5 Tryz.underlying347 (by kernel_rfl) _ _ _ _ _ _ rfl rfl _ _ hrow3 (by simp) (HV.out.kept ho3) (by omega) ?_))
  intro w4 hrow4 ho4 hs4;have R4:Hid (aO bE 5 1 w4 w.heap.size (n+size) (bs ++ List.replicate size 0)):=aA (by simpa using hrow4);have O4:=aA (Oy.mono (S':=[]) (ho3.fB ho4) (by simp));have HI:=aA hi;have Z0:=aA hz0;have Z1:=aA hz1;have Z2:=aA hz2;clear hrow3 ho3 hs3 hrow4 ho4 hs4 hi hz0 hz1 hz2;go_wp2;go_loopw [9,31] (fun _ vi wr=>AppRel w bs x n size vi wr) (fun _ vi _=>size-(intOf vi).toNat)
  case atStart=>exact⟨0,by omega,rfl,by simpa using R4.out,O4.out⟩
  case round =>
   obtain⟨k,hk,rfl,hrow,ho⟩:=hrel;have RR:=aA hrow;have OO:=aA ho;clear hrow ho;by_cases hlt:k<size
   ·have hcell:wr.cell? ⟨w.heap.size,n+k,none⟩=some (.int .u8 0):=app_cell RR.out HL.out hlt
    have hfr:wr.frozen? ⟨w.heap.size,n+k,none⟩=false:=RR.out.frozen _;have hsz:w.heap.size<wr.heap.size:=RR.out.lt
    obtain⟨y,hy,hy8⟩:∃ y:Nat,(x:Int) / 2 ^ (8*((size:Int)-1 - (k:Int))).toNat=(y:Int)/\Hid (((y % 256:Nat):Int)=PD x size k):=by
     refine⟨x / 2 ^ (8*(size-1 - k)),?_,aA rfl⟩;rw[show (8*((size:Int)-1 - (k:Int))).toNat=8*(size-1 - k) by omega,Int.natCast_ediv];simp
    have hyw:wrap .u8 (y:Int)=((y % 256:Nat):Int):=by rw[IntKind.wrap_u8];simp
    have NX:=aA (app_next RR.out HL.out hlt);have b1:0<=8*((size:Int)-1 - (k:Int)):=by omega
    have b2:8*((size:Int)-1 - (k:Int))<=64:=by omega
    have b3:0<=(size:Int)-1 - (k:Int):=by omega
    go_wp2;go_roundw
    case rel=>exact⟨k+1,by omega,by go_num,by rw[show (y:Int) % 256=PD x size k from by rw[<-hy8.out];simp];exact NX.out,OO.out.setCell (.inr (Nat.le_refl _)) _⟩
    case measure=>simp[intOf];omega
   ·obtain rfl:k=size:=by omega
    go_wp2;go_ret2;refine⟨rfl,?_,OO.out⟩;have:=RR.out;simpa [List.take_of_length_le (Nat.le_of_eq (gY x k))] using this
end
section
open Go.RowKit
def D7 (z:Int):Bool:=bZ z 65 90
def kissS (x:Nat):ByteArray × Bool:=if (be x 4).all D7=true then (strOfNums (be x 4),true) else (⟨#[]⟩,false)
def CS (p:Np):ByteArray × Bool:=if p.strat=0 then kissS p.rid.toNat else (⟨#[]⟩,false)
theorem be_bd (x s:Nat):∀ z∈be x s,0<=z/\z<=255:=by
 intro z hz;unfold be at hz;obtain⟨i,_,rfl⟩:=List.mem_map.1 hz;unfold PD;omega
theorem pPut {w:World} {b:Nat} (x:Nat) (hx:x<4294967296) (hb:w.heap[b]? = some (.cells #[.int .u64 x,.int .u64 4] 25 (0,0))) :
  Calls Tryz.prog 295 #[.slice (some ⟨b,0,none⟩) 2 2] w fun e w'=>∃ g,e=.returned (.slice (some ⟨g,0,none⟩) 4 4)/\aO bE 5 1 w' g 4 (be x 4)/\Oy [] w w':=by
 have BB:=aA hb;have hlt:=aF hb;clear hb;go_enter Tryz.func295,Tryz.ntmps295
 go_wp2;go_loopw [3,4] (fun vb vi wr=>(vb=.slice none 0 0/\vi=.int .i64 0/\Oy [] w wr)\/(∃ g,vb=.slice (some ⟨g,0,none⟩) 4 4/\vi=.int .i64 2/\aO bE 5 1 wr g 4 (be x 4)/\Oy [] w wr)) (fun _ vi _=>2-(intOf vi).toNat)
 case atStart=>exact .inl ⟨rfl,rfl,aR _ _⟩
 case round =>
  rcases hrel with ⟨rfl,rfl,ho⟩|⟨g,rfl,rfl,hr,ho⟩
  ·have OO:=aA ho
   have k0:=aC (ho.got BB.out (by simp)) 0;have k1:=aC (ho.got BB.out (by simp)) 1;have lb:=aF (ho.got BB.out (by simp));have HA:=aA (fun w'=>wappend (w:=w') (p:=none) (n:=0) (cap:=0) (bs:=[]) (vB w') x 4 (by omega) (by omega) (by simpa using hx) (by omega));have hw1:wrap .i64 1=1:=by decide
   have hw4:wrap .i64 4=4:=by decide
   clear ho;go_wp2_with fail
   refine dG [0,1,2,3,4,5,6,7,8,9,10] [] (OnlyC ([]:List Nat) wr) (by kernel_rfl) (by kernel_rfl) ?_;simp only[bV];iterate 11 (refine aJ (fun K hK=>?_);go_simp;refine hK _ ?_;clear hK K)
   refine aK ?_;refine Rest.by (X:=Nat) (fun g a=>((((a.put (some 24) (.tuple #[.slice (some ⟨g,0,none⟩) 4 4,.int .i64 0])).put (some 12) (.tuple #[.slice (some ⟨g,0,none⟩) 4 4,.int .i64 0])).put (some 25) (.slice (some ⟨g,0,none⟩) 4 4)).put (some 26) (.int .i64 0)).put (some 3) (.slice (some ⟨g,0,none⟩) 4 4)) (fun g w'=>aO bE 5 1 w' g 4 (be x 4)/\Oy [] wr w') ?_ ?_
   rotate_left
   ·have O0:=aA (aR [] wr).drew
    refine aL [11] (by kernel_rfl) (by simp) (.inr (bC O0.out)) ?_;simp only[eD];refine aD rfl ?_;go_wp2_with fail
    refine (HA.out _).mono ?_;rintro e w3 ⟨rfl,hr3,ho3⟩;have R3:=aA hr3;replace O0:=aA (O0.out.aB ho3);clear hr3 ho3 HA k0 k1 lb;go_wp2;simp only[bA];refine aL [12] (by kernel_rfl) (by simp) (.inr (bC O0.out)) ?_;simp only[eD];refine aD rfl ?_;go_wp2;simp only[bA];refine aL [13,14] (by kernel_rfl) (by simp) (.inr (bC O0.out)) ?_;simp only[List.mem_cons,List.not_mem_nil,or_false,forall_eq_or_imp,forall_eq];refine⟨?_,?_⟩
    focus
     refine aD rfl ?_;go_wp2;simp only[bA];refine aL [14,15] (by kernel_rfl) (by simp) (.inr (bC O0.out)) ?_;simp only[List.mem_cons,List.not_mem_nil,or_false,forall_eq_or_imp,forall_eq];refine⟨?_,?_⟩
     focus
      refine aD rfl ?_;go_wp2;simp only[bA];refine aL [15] (by kernel_rfl) (by simp) (.inr (bC O0.out)) ?_
     rotate_left
     focus
      refine aD rfl ?_;go_wp2;simp only[bA];refine aL [14] (by kernel_rfl) (by simp) (.inr (bC O0.out)) ?_
     rotate_left
    rotate_left 2
    focus
     refine aD rfl ?_;go_wp2;simp only[bA];refine aL [13] (by kernel_rfl) (by simp) (.inr (bC O0.out)) ?_;simp only[eD];refine aD rfl ?_;go_wp2;simp only[bA];refine aL [15] (by kernel_rfl) (by simp) (.inr (bC O0.out)) ?_
    rotate_left
    all_goals
     simp only[eD];refine aD rfl ?_;go_wp2;simp only[bA];exact dX (by kernel_rfl) (.inr (bC O0.out)) ⟨wr.heap.size,by simp[Act.put],by simpa using R3.out,O0.out⟩
   rintro g w3 ⟨hr3,ho3⟩;simp only[Act.put,List.setIfInBounds_toArray,List.set_cons_succ,List.set_cons_zero];have R3:=aA hr3;have O3:=aA (OO.out.aB ho3);clear hr3 ho3 HA k0 k1 lb;go_wp2;go_roundw
   case rel=>exact .inr ⟨_,rfl,by go_num,by simpa using R3.out,O3.out⟩
   case measure=>first|(simp[intOf];done)|(simp[intOf];omega)
  ·have OO:=aA ho;have RR:=aA hr
   clear ho hr;go_wp2;go_ret
   exact⟨g,rfl,RR.out,OO.out⟩
theorem QS (xs:List Int) (hl:xs.length=4) (hb:∀ z∈xs,0<=z/\z<=255) (w:World) :
  Calls Tryz.prog 206 #[.string (strOfNums xs)] w fun e w'=>e=.returned (.bool (xs.all D7))/\Oy [] w w':=by
 have HG:Hid (∀ k (h:k<(strOfNums xs).size) (hk:k<xs.length),(((strOfNums xs)[k]).toNat:Int)=xs[k]):=aA (by
  intro k h hk;have hd:=strOfNums_data xs
  have h1:(strOfNums xs).data.toList[k]? = some ((strOfNums xs)[k]):=by
   rw[List.getElem?_eq_getElem (by rw[Array.length_toList];exact h)];rfl
  rw[hd,List.getElem?_map,List.getElem?_eq_getElem hk] at h1;simp only[Option.map_some,Option.some.injEq] at h1;rw[<-h1];have:=hb _ (List.getElem_mem hk);have h2:xs[k].toNat<256:=by omega
  have h3:(UInt8.ofNat xs[k].toNat).toNat=xs[k].toNat % 256:=rfl;rw[h3];omega)
 have hsz:(strOfNums xs).size=4:=by rw[strOfNums_size,hl]
 generalize strOfNums xs=S at HG hsz |-;have HL:=aA hl
 have HU:Hid (∀ k (hk:k<xs.length),(xs.take (k+1)).all D7=((xs.take k).all D7 && D7 xs[k])):=aA (by
  intro k hk;rw[List.take_succ_eq_append_getElem hk,List.all_append];simp)
 have HF:Hid (∀ k (hk:k<xs.length),D7 xs[k]=false->xs.all D7=false):=aA (by
  intro k hk h;rw[List.all_eq_false];exact⟨xs[k],List.getElem_mem hk,by simp[h]⟩)
 have HT:Hid ((xs.take 4).all D7=xs.all D7):=aA (by rw[List.take_of_length_le (by omega)]);have HB:=aA hb;clear hl hb;go_enter Tryz.func206,Tryz.ntmps206
 go_wp2_with fail
 go_loopw [9] (fun vi wr=>∃ k:Nat,k<=4/\vi=.int .i64 k/\(xs.take k).all D7=true/\Oy [] w wr) (fun vi _=>4-(intOf vi).toNat)
 case atStart=>exact⟨0,by omega,rfl,rfl,aR _ _⟩
 case round =>
  obtain⟨k,hk,rfl,hall,ho⟩:=hrel;have OO:=aA ho;have HA:=aA hall;clear ho hall;by_cases hlt:k<4
  ·have hkx:k<xs.length:=by rw[HL.out];exact hlt
   have hkS:k<S.size:=by rw[hsz];exact hlt
   have hg:=HG.out k hkS hkx;have hzb:=HB.out _ (List.getElem_mem hkx);have hu:=HU.out k hkx;rw[HA.out] at hu;have hf:=HF.out k hkx;generalize xs[k]=z at hg hzb hu hf;have HU2:=aA hu;have HF2:=aA hf;clear hu hf;by_cases h1:z<65
   ·have a1:decide (z<65)=true:=eY h1
    have HR:Hid (xs.all D7=false):=aA (HF2.out (by unfold D7;rw[oG];omega));go_wp2;go_ret
    exact⟨by rw[HR.out];rfl,OO.out⟩
   ·have a1:decide (z<65)=false:=dL h1
    by_cases h2:90<z
    ·have a2:decide (90<z)=true:=eY h2
     have HR:Hid (xs.all D7=false):=aA (HF2.out (by unfold D7;rw[oG];omega));go_wp2;go_ret
     exact⟨by rw[HR.out];rfl,OO.out⟩
    ·have a2:decide (90<z)=false:=dL h2
     have HN:Hid ((xs.take (k+1)).all D7=true):=aA (by rw[HU2.out,show D7 z=true from by unfold D7;rw[aY];omega];rfl);go_wp2;go_roundw
     case rel=>exact⟨k+1,by omega,by go_num,HN.out,OO.out⟩
     case measure=>first|(simp[intOf];done)|(simp[intOf];omega)
  ·obtain rfl:k=4:=by omega
   have HR:Hid (xs.all D7=true):=aA (by rw[<-HT.out];exact HA.out);go_wp2;go_ret
   exact⟨by rw[HR.out];rfl,OO.out⟩
theorem pKiss (p:Np) (hp:0<=p.rid/\p.rid<=4294967295) (w:World) :
  Calls Tryz.prog 266 #[iR p] w fun e w'=>e=.returned (.tuple #[.string (CS p).1,.bool (CS p).2])/\Oy [] w w':=by
 have HE:Hid (CS p=if p.strat=0 then kissS p.rid.toNat else (⟨#[]⟩,false)):=aA rfl;generalize CS p=res at HE |-;obtain⟨p1,p2,p3,p4,p5,p6,p7,p8,p9,pa,pb,pc,pd⟩:=p;dsimp only at hp HE;unfold iR;dsimp only;by_cases hz:p4=0
 ·subst hz
  obtain⟨x,rfl⟩:∃ x:Nat,p9=(x:Int):=⟨p9.toNat,by omega⟩;have hx:x<4294967296:=by omega
  have hxw:wrap .u64 (x:Int)=(x:Int):=by rw[wrap_u64];omega
  have HR:Hid (res=if (be x 4).all D7=true then (strOfNums (be x 4),true) else (⟨#[]⟩,false)):=aA (by rw[HE.out,if_pos rfl];rfl);have HI:=aA (fun w'=>QS (be x 4) (gY x 4) (be_bd x 4) w');have HP:=aA (fun (w':World) b hb=>pPut (w:=w') (b:=b) x hx hb);clear HE hp;generalize (be x 4).all D7=ok at HR HI;go_enter Tryz.func266,Tryz.ntmps266
  go_upto_region 1 with (fail)
  refine aG (G:=fun w0=>Code.wp _ _ _ _ w0) ?_;intro w1 hb1 ho1 hs1;have B1:=aA hb1;have OO:=aA ho1;clear hb1 ho1 hs1;have k3:=aC B1.out 3;have k8:=aC B1.out 8;have l1:=aF B1.out;go_wp2_with fail
  refine aG (G:=fun w0=>Calls _ _ _ w0 _) ?_;intro w2 hb2 ho2 hs2;have O2:=aA (OO.out.aB ho2);refine (HP.out w2 _ hb2).mono ?_;rintro e w3 ⟨g,rfl,hr,ho3⟩;have O3:=aA (O2.out.aB ho3)
  have CV:=aA (run_convert_bytes_arg (P:=Tryz.prog) w3 347 5 Tryz.underlying347 Tryz.underlying5 g 0 4 4 (be x 4) (gY x 4) (fun i hi=>by
   obtain⟨b',off,hp',_,hc⟩:=(aO.dI (enc:=bE) (s:=1) (fun _=>rfl) hr (gY x 4).symm).cell i (be x 4)[i] (List.getElem?_eq_getElem (by rw[gY];exact hi));simp only[Option.some.injEq,Addr.mk.injEq,and_true] at hp';obtain⟨rfl,rfl⟩:=hp';have:=hc 0 _ rfl;simp only[Nat.mul_one,Nat.add_zero] at this;rw[this,List.getD_eq_getElem?_getD,List.getElem?_eq_getElem (by rw[gY];exact hi)];rfl) 9 Tryz.underlying9)
  have cv:=CV.out;clear hb2 ho2 hs2 hr ho3 HP O2 k3 k8 l1;generalize strOfNums (be x 4)=S at HR HI cv;go_wp2_with fail
  refine (HI.out w3).mono ?_;rintro e w4 ⟨rfl,ho4⟩;have O4:=aA (O3.out.aB ho4);clear ho4 HI cv CV
  cases ok
  ·obtain rfl:res=(⟨#[]⟩,false):=by have:=HR.out;simpa using this
   go_wp2;go_ret2;exact⟨rfl,O4.out⟩
  ·obtain rfl:res=(S,true):=by have:=HR.out;simpa using this
   go_wp2;go_ret2;exact⟨rfl,O4.out⟩
 ·have q1:(p4 != 0)=true:=by simpa using hz
  obtain rfl:res=(⟨#[]⟩,false):=by rw[HE.out,if_neg hz]
  clear HE;go_enter Tryz.func266,Tryz.ntmps266
  go_upto_region 1 with (fail)
  refine aG (G:=fun w0=>Code.wp _ _ _ _ w0) ?_;intro w1 hb1 ho1 hs1;have B1:=aA hb1;have OO:=aA ho1;clear hb1 ho1 hs1;have k3:=aC B1.out 3;have l1:=aF B1.out;go_wp2;go_ret2;exact⟨rfl,OO.out⟩
end
section
open Go.RowKit
structure As where
 ver:Int
 t1:Int
 nonce:Int
 pend:Bool
 xmt:Int
deriving DecidableEq,Inhabited
structure Hd where
 kind:Int
 code:ByteArray
 q:Qd
def JL (h:Hd):Value:=.agg #[.int .i64 h.kind,.string h.code,.int .i64 h.q.t1,.int .i64 h.q.t2,.int .i64 h.q.t3,.int .i64 h.q.t4]
def MJ (k:Int):Hd:=⟨k,⟨#[]⟩,⟨0,0,0,0⟩⟩
def uW (w:World) (b:Nat) (a:As):Prop:=∃ c0 c1 c2 c3 c4 c5 c6 c7:Int,w.heap[b]? = some (.cells #[.int .i64 a.ver,.int .i64 a.t1,.int .u64 a.nonce,.bool a.pend,.int .u64 a.xmt,.int .i64 c0,.int .i64 c1,.int .i64 c2,.int .i64 c3,.int .i64 c4,.int .i64 c5,.int .i64 c6,.int .i64 c7] 220 (0,0))
theorem uW.kept {w w':World} {b:Nat} {a:As} {S:List Nat} (h:uW w b a) (ho:Oy S w w') (hS:b ∉ S):uW w' b a:=by
 obtain⟨c0,c1,c2,c3,c4,c5,c6,c7,h⟩:=h;exact⟨c0,c1,c2,c3,c4,c5,c6,c7,ho.got h hS⟩
theorem uW.lt {w:World} {b:Nat} {a:As} (h:uW w b a):b<w.heap.size:=by
 obtain⟨c0,c1,c2,c3,c4,c5,c6,c7,h⟩:=h;exact aF h
def l9 (a:As) (now nonce:Int):Np × Int × As:=
 if fQ now=true then (if nonce=0 then (zA,2,a) else if nonce=a.nonce then (zA,10,a) else ({ zA with ver:=a.ver,mode:=3,xmt:=nonce },0,{ a with t1:=now,nonce:=nonce,pend:=true })) else (zA,3,a)
def zH (a:As) (p:Np) (now:Int):Option Int:=
 if qX p=0/\p.mode=4/\fQ now=true/\¬ ((a.t1≠0\/a.nonce≠0)/\now<a.t1) then (if a.pend=true then (if p.org=a.nonce then (if p.xmt≠0/\p.xmt=a.xmt then some 3 else none) else some 2) else some 1) else some 0
def DX (a:As) (p:Np) (now:Int):Hd:=
 if (CS p).2=true then ⟨4,(CS p).1,⟨0,0,0,0⟩⟩ else if yG p=true then
  (if (pY p.rcv now).2=true/\(pY p.xmt now).2=true/\¬ (pY p.xmt now).1<(pY p.rcv now).1 then ⟨7,⟨#[]⟩,⟨a.t1,(pY p.rcv now).1,(pY p.xmt now).1,now⟩⟩ else MJ 6) else MJ 5
def jV (a:As) (p:Np) (now:Int):Hd × As:=match zH a p now with
 | some k=>(MJ k,a)
 | none=>(DX a p now,{ a with pend:=false,xmt:=p.xmt })
def VY:As:=⟨4,0,0,false,0⟩
theorem pANew (w:World):Calls Tryz.prog 67 #[.int .i64 4] w fun e w'=>e=.returned (.pointer (some ⟨w.heap.size,0,none⟩))/\uW w' w.heap.size VY/\Oy [] w w':=by
 go_enter Tryz.func67,Tryz.ntmps67
 have OO:=aA (aR [] w);go_wp2;refine aG (G:=fun w0=>bodyPost _ _ _ _ _ w0) ?_;intro w1 hb ho hs;go_ret
 exact⟨rfl,⟨0,0,0,0,0,0,0,0,hb⟩,ho⟩
set_option synthInstance.maxSize 2000 in
set_option synthInstance.maxHeartbeats 400000 in
theorem pASend {w:World} {b:Nat} {a:As} (ha:uW w b a) (now n:Int) :
  Calls Tryz.prog 149 #[.pointer (some ⟨b,0,none⟩),.int .i64 now,.int .u64 n] w fun e w'=>e=.returned (.tuple #[iR (l9 a now n).1,.int .i64 (l9 a now n).2.1])/\uW w' b (l9 a now n).2.2/\Oy [b] w w':=by
 obtain⟨c0,c1,c2,c3,c4,c5,c6,c7,hA⟩:=ha;obtain⟨ver,t1,nonce,pend,xmt⟩:=a;dsimp only at hA;have HI:=aA (fun w'=>BR now w');obtain⟨res,HE⟩:∃ zz,Hid (l9 ⟨ver,t1,nonce,pend,xmt⟩ now n=zz):=⟨_,aA rfl⟩;rw[HE.out];unfold l9 at HE;unfold iR;dsimp only at HE |-;generalize fQ now=it at HI HE
 cases it
 focus
  rw[if_neg (by decide)] at HE
 rotate_left 1
 focus
  rw[if_pos rfl] at HE;by_cases hz:n=0
  focus
   subst hz;rw[if_pos rfl] at HE
  rotate_left 1
  focus
   rw[if_neg hz] at HE;have d0:(n == 0)=false:=by simpa using hz
   by_cases hq:n=nonce
   focus
    subst hq;rw[if_pos rfl] at HE
   rotate_left 1
   focus
    rw[if_neg hq] at HE;have d1:(n == nonce)=false:=by simpa using hq
 all_goals
  obtain rfl:=HE.out;clear HE;have m:=kV hA;have k:=m.zK;clear hA;go_enter Tryz.func149,Tryz.ntmps149
  go_wp2_with (first|((with_reducible first|refine cM (HI.out _) ?_|refine wU ?_);clear k m;intro w m k)|((with_reducible refine lE (fun w o g k K hK=>⟨rfl,?_⟩));simp[results,Tryz.results149,go_sem,k];refine hK _ ?_;exact⟨rfl,⟨_,_,_,_,_,_,_,_,Has.h w g⟩,o⟩))
end
section
open Go.RowKit
@[go_sem ↓] theorem req_neq (t n:Int) (w:World):(binOp .neq 217 (.agg #[.int .i64 t,.int .u64 n]) (.agg #[.int .i64 0,.int .u64 0])).run Tryz.prog w=.ok (.bool (!(t == 0 && n == 0))) w:=by
 by_cases h1:t=0
 ·by_cases h2:n=0
  ·simp[go_sem,h1,h2]
  ·simp[go_sem,h1,h2]
 ·simp[go_sem,h1]
def XT:Option Int->Value
 | some k=>.tuple #[JL (MJ k),.bool true]
 | none=>.tuple #[JL (MJ 0),.bool false]
theorem pRefuse {w:World} {b:Nat} {a:As} (ha:uW w b a) (p:Np) (now:Int)  :
  Calls Tryz.prog 242 #[.pointer (some ⟨b,0,none⟩),iR p,.int .i64 now] w fun e w'=>e=.returned (XT (zH a p now))/\Oy [] w w':=by
 obtain⟨c0,c1,c2,c3,c4,c5,c6,c7,hA⟩:=ha;obtain⟨ver,t1,nonce,pend,xmt⟩:=a;obtain⟨p1,p2,p3,p4,p5,p6,p7,p8,p9,pa,pb,pc,pd⟩:=p;dsimp only at hA;have HC:=aA (YO ⟨p1,p2,p3,p4,p5,p6,p7,p8,p9,pa,pb,pc,pd⟩);have HT:=aA (BR now);obtain⟨res,HE⟩:∃ r,Hid (zH ⟨ver,t1,nonce,pend,xmt⟩ ⟨p1,p2,p3,p4,p5,p6,p7,p8,p9,pa,pb,pc,pd⟩ now=r):=⟨_,aA rfl⟩;rw[HE.out];unfold zH at HE;dsimp only at HE;generalize qX ⟨p1,p2,p3,p4,p5,p6,p7,p8,p9,pa,pb,pc,pd⟩=er at HC HE;generalize fQ now=tn at HT HE;unfold iR at HC |-;dsimp only at HC |-;have m:=iX hA;have k:=m.zK;clear hA;go_enter Tryz.func242,Tryz.ntmps242
 go_wp2_with (first|((with_reducible first|refine cM (HC.out _) ?_|refine cM (HT.out _) ?_|refine wU ?_);clear k m;intro w m k)|((with_reducible refine iY (id:=6) [0,1,2,3,4,5,6,7,8] [] ?_);simp only[bV];(repeat' (first|go_big_quiet_step (first|exact gX (HC.out _)|exact gX (HT.out _))|(refine wpQuiet_step (fun K hK=>?_);go_simp;(first|(refine hK _ ?_;clear hK K)|(split<;>(refine hK _ ?_;clear hK K))))));all_goals (refine wpQuiet_nil ?_;clear k m;intro w m k))|((with_reducible refine iY (id:=8) [0,1,2,3,4,5,6,7,8,9,10,11,12] [] ?_);simp only[bV];(repeat' (first|go_big_quiet_step (first|exact gX (HC.out _)|exact gX (HT.out _))|(refine wpQuiet_step (fun K hK=>?_);go_simp;(first|(refine hK _ ?_;clear hK K)|(split<;>(refine hK _ ?_;clear hK K))))));all_goals (refine wpQuiet_nil ?_;clear k m;intro w m k))|((with_reducible refine lF (fun w k=>⟨rfl,?_⟩));rw[<-HE.out];simp[results,Tryz.results242,go_sem,k]))
 all_goals first|rfl|(clear k m;go_tidy;grind [XT,JL,MJ])|trace_state
theorem pAccept {w:World} {b:Nat} {ver t1 nonce xmt c0 c1 c2 c3 c4 c5 c6 c7:Int} {pend:Bool} (hA:w.heap[b]? = some (.cells #[.int .i64 ver,.int .i64 t1,.int .u64 nonce,.bool pend,.int .u64 xmt,.int .i64 c0,.int .i64 c1,.int .i64 c2,.int .i64 c3,.int .i64 c4,.int .i64 c5,.int .i64 c6,.int .i64 c7] 220 (0,0))) (p:Np) (now:Int) (hp:fA p) (hn:fQ now=true)  :
  Calls Tryz.prog 243 #[.pointer (some ⟨b,0,none⟩),iR p,.int .i64 now] w fun e w'=>e=.returned (JL (DX ⟨ver,t1,nonce,pend,xmt⟩ p now))/\w'.heap[b]? = some (.cells #[.int .i64 ver,.int .i64 t1,.int .u64 nonce,.bool false,.int .u64 p.xmt,.int .i64 c0,.int .i64 c1,.int .i64 c2,.int .i64 c3,.int .i64 c4,.int .i64 c5,.int .i64 c6,.int .i64 c7] 220 (0,0))/\Oy [b] w w':=by
 have HK:=aA (pKiss p hp.2.2.1);have HY:=aA (YN p);have HI2:=aA (KD p.rcv now hn);have HI3:=aA (KD p.xmt now hn);obtain⟨res,HE⟩:∃ r,Hid (DX ⟨ver,t1,nonce,pend,xmt⟩ p now=r):=⟨_,aA rfl⟩;rw[HE.out];unfold DX at HE;generalize CS p=kk at HK HE;generalize yG p=sy at HY HE;generalize pY p.rcv now=i2 at HI2 HE;generalize pY p.xmt now=i3 at HI3 HE;obtain⟨ks,kb⟩:=kk;obtain⟨v2,o2⟩:=i2;obtain⟨v3,o3⟩:=i3;obtain⟨p1,p2,p3,p4,p5,p6,p7,p8,p9,pa,pb,pc,pd⟩:=p;unfold iR at HK HY |-;dsimp only at HK HY HI2 HI3 HE |-;clear hp hn;have m:=kV hA;have k:=m.zK;clear hA;go_enter Tryz.func243,Tryz.ntmps243
 go_wp2_with (first|((with_reducible first|refine cM (HK.out _) ?_|refine cM (HY.out _) ?_|refine cM (HI2.out _) ?_|refine cM (HI3.out _) ?_|refine wU ?_);clear k m;intro w m k)|((with_reducible refine lG (fun w g=>Has.h w g) (fun w k=>⟨rfl,?_⟩));rw[<-HE.out];simp[results,Tryz.results243,go_sem,k]))
 all_goals first|rfl|(clear k m;go_tidy;grind [XT,JL,MJ])|trace_state
end
section
open Go.RowKit
theorem acc_kind (a:As) (p:Np) (now:Int):(DX a p now).kind=4\/(DX a p now).kind=5\/(DX a p now).kind=6\/(DX a p now).kind=7:=by
 unfold DX MJ;split
 ·simp
 ·split
  ·split<;>simp
  ·simp
theorem XR {a:As} {p:Np} {now k:Int} (h:zH a p now=some k):k=0\/k=1\/k=2\/k=3:=by
 unfold zH at h;split at h
 ·split at h
  ·split at h
   ·split at h
    ·simp only[Option.some.injEq] at h;omega
    ·cases h
   ·simp only[Option.some.injEq] at h;omega
  ·simp only[Option.some.injEq] at h;omega
 ·simp only[Option.some.injEq] at h;omega
theorem XQ {a:As} {p:Np} {now:Int} (h:zH a p now=none):fQ now=true:=by
 unfold zH at h;split at h
 ·rename_i hh;exact hh.2.2.1
 ·cases h
theorem pARecv {w:World} {b:Nat} {a:As} (ha:uW w b a) (p:Np) (now:Int) (hp:fA p) :
  Calls Tryz.prog 233 #[.pointer (some ⟨b,0,none⟩),iR p,.int .i64 now] w fun e w'=>e=.returned (JL (jV a p now).1)/\uW w' b (jV a p now).2/\Oy [b] w w':=by
 obtain⟨c0,c1,c2,c3,c4,c5,c6,c7,hA⟩:=ha;obtain⟨ver,t1,nonce,pend,xmt⟩:=a;dsimp only at hA;have HR:=aA (fun (w':World) (h:w'.heap[b]? = some (.cells #[.int .i64 ver,.int .i64 t1,.int .u64 nonce,.bool pend,.int .u64 xmt,.int .i64 c0,.int .i64 c1,.int .i64 c2,.int .i64 c3,.int .i64 c4,.int .i64 c5,.int .i64 c6,.int .i64 c7] 220 (0,0)))=>pRefuse (a:=⟨ver,t1,nonce,pend,xmt⟩) ⟨c0,c1,c2,c3,c4,c5,c6,c7,h⟩ p now)
 have HE:Hid (jV ⟨ver,t1,nonce,pend,xmt⟩ p now=match zH ⟨ver,t1,nonce,pend,xmt⟩ p now with
  | some k=>(MJ k,⟨ver,t1,nonce,pend,xmt⟩)
  | none=>(DX ⟨ver,t1,nonce,pend,xmt⟩ p now,{ (⟨ver,t1,nonce,pend,xmt⟩:As) with pend:=false,xmt:=p.xmt })):=aA rfl
 rw[HE.out];clear HE
 cases hr:zH ⟨ver,t1,nonce,pend,xmt⟩ p now with
 | some kk =>
  rw[hr] at HR;have hk:=XR hr;clear hr hp;obtain⟨p1,p2,p3,p4,p5,p6,p7,p8,p9,pa,pb,pc,pd⟩:=p;unfold iR XT MJ JL at HR;unfold iR MJ JL;dsimp only at HR |-;rcases hk with rfl|rfl|rfl|rfl
  all_goals
   have m:=kV hA;have k:=m.zK;clear hA;go_enter Tryz.func233,Tryz.ntmps233
   go_wp2_with (first|((with_reducible first|refine cM (HR.out _ gB) ?_|refine wU ?_);clear k m;intro w m k)|((with_reducible refine iY (id:=6) [0,1,2,3,4,5,6,7,8,9,10] [11] ?_);simp only[bV];(repeat' (first|go_big_quiet_step (fail)|(refine wpQuiet_step (fun K hK=>?_);go_simp;(first|(refine hK _ ?_;clear hK K)|(split<;>(refine hK _ ?_;clear hK K))))));all_goals (refine wpQuiet_nil ?_;clear k m;intro w m k))|((with_reducible refine lE (fun w o g k K hK=>⟨rfl,?_⟩));simp[results,Tryz.results233,go_sem,k];refine hK _ ?_;exact⟨rfl,⟨_,_,_,_,_,_,_,_,Has.h w g⟩,o⟩))
 | none =>
  rw[hr] at HR;have hn:=XQ hr;have hk:=acc_kind ⟨ver,t1,nonce,pend,xmt⟩ p now;have HAc:=aA (fun (w':World) (h:w'.heap[b]? = some (.cells #[.int .i64 ver,.int .i64 t1,.int .u64 nonce,.bool pend,.int .u64 xmt,.int .i64 c0,.int .i64 c1,.int .i64 c2,.int .i64 c3,.int .i64 c4,.int .i64 c5,.int .i64 c6,.int .i64 c7] 220 (0,0)))=>pAccept h p now hp hn);clear hr hp hn;generalize DX ⟨ver,t1,nonce,pend,xmt⟩ p now=ac at HAc hk |-;obtain⟨ak,akc,⟨q1,q2,q3,q4⟩⟩:=ac;obtain⟨p1,p2,p3,p4,p5,p6,p7,p8,p9,pa,pb,pc,pd⟩:=p;unfold iR XT MJ JL at HR;unfold iR JL at HAc;unfold iR JL;dsimp only at HR HAc hk |-;rcases hk with rfl|rfl|rfl|rfl
  all_goals
   have m:=kV hA;have k:=m.zK;clear hA;go_enter Tryz.func233,Tryz.ntmps233
   go_wp2_with (first|((with_reducible first|refine cM (HR.out _ gB) ?_|refine cP (HAc.out _ gB) ?_|refine wU ?_);clear k m;intro w m k)|((with_reducible refine iY (id:=6) [0,1,2,3,4,5,6,7,8,9,10] [11] ?_);simp only[bV];(repeat' (first|go_big_quiet_step (fail)|(refine wpQuiet_step (fun K hK=>?_);go_simp;(first|(refine hK _ ?_;clear hK K)|(split<;>(refine hK _ ?_;clear hK K))))));all_goals (refine wpQuiet_nil ?_;clear k m;intro w m k))|((with_reducible refine lE (fun w o g k K hK=>⟨rfl,?_⟩));simp[results,Tryz.results233,go_sem,k];refine hK _ ?_;exact⟨rfl,⟨_,_,_,_,_,_,_,_,Has.h w g⟩,o⟩))
end
section
open Go.RowKit
structure Ck where
 raw:Int
 time:Int
 ppb:Int
 steps:Int
deriving DecidableEq,Inhabited
def kT (w:World) (b:Nat) (c:Ck):Prop:=w.heap[b]? = some (.cells #[.int .i64 c.raw,.int .i64 c.time,.int .i64 c.ppb,.int .i64 0,.int .i64 0,.int .i64 c.steps] 245 (0,0))
structure jE (c:Ck):Prop where
 r0: -4503599627370496<=c.raw
 r1:c.raw<=4503599627370496
 t0: -4503599627370496<=c.time
 t1:c.time<=4503599627370496
 p0: -500000<=c.ppb
 p1:c.ppb<=500000
 s0:0<=c.steps
 s1:c.steps<=9223372036854775807
def gD (c:Ck) (raw:Int):Int:=c.time+(raw-c.raw)+(raw-c.raw)*c.ppb / 1000000000
def eP (c:Ck) (raw:Int):Int × Int:=if raw<c.raw then (0,12) else if 4503599627370496<raw then (0,3) else if fQ (gD c raw)=true then (gD c raw,0) else (0,3)
theorem QG {e ppb:Int} (h0:0<=e) (h1:e<=9007199254740992) (h2: -500000<=ppb) (h3:ppb<=500000): -9007199254740992<=e*ppb / 1000000000/\e*ppb / 1000000000<=9007199254740992:=by
 constructor
 ·rw[Int.le_ediv_iff_mul_le (by omega)]
  have:=Int.mul_le_mul_of_nonneg_left (a:=-500000) (b:=ppb) (c:=e) h2 h0;omega
 ·refine Int.ediv_le_of_le_mul (by omega) ?_
  have:=Int.mul_le_mul_of_nonneg_left (a:=ppb) (b:=500000) (c:=e) h3 h0;omega
theorem jS (n m:Int) (h0:0<=m) (hm:m<=9223372036854775807) (w:World) :
  Calls Tryz.prog 112 #[.int .i64 n,.int .i64 m] w fun e w'=>e=.returned (.bool (bZ n (-m) m))/\Oy [] w w':=by
 have r1:wrap .i64 (-m)= -m:=by rw[wrap_i64];omega
 by_cases h1: -m<=n
 focus
  have a1:decide (-m<=n)=true:=eY h1;obtain⟨r,hr⟩:∃ r,decide (n<=m)=r:=⟨_,rfl⟩;rw[show bZ n (-m) m=r from by unfold bZ;rw[a1,hr];rfl]
 rotate_left
 focus
  have a1:decide (-m<=n)=false:=dL h1;rw[show bZ n (-m) m=false from by unfold bZ;rw[a1];rfl]
 rotate_left
 all_goals
  go_enter Tryz.func112,Tryz.ntmps112
  have OO:=aA (aR [] w);go_wp2;go_ret
  exact⟨rfl,OO.out⟩
theorem pCValid (raw time:Int) (w:World) :
  Calls Tryz.prog 96 #[.agg #[.int .i64 raw,.int .i64 time,.int .i64 0,.int .i64 0,.int .i64 0,.int .i64 0]] w fun e w'=>e=.returned (.bool (fQ raw && fQ time))/\Oy [] w w':=by
 have H1:=aA (fun w'=>jS raw 4503599627370496 (by omega) (by omega) w');have H2:=aA (fun w'=>jS time 4503599627370496 (by omega) (by omega) w');have H3:=aA (fun w'=>jS 0 4503599627370496 (by omega) (by omega) w');have H4:=aA (fun w'=>jS 0 500000 (by omega) (by omega) w');rw[show bZ 0 (-4503599627370496) 4503599627370496=true from by rw[aY];omega] at H3;rw[show bZ 0 (-500000) 500000=true from by rw[aY];omega] at H4;unfold fQ;generalize bZ raw (-4503599627370496) 4503599627370496=x1 at H1 |-;generalize bZ time (-4503599627370496) 4503599627370496=x2 at H2 |-
 cases x1
 focus
  go_enter Tryz.func96,Tryz.ntmps96
  go_upto_region 1 with (fail)
  refine aG (G:=fun w0=>Code.wp _ _ _ _ w0) ?_;intro w1 hb1 ho1 hs1;obtain⟨b1,hbe1⟩:∃ b,w.heap.size=b:=⟨_,rfl⟩;rw[hbe1] at hb1;rw[hbe1];have HN:Hid (w.heap.size<=b1):=aA (by omega);have B1:=aA hb1;have OO:=aA ho1;clear hb1 hs1 hbe1;clear ho1;have k1:=FU B1.out;go_wp2_with fail
  refine (H1.out _).mono ?_;rintro e w2 ⟨rfl,ho⟩
 rotate_left
 focus
  cases x2
  focus
   go_enter Tryz.func96,Tryz.ntmps96
   go_upto_region 1 with (fail)
   refine aG (G:=fun w0=>Code.wp _ _ _ _ w0) ?_;intro w1 hb1 ho1 hs1;obtain⟨b1,hbe1⟩:∃ b,w.heap.size=b:=⟨_,rfl⟩;rw[hbe1] at hb1;rw[hbe1];have HN:Hid (w.heap.size<=b1):=aA (by omega);have B1:=aA hb1;have OO:=aA ho1;clear hb1 hs1 hbe1;clear ho1;have k1:=FU B1.out;go_wp2_with fail
   refine (H1.out _).mono ?_;rintro e w2 ⟨rfl,ho⟩;clear k1;replace OO:=aA (OO.out.aB ho);replace B1:=aA (ho.got B1.out (by simp));clear ho;have k1:=FU B1.out;go_wp2_with fail
   refine (H2.out _).mono ?_;rintro e w3 ⟨rfl,ho⟩
  rotate_left
  focus
   go_enter Tryz.func96,Tryz.ntmps96
   go_upto_region 1 with (fail)
   refine aG (G:=fun w0=>Code.wp _ _ _ _ w0) ?_;intro w1 hb1 ho1 hs1;obtain⟨b1,hbe1⟩:∃ b,w.heap.size=b:=⟨_,rfl⟩;rw[hbe1] at hb1;rw[hbe1];have HN:Hid (w.heap.size<=b1):=aA (by omega);have B1:=aA hb1;have OO:=aA ho1;clear hb1 hs1 hbe1;clear ho1;have k1:=FU B1.out;go_wp2_with fail
   refine (H1.out _).mono ?_;rintro e w2 ⟨rfl,ho⟩;clear k1;replace OO:=aA (OO.out.aB ho);replace B1:=aA (ho.got B1.out (by simp));clear ho;have k1:=FU B1.out;go_wp2_with fail
   refine (H2.out _).mono ?_;rintro e w3 ⟨rfl,ho⟩;clear k1;replace OO:=aA (OO.out.aB ho);replace B1:=aA (ho.got B1.out (by simp));clear ho;have k1:=FU B1.out;go_wp2_with fail
   refine (H3.out _).mono ?_;rintro e w4 ⟨rfl,ho⟩;clear k1;replace OO:=aA (OO.out.aB ho);replace B1:=aA (ho.got B1.out (by simp));clear ho;have k1:=FU B1.out;go_wp2_with fail
   refine (H4.out _).mono ?_;rintro e w5 ⟨rfl,ho⟩
  rotate_left
 rotate_left 2
 all_goals
  clear k1;replace OO:=aA (OO.out.aB ho);replace B1:=aA (ho.got B1.out (by simp));clear ho;have k1:=FU B1.out;go_wp2;go_ret
  exact⟨rfl,OO.out⟩
def CNewR (w0:World) (raw time:Int) (e:Ending) (w:World):Prop:=
 ((fQ raw && fQ time)=false/\e=.returned (.pointer none))\/((fQ raw && fQ time)=true/\∃ b,e=.returned (.pointer (some ⟨b,0,none⟩))/\w0.heap.size<=b/\kT w b ⟨raw,time,0,0⟩)
theorem pCOf (raw time:Int) (w:World) :
  Calls Tryz.prog 82 #[.agg #[.int .i64 raw,.int .i64 time,.int .i64 0,.int .i64 0,.int .i64 0,.int .i64 0]] w fun e w'=>CNewR w raw time e w'/\Oy [] w w':=by
 unfold CNewR;have HV:=aA (fun w'=>pCValid raw time w');generalize (fQ raw && fQ time)=ok at HV |-
 cases ok
 ·go_enter Tryz.func82,Tryz.ntmps82
  go_upto_region 1 with (fail)
  refine aG (G:=fun w0=>Code.wp _ _ _ _ w0) ?_;intro w1 hb1 ho1 hs1;obtain⟨b1,hbe1⟩:∃ b,w.heap.size=b:=⟨_,rfl⟩;rw[hbe1] at hb1;rw[hbe1];have HN:Hid (w.heap.size<=b1):=aA (by omega);have B1:=aA hb1;have OO:=aA ho1;clear hb1 hs1 hbe1;clear ho1;have k1:=FU B1.out;go_wp2_with fail
  refine (HV.out _).mono ?_;rintro e w2 ⟨rfl,ho⟩;clear k1;replace OO:=aA (OO.out.aB ho);replace B1:=aA (ho.got B1.out (by simp));clear ho;have k1:=FU B1.out;go_wp2;go_ret
  exact⟨.inl ⟨by first|rfl|trivial,rfl⟩,OO.out⟩
 ·go_enter Tryz.func82,Tryz.ntmps82
  go_upto_region 1 with (fail)
  refine aG (G:=fun w0=>Code.wp _ _ _ _ w0) ?_;intro w1 hb1 ho1 hs1;obtain⟨b1,hbe1⟩:∃ b,w.heap.size=b:=⟨_,rfl⟩;rw[hbe1] at hb1;rw[hbe1];have HN:Hid (w.heap.size<=b1):=aA (by omega);have B1:=aA hb1;have OO:=aA ho1;clear hb1 hs1 hbe1;clear ho1;have k1:=FU B1.out;go_wp2_with fail
  refine (HV.out _).mono ?_;rintro e w2 ⟨rfl,ho⟩;clear k1;replace OO:=aA (OO.out.aB ho);replace B1:=aA (ho.got B1.out (by simp));clear ho;have k1:=FU B1.out;go_wp2;refine aG (G:=fun w0=>bodyPost _ _ _ _ _ w0) ?_;intro w3 hb ho _;go_ret
  exact⟨.inr ⟨by first|rfl|trivial,_,rfl,OO.out.size,hb⟩,OO.out.aB ho⟩
theorem pCNew (raw time:Int) (w:World) :
  Calls Tryz.prog 64 #[.int .i64 raw,.int .i64 time] w fun e w'=>CNewR w raw time e w'/\Oy [] w w':=by
 have HO:=aA (pCOf raw time w);go_enter Tryz.func64,Tryz.ntmps64
 go_wp2_with fail
 refine HO.out.mono ?_;rintro e w1 ⟨hr,ho⟩;have HR:=aA hr;have OO:=aA ho;clear hr ho HO;rcases HR.out with ⟨h,rfl⟩|⟨h,b,rfl,hb,hc⟩
 ·have HH:=aA h
  clear h HR;go_wp2;go_ret
  exact⟨.inl ⟨HH.out,rfl⟩,OO.out⟩
 ·have HH:=aA h;have HC:=aA hc;have HB:=aA hb
  clear h HR hb hc;go_wp2;go_ret
  exact⟨.inr ⟨HH.out,b,rfl,HB.out,HC.out⟩,OO.out⟩
theorem pPart (d ppb:Int) (h0:0<=d) (h1:d<=9007199254740992) (h2: -500000<=ppb) (h3:ppb<=500000) (w:World) :
  Calls Tryz.prog 163 #[.int .i64 d,.int .i64 ppb] w fun e w'=>e=.returned (.int .i64 (d*ppb / 1000000000))/\Oy [] w w':=by
 have hb:=QG h0 h1 h2 h3;have HM:=aA (fun w'=>j5 (mU d ppb 1000000000 w' (by omega) (by omega) (by omega) (by omega) (by omega) (by omega)));generalize d*ppb / 1000000000=q at HM hb |-;rw[gH (by omega) (by omega),gV (by omega) (by omega)] at HM;go_enter Tryz.func163,Tryz.ntmps163
 have OO:=aA (aR [] w);go_wp2_with fail
 refine (HM.out _).mono ?_;rintro e w2 ⟨rfl,ho⟩;replace OO:=aA (OO.out.aB ho);clear ho;go_wp2;go_ret
 exact⟨rfl,OO.out⟩
theorem YG (raw time ppb steps d:Int) (h0:0<=d) (h1:d<=9007199254740992) (h2: -500000<=ppb) (h3:ppb<=500000) (h4: -4503599627370496<=time) (h5:time<=4503599627370496) (w:World) :
  Calls Tryz.prog 161 #[.agg #[.int .i64 raw,.int .i64 time,.int .i64 ppb,.int .i64 0,.int .i64 0,.int .i64 steps],.int .i64 d] w fun e w'=>e=.returned (.int .i64 (time+d+d*ppb / 1000000000))/\Oy [] w w':=by
 have hb:=QG h0 h1 h2 h3;have HP:=aA (fun w'=>pPart d ppb h0 h1 h2 h3 w');generalize d*ppb / 1000000000=q at HP hb |-;have r1:wrap .i64 (time+d)=time+d:=by rw[wrap_i64];omega
 have r2:wrap .i64 (time+d+q)=time+d+q:=by rw[wrap_i64];omega
 go_enter Tryz.func161,Tryz.ntmps161
 go_upto_region 1 with (fail)
 refine aG (G:=fun w0=>Code.wp _ _ _ _ w0) ?_;intro w1 hb1 ho1 hs1;obtain⟨b1,hbe1⟩:∃ b,w.heap.size=b:=⟨_,rfl⟩;rw[hbe1] at hb1;rw[hbe1];have HN:Hid (w.heap.size<=b1):=aA (by omega);have B1:=aA hb1;have OO:=aA ho1;clear hb1 hs1 hbe1;clear ho1;have k1:=FU B1.out;go_wp2_with fail
 refine aP [0,1,2,3,4,5] [] (by kernel_rfl) (by kernel_rfl) ?_;simp only[bV];iterate 6 (refine wpQuiet_step (fun K hK=>?_);go_simp;refine hK _ ?_;clear hK K)
 refine wpQuiet_nil ?_;intro w2 hw;have ho:=aN hw;clear hw;clear k1;replace OO:=aA (OO.out.aB ho);replace B1:=aA (ho.got B1.out (by simp));have k1:=FU B1.out;clear ho;go_wp2_with fail
 refine (HP.out _).mono ?_;rintro e w3 ⟨rfl,ho⟩;clear k1;replace OO:=aA (OO.out.aB ho);replace B1:=aA (ho.got B1.out (by simp));clear ho;have k1:=FU B1.out;go_wp2;go_ret
 exact⟨rfl,OO.out⟩
theorem ZE {w:World} {b:Nat} {c:Ck} (hc:kT w b c) (hok:jE c) (r:Int) (hr0: -9223372036854775808<=r) (hr1:r<=9223372036854775807) :
  Calls Tryz.prog 158 #[.pointer (some ⟨b,0,none⟩),.int .i64 r] w fun e w'=>e=.returned (.tuple #[.int .i64 (eP c r).1,.int .i64 (eP c r).2])/\Oy [] w w':=by
 obtain⟨raw,time,ppb,steps⟩:=c;obtain⟨g0,g1,g2,g3,g4,g5,_,_⟩:=hok;unfold kT at hc;dsimp only at hc g0 g1 g2 g3 g4 g5;have HE:Hid (eP ⟨raw,time,ppb,steps⟩ r=if r<raw then (0,12) else if 4503599627370496<r then (0,3) else if fQ (time+(r-raw)+(r-raw)*ppb / 1000000000)=true then (time+(r-raw)+(r-raw)*ppb / 1000000000,0) else (0,3)):=aA rfl;generalize eP ⟨raw,time,ppb,steps⟩ r=res at HE |-;by_cases h1:r<raw
 ·have d1:decide (r<raw)=true:=eY h1
  obtain rfl:res=(0,12):=by rw[HE.out,if_pos h1]
  clear HE;go_enter Tryz.func158,Tryz.ntmps158
  have OO:=aA (aR [] w);have B1:=aA hc;have k1:=FU B1.out;go_wp2;go_ret2;exact⟨rfl,OO.out⟩
 ·have d1:decide (r<raw)=false:=dL h1
  by_cases h2:4503599627370496<r
  ·have d2:decide (4503599627370496<r)=true:=eY h2
   obtain rfl:res=(0,3):=by rw[HE.out,if_neg h1,if_pos h2]
   clear HE;go_enter Tryz.func158,Tryz.ntmps158
   have OO:=aA (aR [] w);have B1:=aA hc;have k1:=FU B1.out;go_wp2;go_ret2;exact⟨rfl,OO.out⟩
  ·have d2:decide (4503599627370496<r)=false:=dL h2
   obtain⟨e,he⟩:∃ e,r-raw=e:=⟨_,rfl⟩;have heb:0<=e/\e<=9007199254740992:=by omega
   rw[if_neg h1,if_neg h2,he] at HE;have r1:wrap .i64 (r-raw)=e:=by rw[wrap_i64];omega
   have HS:=aA (fun w'=>YG raw time ppb steps e heb.1 heb.2 g4 g5 g2 g3 w');obtain⟨v,hv⟩:∃ v,time+e+e*ppb / 1000000000=v:=⟨_,rfl⟩;rw[hv] at HE HS;have HW:=aA (fun w'=>jS v 4503599627370496 (by omega) (by omega) w');have HV:Hid (fQ v=bZ v (-4503599627370496) 4503599627370496):=aA rfl;rw[HV.out] at HE;generalize bZ v (-4503599627370496) 4503599627370496=ok at HE HW;clear he hv HV
   cases ok
   focus
    obtain rfl:res=(0,3):=by have:=HE.out;simpa using this
   rotate_left
   focus
    obtain rfl:res=(v,0):=by have:=HE.out;simpa using this
   rotate_left
   all_goals
    clear HE;go_enter Tryz.func158,Tryz.ntmps158
    have OO:=aA (aR [] w);have B1:=aA hc;have k1:=FU B1.out;go_wp2_with fail
    refine aP [0,1,2,3,4,5,6,7,8,9,10,11,12] [] (by kernel_rfl) (by kernel_rfl) ?_;simp only[bV];iterate 11 (refine wpQuiet_step (fun K hK=>?_);go_simp;refine hK _ ?_;clear hK K)
    refine cK (by kernel_rfl) 161 #[.agg #[.int .i64 raw,.int .i64 time,.int .i64 ppb,.int .i64 0,.int .i64 0,.int .i64 steps],.int .i64 e] (fun _=>by kernel_rfl) (.int .i64 v) (eH (fun w' hw'=>HS.out w')) ?_;iterate 1 (refine wpQuiet_step (fun K hK=>?_);go_simp;refine hK _ ?_;clear hK K)
    refine wpQuiet_nil ?_;intro w2 hw;have ho:=aN hw;clear hw;clear k1;replace OO:=aA (OO.out.aB ho);replace B1:=aA (ho.got B1.out (by simp));have k1:=FU B1.out;clear ho;go_wp2_with fail
    refine (HW.out _).mono ?_;rintro e w3 ⟨rfl,ho⟩;clear k1;replace OO:=aA (OO.out.aB ho);replace B1:=aA (ho.got B1.out (by simp));clear ho;have k1:=FU B1.out;go_wp2;go_ret2;exact⟨rfl,OO.out⟩
end
end Go.Proofs.YtppjhbjmfkiejaaGreat
