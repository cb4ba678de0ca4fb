/- Ja Jb -/
import Derived.Test.YthbgcpfklmlnjaaGreatFJ9
import Derived.Test.YthbgcpfklmlnjaaGreatFV1
import Derived.Laws.CopyOwn
import Derived.Laws.BytesArg
import Derived.Test.YthbgcpfklmlnjaaGreatFV6
namespace Go.Proofs.YthbgcpfklmlnjaaGreat
open List (getD_cons_succ getD_cons_zero getElem?_eq_getElem getElem_mem map_cons map_nil mem_cons mem_map not_mem_nil take_of_length_le)
open IntKind (wrap_i64 wrap_u64)
set_option maxRecDepth 100000
set_option maxHeartbeats 8000000
open Go.Lib (hid)
section
section
open Go.RowKit
def fS (t:Int):Int:=(t-t / 1000000000*1000000000)*4294967296 / 1000000000
def lU (t:Int):Int:=(t / 1000000000*4294967296+fS t) % 18446744073709551616
def EU (a b:Int):Int:=(a-b+9223372036854775808) % 18446744073709551616-9223372036854775808
def nnS (f:Int):Int:=(f*1000000000+4294967295) / 4294967296
def tmR (s pivot:Int):Int:=(pivot / 1000000000+(EU s (lU pivot) / 4294967296+(fS pivot+EU s (lU pivot) % 4294967296) / 4294967296))*1000000000+nnS ((fS pivot+EU s (lU pivot) % 4294967296) % 4294967296)
def nX (s pivot:Int):Int × Int:=
 if pivot < -8000000000000000000\/8000000000000000000<pivot then (0,2)
 else if tmR s pivot < -8000000000000000000\/8000000000000000000<tmR s pivot then (0,3) else (tmR s pivot,0)
def pI (s now:Int):Int × Bool:=
 if (nX s (3900000000000000000+now)).2=0/\fI ((nX s (3900000000000000000+now)).1-3900000000000000000)=true then ((nX s (3900000000000000000+now)).1-3900000000000000000,true) else (0,false)
theorem Y9 (t:Int):0<=fS t/\fS t<=4294967295:=by unfold fS;omega
theorem dfS_bd (a b:Int): -9223372036854775808<=EU a b/\EU a b<=9223372036854775807:=by unfold EU;omega
theorem nnS_bd {f:Int} (h0:0<=f) (h1:f<=4294967295):0<=nnS f/\nnS f<=1000000000:=by unfold nnS;omega
theorem EG (n:Int):bits .and .i64 n 4294967295=n % 4294967296:=by
 have hm:(BitVec.ofInt 64 4294967295).toNat=2 ^ 32-1:=by decide
 have key:(BitVec.ofInt 64 n &&& BitVec.ofInt 64 4294967295).toNat=(n % ((2 ^ 64:Nat):Int)).toNat % 2 ^ 32:=by
  rw[BitVec.toNat_and,BitVec.toNat_ofInt,hm,Nat.and_two_pow_sub_one_eq_mod]
 show IntKind.i64.wrap ((BitVec.ofInt 64 n &&& BitVec.ofInt 64 4294967295).toNat:Nat)=n % 4294967296
 rw[key,wrap_i64];omega
theorem WT (t:Int) (h0: -9000000000000000000<=t) (h1:t<=9223372036854775807) (w:World) :
  Calls Tryz.prog 144 #[.int .i64 t] w fun e w'=>e=.returned (.tuple #[.int .i64 (t / 1000000000),.int .i64 (fS t)])/\Only [] w w':=by
 have HF:=hid (fun w'=>jU (MR t 1000000000 w' (by omega) h1 (by omega) (by omega)));have HE:Hid (fS t=(t-t / 1000000000*1000000000)*4294967296 / 1000000000):=hid rfl;obtain⟨q,hq⟩:∃ q,t / 1000000000=q:=⟨_,rfl⟩;have hb:=Y9 t;generalize fS t=f at HE hb |-;rw[hq] at HF HE |-;have r1:IntKind.i64.wrap (q*1000000000)=q*1000000000:=by rw[wrap_i64];omega
 obtain⟨r,hr⟩:∃ r,t-q*1000000000=r:=⟨_,rfl⟩;have r2:IntKind.i64.wrap (t-q*1000000000)=r:=by rw[wrap_i64];omega
 have hrb:0<=r/\r<=999999999:=by omega
 rw[hr] at HE;have r3:IntKind.i64.wrap (r*4294967296)=r*4294967296:=by rw[wrap_i64];omega
 have r4:(r*4294967296).tdiv 1000000000=f:=by rw[Int.tdiv_eq_ediv_of_nonneg (by omega),<-HE.out]
 have r5:IntKind.i64.wrap f=f:=by rw[wrap_i64];omega
 clear hq hr HE;go_enter Tryz.func144,Tryz.ntmps144
 have OO:=hid (Only.refl [] w);go_wp2_with fail
 refine (HF.out _).mono ?_;rintro e w2 ⟨rfl,ho⟩;replace OO:=hid (OO.out.aB ho);clear ho;go_wp2;go_ret2;exact⟨rfl,OO.out⟩
theorem nE (t:Int) (h0: -9000000000000000000<=t) (h1:t<=9223372036854775807) (w:World) :
  Calls Tryz.prog 138 #[.int .i64 t] w fun e w'=>e=.returned (.int .u64 (lU t))/\Only [] w w':=by
 have HF:=hid (fun w'=>WT t h0 h1 w');have hb:=Y9 t;have HE:Hid (lU t=(t / 1000000000*4294967296+fS t) % 18446744073709551616):=hid rfl;generalize lU t=res at HE |-;obtain⟨q,hq⟩:∃ q,t / 1000000000=q:=⟨_,rfl⟩;generalize fS t=f at HF HE hb;rw[hq] at HF HE;obtain⟨fn,rfl⟩:∃ fn:Nat,f=(fn:Int):=⟨f.toNat,by omega⟩;obtain⟨u,hu⟩:∃ u,IntKind.u64.wrap q=u:=⟨_,rfl⟩;obtain⟨x,hx⟩:∃ x:Nat,(x:Int)=q % 4294967296:=⟨(q % 4294967296).toNat,by omega⟩;have hub:u=q % 18446744073709551616:=by rw[<-hu,wrap_u64]
 have r1:IntKind.u64.wrap (u*4294967296)=((4294967296*x:Nat):Int):=by rw[wrap_u64,hub];omega
 have r2:IntKind.u64.wrap (fn:Int)=(fn:Int):=by rw[wrap_u64];omega
 have r3:IntKind.u64.wrap ((4294967296*x:Nat):Int)=((4294967296*x:Nat):Int):=by rw[wrap_u64];omega
 have hor:=MC (a:=4294967296*x) (b:=fn) 32 (by omega) (by omega) x (by rfl) (by omega);have HV:Hid (res=((4294967296*x+fn:Nat):Int)):=hid (by rw[HE.out];omega);generalize 4294967296*x=y at r1 r3 hor HV;clear hq hx HE hub;go_enter Tryz.func138,Tryz.ntmps138
 have OO:=hid (Only.refl [] w);go_wp2_with fail
 refine (HF.out _).mono ?_;rintro e w2 ⟨rfl,ho⟩;replace OO:=hid (OO.out.aB ho);clear ho;go_wp2;go_ret
 exact⟨by rw[HV.out];rfl,OO.out⟩
theorem pDiff (a b:Int) (w:World) :
  Calls Tryz.prog 176 #[.int .u64 a,.int .u64 b] w fun e w'=>e=.returned (.int .i64 (EU a b))/\Only [] w w':=by
 have r1:IntKind.i64.wrap (IntKind.u64.wrap (a-b))=EU a b:=by unfold EU;rw[wrap_u64,wrap_i64];omega
 generalize EU a b=r at r1 |-;go_enter Tryz.func176,Tryz.ntmps176
 have OO:=hid (Only.refl [] w);go_wp2;go_ret
 exact⟨rfl,OO.out⟩
theorem pNanos (f:Int) (h0:0<=f) (h1:f<=4294967295) (w:World) :
  Calls Tryz.prog 178 #[.int .i64 f] w fun e w'=>e=.returned (.int .i64 (nnS f))/\Only [] w w':=by
 have HE:Hid ((f*1000000000+4294967295) / 4294967296=nnS f):=hid rfl;have r1:IntKind.i64.wrap (f*1000000000)=f*1000000000:=by rw[wrap_i64];omega
 have r2:IntKind.i64.wrap (f*1000000000+4294967295)=f*1000000000+4294967295:=by rw[wrap_i64];omega
 go_enter Tryz.func178,Tryz.ntmps178
 have OO:=hid (Only.refl [] w);go_wp2;go_ret
 exact⟨by rw[<-HE.out];rfl,OO.out⟩
theorem WQ (s pivot:Int) (h0: -9223372036854775808<=pivot) (h1:pivot<=9223372036854775807) (w:World) :
  Calls Tryz.prog 164 #[.int .u64 s,.int .i64 pivot] w fun e w'=>e=.returned (.tuple #[.int .i64 (nX s pivot).1,.int .i64 (nX s pivot).2])/\Only [] w w':=by
 by_cases p1:pivot < -8000000000000000000
 ·have d1:decide (pivot < -8000000000000000000)=true:=decide_eq_true p1
  rw[show nX s pivot=(0,2) from by unfold nX;rw[if_pos (.inl p1)]];go_enter Tryz.func164,Tryz.ntmps164
  have OO:=hid (Only.refl [] w);go_wp2;go_ret2;exact⟨rfl,OO.out⟩
 ·have d1:decide (pivot < -8000000000000000000)=false:=decide_eq_false p1
  by_cases p2:8000000000000000000<pivot
  ·have d2:decide (8000000000000000000<pivot)=true:=decide_eq_true p2
   rw[show nX s pivot=(0,2) from by unfold nX;rw[if_pos (.inr p2)]];go_enter Tryz.func164,Tryz.ntmps164
   have OO:=hid (Only.refl [] w);go_wp2;go_ret2;exact⟨rfl,OO.out⟩
  ·have d2:decide (8000000000000000000<pivot)=false:=decide_eq_false p2
   have hne:¬ (pivot < -8000000000000000000\/8000000000000000000<pivot):=by omega
   have HE:Hid (nX s pivot=if (pivot / 1000000000+(EU s (lU pivot) / 4294967296+(fS pivot+EU s (lU pivot) % 4294967296) / 4294967296))*1000000000+nnS ((fS pivot+EU s (lU pivot) % 4294967296) % 4294967296) < -8000000000000000000\/8000000000000000000<(pivot / 1000000000+(EU s (lU pivot) / 4294967296+(fS pivot+EU s (lU pivot) % 4294967296) / 4294967296))*1000000000+nnS ((fS pivot+EU s (lU pivot) % 4294967296) % 4294967296) then (0,3) else ((pivot / 1000000000+(EU s (lU pivot) / 4294967296+(fS pivot+EU s (lU pivot) % 4294967296) / 4294967296))*1000000000+nnS ((fS pivot+EU s (lU pivot) % 4294967296) % 4294967296),0)):=hid (by unfold nX;rw[if_neg hne];rfl);generalize nX s pivot=res at HE |-;have HS:=hid (fun w'=>WT pivot (by omega) (by omega) w');have HO:=hid (fun w'=>nE pivot (by omega) (by omega) w');have HD:=hid (fun w'=>pDiff s (lU pivot) w');have hfb:=Y9 pivot;have hdb:=dfS_bd s (lU pivot);generalize EU s (lU pivot)=d at HE HD hdb;generalize lU pivot=op at HO HD;generalize fS pivot=f at HE HS hfb;obtain⟨q,hq⟩:∃ q,pivot / 1000000000=q:=⟨_,rfl⟩;rw[hq] at HE HS;have hqb: -8000000000<=q/\q<=8000000000:=by omega
   have b1:=EG d;obtain⟨d0,hd0⟩:∃ d0,d % 4294967296=d0:=⟨_,rfl⟩;obtain⟨d1',hd1⟩:∃ d1,d / 4294967296=d1:=⟨_,rfl⟩;rw[hd0] at b1 HE;rw[hd1] at HE;have hd0b:0<=d0/\d0<=4294967295:=by omega
   have hd1b: -2147483648<=d1'/\d1'<=2147483647:=by omega
   obtain⟨lo,hlo⟩:∃ lo,f+d0=lo:=⟨_,rfl⟩;have r1:IntKind.i64.wrap (f+d0)=lo:=by rw[wrap_i64];omega
   rw[hlo] at HE;obtain⟨c,hc⟩:∃ c,lo / 4294967296=c:=⟨_,rfl⟩;have b2:=EG lo;obtain⟨l0,hl0⟩:∃ l0,lo % 4294967296=l0:=⟨_,rfl⟩;rw[hl0] at b2 HE;rw[hc] at HE;have hl0b:0<=l0/\l0<=4294967295:=by omega
   have hcb:0<=c/\c<=1:=by omega
   have r2:IntKind.i64.wrap (d1'+c)=d1'+c:=by rw[wrap_i64];omega
   obtain⟨sec,hsec⟩:∃ sec,q+(d1'+c)=sec:=⟨_,rfl⟩;have r3:IntKind.i64.wrap (q+(d1'+c))=sec:=by rw[wrap_i64];omega
   rw[hsec] at HE;have HN:=hid (fun w'=>pNanos l0 hl0b.1 hl0b.2 w');have hnb:=nnS_bd hl0b.1 hl0b.2;generalize nnS l0=nn at HE HN hnb;have HM:=hid (fun w'=>jD (fmul sec 1000000000 w' (by omega) (by omega) (by omega) (by omega)));clear hq hlo hd0 hl0 hsec hne;obtain⟨m,hm⟩:∃ m,sec*1000000000=m:=⟨_,rfl⟩;rw[hm] at HE HM;by_cases hin: -9223372036854775808<=m/\m<=9223372036854775807
   ·rw [fU hin.1 hin.2,gM hin.1 hin.2] at HM
    have HA:=hid (fun w'=>jD (fadd m nn w' hin.1 hin.2 (by omega) (by omega)));obtain⟨v,hv⟩:∃ v,m+nn=v:=⟨_,rfl⟩;rw[hv] at HE HA;by_cases hv2: -9223372036854775808<=v/\v<=9223372036854775807
    focus
     rw[fU hv2.1 hv2.2,gM hv2.1 hv2.2] at HA;by_cases v1:v < -8000000000000000000
     focus
      have e1:decide (v < -8000000000000000000)=true:=decide_eq_true v1;obtain rfl:res=(0,3):=by rw[HE.out,if_pos (.inl v1)]
     rotate_left
     focus
      have e1:decide (v < -8000000000000000000)=false:=decide_eq_false v1;by_cases v2:8000000000000000000<v
      focus
       have e2:decide (8000000000000000000<v)=true:=decide_eq_true v2;obtain rfl:res=(0,3):=by rw[HE.out,if_pos (.inr v2)]
      rotate_left
      focus
       have e2:decide (8000000000000000000<v)=false:=decide_eq_false v2;obtain rfl:res=(v,0):=by rw[HE.out,if_neg (by omega)]
      rotate_left
     rotate_left 2
    rotate_left 3
    focus
     rw[kW (by omega),jX (by omega)] at HA;obtain rfl:res=(0,3):=by rw[HE.out,if_pos (by omega)]
    rotate_left
    all_goals
     clear HE hm hv;go_enter Tryz.func164,Tryz.ntmps164
     have OO:=hid (Only.refl [] w);go_wp2_with fail
     refine (HS.out _).mono ?_;rintro e w2 ⟨rfl,ho⟩;replace OO:=hid (OO.out.aB ho);clear ho;go_wp2_with fail
     refine (HO.out _).mono ?_;rintro e w3 ⟨rfl,ho⟩;replace OO:=hid (OO.out.aB ho);clear ho;go_wp2_with fail
     refine (HD.out _).mono ?_;rintro e w4 ⟨rfl,ho⟩;replace OO:=hid (OO.out.aB ho);clear ho;go_wp2_with fail
     refine (HM.out _).mono ?_;rintro e w5 ⟨rfl,ho⟩;replace OO:=hid (OO.out.aB ho);clear ho;go_wp2_with fail
     refine (HN.out _).mono ?_;rintro e w6 ⟨rfl,ho⟩;replace OO:=hid (OO.out.aB ho);clear ho;go_wp2_with fail
     refine (HA.out _).mono ?_;rintro e w7 ⟨rfl,ho⟩;replace OO:=hid (OO.out.aB ho);clear ho;go_wp2;go_ret2;exact⟨rfl,OO.out⟩
   ·rw[kW (by omega),jX (by omega)] at HM
    obtain rfl:res=(0,3):=by rw[HE.out,if_pos (by omega)]
    clear HE hm;go_enter Tryz.func164,Tryz.ntmps164
    have OO:=hid (Only.refl [] w);go_wp2_with fail
    refine (HS.out _).mono ?_;rintro e w2 ⟨rfl,ho⟩;replace OO:=hid (OO.out.aB ho);clear ho;go_wp2_with fail
    refine (HO.out _).mono ?_;rintro e w3 ⟨rfl,ho⟩;replace OO:=hid (OO.out.aB ho);clear ho;go_wp2_with fail
    refine (HD.out _).mono ?_;rintro e w4 ⟨rfl,ho⟩;replace OO:=hid (OO.out.aB ho);clear ho;go_wp2_with fail
    refine (HM.out _).mono ?_;rintro e w5 ⟨rfl,ho⟩;replace OO:=hid (OO.out.aB ho);clear ho;go_wp2;go_ret2;exact⟨rfl,OO.out⟩
theorem AZ (n:Int) (w:World) :
  Calls Tryz.prog 107 #[.int .i64 n] w fun e w'=>e=.returned (.bool (fI n))/\Only [] w w':=by
 by_cases h1:(-4503599627370496:Int)<=n
 focus
  have a1:decide ((-4503599627370496:Int)<=n)=true:=dF h1;obtain⟨r,hr⟩:∃ r,decide (n<=(4503599627370496:Int))=r:=⟨_,rfl⟩;rw[show fI n=r from by unfold fI bT;rw[a1,hr];rfl]
 rotate_left
 focus
  have a1:decide ((-4503599627370496:Int)<=n)=false:=bR h1;rw[show fI n=false from by unfold fI bT;rw[a1];rfl]
 rotate_left
 all_goals
  go_enter Tryz.func107,Tryz.ntmps107
  have OO:=hid (Only.refl [] w);go_wp2;go_ret
  exact⟨rfl,OO.out⟩
theorem JJ (s now:Int) (hn:fI now=true) (w:World) :
  Calls Tryz.prog 253 #[.int .u64 s,.int .i64 now] w fun e w'=>e=.returned (.tuple #[.int .i64 (pI s now).1,.bool (pI s now).2])/\Only [] w w':=by
 obtain⟨n0,n1⟩:=aW.1 (show fI now=true from hn);have HE:Hid (pI s now=if (nX s (3900000000000000000+now)).2=0/\fI ((nX s (3900000000000000000+now)).1-3900000000000000000)=true then ((nX s (3900000000000000000+now)).1-3900000000000000000,true) else (0,false)):=hid rfl;generalize pI s now=res at HE |-;obtain⟨pv,hpv⟩:∃ pv,3900000000000000000+now=pv:=⟨_,rfl⟩;have r1:IntKind.i64.wrap (3900000000000000000+now)=pv:=by rw[wrap_i64];omega
 rw[hpv] at HE;have HT:=hid (fun w'=>WQ s pv (by omega) (by omega) w')
 have htb: -8000000000000000000<=(nX s pv).1/\(nX s pv).1<=8000000000000000000:=by
  unfold nX;split
  ·simp
  ·split
   ·simp
   ·simp only[];omega
 generalize nX s pv=tt at HE HT htb;obtain⟨tv,te⟩:=tt;dsimp only at HE HT htb;obtain⟨v,hv⟩:∃ v,tv-3900000000000000000=v:=⟨_,rfl⟩;have HI:Hid (-12000000000000000000<=v):=hid (by omega);rw[hv] at HE;clear hpv;by_cases hz:te=0
 ·subst hz
  obtain⟨u,hu⟩:∃ u,IntKind.i64.wrap (tv-3900000000000000000)=u:=⟨_,rfl⟩;have HR:=hid (fun w'=>AZ u w')
  have hiu:fI v=fI u:=by
   have h2:u=v\/(fI v=false/\fI u=false):=by
    rw[wrap_i64] at hu;by_cases hlow:v < -9223372036854775808
    ·refine .inr ⟨?_,?_⟩
     ·unfold fI;rw[nY];omega
     ·unfold fI;rw[nY];omega
    ·exact .inl (by omega)
   rcases h2 with h2|h2
   ·rw[h2]
   ·rw[h2.1,h2.2]
  have hvu:fI u=true->u=v:=by
   intro h;obtain⟨u0,u1⟩:=aW.1 (show fI u=true from h);rw[wrap_i64] at hu;omega
  rw[hiu] at HE;generalize fI u=b at HE HR hvu
  cases b
  focus
   obtain rfl:res=(0,false):=by have:=HE.out;simpa using this
  rotate_left
  focus
   obtain rfl:=hvu rfl;obtain rfl:res=(u,true):=by have:=HE.out;simpa using this
  rotate_left
  all_goals
   clear HE hvu hv;go_enter Tryz.func253,Tryz.ntmps253
   have OO:=hid (Only.refl [] w);go_wp2_with fail
   refine (HT.out _).mono ?_;rintro e w2 ⟨rfl,ho⟩;replace OO:=hid (OO.out.aB ho);clear ho;go_wp2_with fail
   refine (HR.out _).mono ?_;rintro e w3 ⟨rfl,ho⟩;replace OO:=hid (OO.out.aB ho);clear ho;go_wp2;go_ret2;exact⟨rfl,OO.out⟩
 ·have q1:(te != 0)=true:=by simpa using hz
  obtain rfl:res=(0,false):=by rw[HE.out,if_neg (fun h=>hz h.1)]
  clear HE hv;go_enter Tryz.func253,Tryz.ntmps253
  have OO:=hid (Only.refl [] w);go_wp2_with fail
  refine (HT.out _).mono ?_;rintro e w2 ⟨rfl,ho⟩;replace OO:=hid (OO.out.aB ho);clear ho;go_wp2;go_ret2;exact⟨rfl,OO.out⟩
end
section
open Go.RowKit
abbrev bE:Int->List Value:=fun z=>[.int .u8 z]
def NG (x size i:Nat):Int:=((x / 2 ^ (8*(size-1 - i)) % 256:Nat):Int)
def be (x size:Nat):List Int:=(List.range size).map (NG x size)
theorem gT (x size:Nat):(be x size).length=size:=by simp[be]
theorem RN (n:Nat) (w:World) (h1:1<=n) (h2:n<=8) :
  Calls Tryz.prog 179 #[.int .i64 n] w fun e w'=>e=.returned (.bool true)/\w=w':=by
 have d1:decide (1<=(n:Int))=true:=by simp;omega
 have d2:decide ((n:Int)<=8)=true:=by simp;omega
 go_enter Tryz.func179,Tryz.ntmps179
 go_wp2;go_ret
 exact⟨rfl,rfl⟩
theorem aS.cells1 {f:Int->Value} {w:World} {p:Option Addr} {n cap:Nat} {l:List Int} (h:aS (fun z=>[f z]) 1 w p n cap l) (hl:0<l.length) :
  ∃ ad,p=some ad/\∀ j v,(l.map f)[j]? = some v->w.cell? (ad.add j)=some v:=by
 obtain⟨b,off,hp,_,_⟩:=h.cell 0 l[0] (getElem?_eq_getElem hl);refine⟨_,hp,fun j v hv=>?_⟩;rw[List.getElem?_map] at hv;obtain⟨z,hz,rfl⟩:=Option.map_eq_some_iff.1 hv;obtain⟨b',off',hp',_,hc⟩:=h.cell j z hz;rw[hp'] at hp;simp only[Option.some.injEq,Addr.mk.injEq,and_true] at hp;obtain⟨rfl,rfl⟩:=hp;rw[addr_add];have:=hc 0 (f z) rfl;simpa using this
theorem RU {w:World} {g n:Nat} {l:List Int} {e:TypeId} (h:aP bE e 1 w g n l) (hn:l.length=n):∃ cur:List Value,w.heap[g]? = some (.cells cur.toArray e (0,0))/\cur=l.map (Value.int .u8):=by
 obtain⟨cur,hg,h1,h2,h3,h4⟩:=h
 have e1:l.flatMap bE=l.map (Value.int .u8):=by
  clear hg h1 h2 h3 h4 hn;induction l with
  | nil=>rfl
  | cons x l ih=>simp[List.flatMap_cons,bE,<-ih]
 refine⟨cur.toList,by simpa using hg,?_⟩;rw[<-e1,<-h4,take_of_length_le (by simp;omega)]
theorem F5 {w:World} {g:Nat} {l:List Int} {e:TypeId} (h:w.heap[g]? = some (.cells (l.map (Value.int .u8)).toArray e (0,0))) (hm:l.length<=maxLen):aP bE e 1 w g l.length l:=by
 have e1:l.flatMap bE=l.map (Value.int .u8):=by
  clear h hm;induction l with
  | nil=>rfl
  | cons x l ih=>simp[List.flatMap_cons,bE,<-ih]
 exact⟨_,h,by simp,Nat.le_refl _,hm,by rw[e1,take_of_length_le (by simp)]⟩
theorem uE {P:Program} {w:World} {ops:Array Oper} {rest:List Oper} {o:Oper} {a:Act} {Q:Exit->Act->World->Prop} (hgd:o.guard=none) (d s:Operand) (dT sT:TypeId)
  (ho:o.op=.call { callee:=.builtin .copy,args:=#[d,s],argTypes:=#[dT,sT] }) (elem:TypeId) (hu:P.underlying dT=some (.slice elem)) (hsz:(P.info? elem).map (·.size)=some 1)
  (g N cap:Nat) (p:Option Addr) (n scap:Nat) (hd:a.eval d=.slice (some ⟨g,0,none⟩) N cap) (hs:a.eval s=.slice p n scap)
  (old new:List Int) (hrow:aP bE elem 1 w g N old) (hold:old.length=N) (hv:aS bE 1 w p n scap new) (hle:n<=N)
  (h:∀ w',aP bE elem 1 w' g N (new ++ old.drop n)->Only [g] w w'->w'.heap.size=w.heap.size->wpList P ops Q rest (a.put o.dst (goInt n)) w') :
  wpList P ops Q (o::rest) a w:=by
 by_cases h0:n=0
 ·subst h0
  have hn:new=[]:=List.eq_nil_of_length_eq_zero hv.len;subst hn;refine wpList_copy_nothing hgd d s dT sT ho elem hu hsz _ _ _ _ _ _ hd hs (by simp) ?_;exact h w (by simpa using hrow) (Only.refl _ _) rfl
 ·have hlen:=hv.len
  obtain⟨ad,rfl,hc⟩:=hv.cells1 (f:=Value.int .u8) (by omega);obtain⟨cur,hg,hcur⟩:=RU hrow hold;have hm:N<=maxLen:=by obtain⟨_,_,_,_,h,_⟩:=hrow;exact h
  have hcl:cur.length=N:=by rw[hcur];simpa using hold
  refine wpList_copy_own hgd d s dT sT ho elem hu hsz g 0 N cap ad n scap hd hs cur.toArray elem hg (new.map (Value.int .u8)) (by rw[List.length_map,hlen];exact (Nat.min_eq_left hle).symm) hc (by simp[hlen];omega) (by intro v hv;obtain⟨z,_,rfl⟩:=mem_map.1 hv;rfl) ?_;have e1:(new.map (Value.int .u8)).length=n:=by simp[hlen]
  rw[e1]
  have e2:(cur.toArray.toList.take 0 ++ (new.map (Value.int .u8) ++ cur.toArray.toList.drop (0+n)))=(new ++ old.drop n).map (Value.int .u8):=by
   rw[hcur];simp
  rw[e2];refine h _ ?_ ⟨rfl,rfl,rfl,by simp[World.setRow],fun k _ hk=>setRow_other w g k _ (fun e=>hk (by simp[e]))⟩ (by simp[World.setRow]);have hl:(new ++ old.drop n).length=N:=by simp;omega
  have:=F5 (l:=new ++ old.drop n) (setRow_heap w g cur.toArray _ elem _ hg) (by omega);rw[hl] at this;exact this
def AppRel (w:World) (bs:List Int) (x n size:Nat) (vi:Value) (wr:World):Prop:=
 ∃ k:Nat,k<=size/\vi=.int .i64 k/\aP bE 5 1 wr w.heap.size (n+size) (bs ++ ((be x size).take k ++ List.replicate (size-k) 0))/\Only [] w wr
theorem ZY (bs b:List Int) (k size:Nat) (hb:b.length=size) (hk:k<size) (v:Int) (hv:b[k]? = some v) :
  (bs ++ (b.take k ++ List.replicate (size-k) 0)).set (bs.length+k) v=bs ++ (b.take (k+1) ++ List.replicate (size-(k+1)) 0):=by
 apply List.ext_getElem?
 intro j;obtain⟨m,hm⟩:∃ m,size-k=m+1:=⟨size-k - 1,by omega⟩;rw[hm,show size-(k+1)=m by omega,List.replicate_succ,List.set_append_right _ _ (by omega),Nat.add_sub_cancel_left,List.set_append_right _ _ (by simp;omega)];congr 2
 rw[List.take_add_one,hv];simp[hb,Nat.min_eq_left (Nat.le_of_lt hk)]
theorem ZQ (x size k:Nat) (hk:k<size):(be x size)[k]? = some (NG x size k):=by simp[be,hk]
theorem Z5 {wr:World} {bs:List Int} {x n size k g:Nat} (h:aP bE 5 1 wr g (n+size) (bs ++ ((be x size).take k ++ List.replicate (size-k) 0))) (hn:bs.length=n) (hk:k<size) :
  wr.cell? ⟨g,n+k,none⟩=some (.int .u8 0):=by
 have hg:(bs ++ ((be x size).take k ++ List.replicate (size-k) 0))[n+k]? = some 0:=by
  have hl:((be x size).take k).length=k:=by simp[gT];omega
  rw[List.getElem?_append_right (by omega),List.getElem?_append_right (by omega),hn,hl,show n+k-n - k=0 by omega,List.getElem?_replicate,if_pos (by omega)]
 have:=aP.cell (s:=1) (enc:=bE) (fun _=>rfl) h (i:=n+k) (j:=0) (x:=(0:Int)) hg (by decide);simpa using this
theorem ZX {wr:World} {bs:List Int} {x n size k g:Nat} (h:aP bE 5 1 wr g (n+size) (bs ++ ((be x size).take k ++ List.replicate (size-k) 0))) (hn:bs.length=n) (hk:k<size) :
  aP bE 5 1 (wr.setCell ⟨g,n+k,none⟩ (.int .u8 (NG x size k))) g (n+size) (bs ++ ((be x size).take (k+1) ++ List.replicate (size-(k+1)) 0)):=by
 have h1:=aP.set1 (f:=Value.int .u8) h (i:=n+k) (by simp[gT];omega) (NG x size k);rw[<-hn,ZY bs (be x size) k size (gT x size) hk _ (ZQ x size k hk),hn] at h1;exact h1
theorem info_u8:(Tryz.prog.info? 5).map (fun i=>(i.zero,i.size,i.bytes))=some (some (.int .u8 0),1,1):=by kernel_rfl
theorem wappend {w:World} {p:Option Addr} {n cap:Nat} {bs:List Int} (hv:aS bE 1 w p n cap bs) (x size:Nat) (h1:1<=size) (h2:size<=8) (hx:x<2 ^ (8*size)) (hn:n<=1000000) :
  Calls Tryz.prog 293 #[.slice p n cap,.int .u64 x,.int .i64 size] w fun e w' =>
   e=.returned (.tuple #[.slice (some ⟨w.heap.size,0,none⟩) (n+size) (n+size),.int .i64 0])/\aP bE 5 1 w' w.heap.size (n+size) (bs ++ be x size)/\Only [] w w':=by
 obtain⟨i0,hi,hz0,hz1,hz2⟩:=info_parts info_u8;have HV:=hid hv;have hx64:x<18446744073709551616:=Nat.lt_of_lt_of_le hx (Nat.le_trans (Nat.pow_le_pow_right (by omega) (by omega:8*size<=64)) (by decide));have HX:=hid hx;have HL:=hid hv.len;clear hv hx
 have hsh:(x:Int) / 2 ^ (8*(size:Int)).toNat=0:=by
  rw[show (8*(size:Int)).toNat=8*size by omega];have:=Nat.div_eq_of_lt HX.out;have h3:((x / 2 ^ (8*size):Nat):Int)=0:=by rw[this];rfl
  rw[Int.natCast_ediv] at h3;simpa using h3
 go_enter Tryz.func293,Tryz.ntmps293
 go_wp2_with fail
 refine (RN size w h1 h2).mono ?_;rintro e w' ⟨rfl,rfl⟩;have hd8:decide ((size:Int)<8)=true\/decide ((size:Int)<8)=false:=by cases decide ((size:Int)<8)<;>simp
 rcases hd8 with d8|d8
 all_goals
  go_wp2_with (first|(at_make;refine wpList_make_row bE rfl _ _ 280 rfl 5 i0 (.int .u8 0) 1 1 Tryz.underlying280 hi hz0 hz1 hz2 (fun _=>rfl) 0 rfl .i64 .i64 _ _ (n+size) rfl rfl (by omega) (by omega) (by omega) (by simp[maxLen];omega) ?_;intro w3 hrow3 ho3 hs3)|(with_reducible refine uE rfl (.tmp 27) (.tmp 28) 280 280 rfl 5 Tryz.underlying280 (by kernel_rfl) _ _ _ _ _ _ rfl rfl _ _ hrow3 (by simp) (HV.out.kept ho3) (by omega) ?_))
  intro w4 hrow4 ho4 hs4;have R4:Hid (aP bE 5 1 w4 w.heap.size (n+size) (bs ++ List.replicate size 0)):=hid (by simpa using hrow4);have O4:=hid (Only.mono (S':=[]) (ho3.eT ho4) (by simp));have HI:=hid hi;have Z0:=hid hz0;have Z1:=hid hz1;have Z2:=hid hz2;clear hrow3 ho3 hs3 hrow4 ho4 hs4 hi hz0 hz1 hz2;go_wp2;go_loopw [9,31] (fun _ vi wr=>AppRel w bs x n size vi wr) (fun _ vi _=>size-(intOf vi).toNat)
  case atStart=>exact⟨0,by omega,rfl,by simpa using R4.out,O4.out⟩
  case round =>
   obtain⟨k,hk,rfl,hrow,ho⟩:=hrel;have RR:=hid hrow;have OO:=hid ho;clear hrow ho;by_cases hlt:k<size
   ·have hcell:wr.cell? ⟨w.heap.size,n+k,none⟩=some (.int .u8 0):=Z5 RR.out HL.out hlt
    have hfr:wr.frozen? ⟨w.heap.size,n+k,none⟩=false:=RR.out.frozen _;have hsz:w.heap.size<wr.heap.size:=RR.out.lt
    obtain⟨y,hy,hy8⟩:∃ y:Nat,(x:Int) / 2 ^ (8*((size:Int)-1 - (k:Int))).toNat=(y:Int)/\Hid (((y % 256:Nat):Int)=NG x size k):=by
     refine⟨x / 2 ^ (8*(size-1 - k)),?_,hid rfl⟩;rw[show (8*((size:Int)-1 - (k:Int))).toNat=8*(size-1 - k) by omega,Int.natCast_ediv];simp
    have hyw:IntKind.u8.wrap (y:Int)=((y % 256:Nat):Int):=by rw[IntKind.wrap_u8];simp
    have NX:=hid (ZX RR.out HL.out hlt);have b1:0<=8*((size:Int)-1 - (k:Int)):=by omega
    have b2:8*((size:Int)-1 - (k:Int))<=64:=by omega
    have b3:0<=(size:Int)-1 - (k:Int):=by omega
    go_wp2;go_roundw
    case rel=>exact⟨k+1,by omega,by go_num,by rw[show (y:Int) % 256=NG x size k from by rw[<-hy8.out];simp];exact NX.out,OO.out.setCell (.inr (Nat.le_refl _)) _⟩
    case measure=>simp[intOf];omega
   ·obtain rfl:k=size:=by omega
    go_wp2;go_ret2;refine⟨rfl,?_,OO.out⟩;have:=RR.out;simpa [take_of_length_le (Nat.le_of_eq (gT x k))] using this
end
end
section
section
open Go.RowKit
def DF (z:Int):Bool:=bT z 65 90
def kissS (x:Nat):ByteArray × Bool:=if (be x 4).all DF=true then (strOfNums (be x 4),true) else (⟨#[]⟩,false)
def BN (p:Np):ByteArray × Bool:=if p.strat=0 then kissS p.rid.toNat else (⟨#[]⟩,false)
theorem be_bd (x s:Nat):∀ z∈be x s,0<=z/\z<=255:=by
 intro z hz;unfold be at hz;obtain⟨i,_,rfl⟩:=mem_map.1 hz;unfold NG;omega
theorem pPut {w:World} {b:Nat} (x:Nat) (hx:x<4294967296) (hb:w.heap[b]? = some (.cells #[.int .u64 x,.int .u64 4] 25 (0,0))) :
  Calls Tryz.prog 280 #[.slice (some ⟨b,0,none⟩) 2 2] w fun e w'=>∃ g,e=.returned (.slice (some ⟨g,0,none⟩) 4 4)/\aP bE 5 1 w' g 4 (be x 4)/\Only [] w w':=by
 have BB:=hid hb;have hlt:=aD hb;clear hb;go_enter Tryz.func280,Tryz.ntmps280
 go_wp2;go_loopw [3,4] (fun vb vi wr=>(vb=.slice none 0 0/\vi=.int .i64 0/\Only [] w wr)\/(∃ g,vb=.slice (some ⟨g,0,none⟩) 4 4/\vi=.int .i64 2/\aP bE 5 1 wr g 4 (be x 4)/\Only [] w wr)) (fun _ vi _=>2-(intOf vi).toNat)
 case atStart=>exact .inl ⟨rfl,rfl,Only.refl _ _⟩
 case round =>
  rcases hrel with ⟨rfl,rfl,ho⟩|⟨g,rfl,rfl,hr,ho⟩
  ·have OO:=hid ho
   have k0:=aA (ho.got BB.out (by simp)) 0;have k1:=aA (ho.got BB.out (by simp)) 1;have lb:=aD (ho.got BB.out (by simp));have HA:=hid (fun w'=>wappend (w:=w') (p:=none) (n:=0) (cap:=0) (bs:=[]) (uG w') x 4 (by omega) (by omega) (by simpa using hx) (by omega));have hw1:IntKind.i64.wrap 1=1:=by decide
   have hw4:IntKind.i64.wrap 4=4:=by decide
   clear ho;go_wp2_with fail
   refine dA [0,1,2,3,4,5,6,7,8,9,10] [] (OnlyC ([]:List Nat) wr) (by kernel_rfl) (by kernel_rfl) ?_;simp only[pick,map_cons,map_nil,getD_cons_succ,getD_cons_zero];iterate 11 (refine aJ (fun K hK=>?_);go_simp;refine hK _ ?_;clear hK K)
   refine aN ?_;refine Rest.by (X:=Nat) (fun g a=>((((a.put (some 24) (.tuple #[.slice (some ⟨g,0,none⟩) 4 4,.int .i64 0])).put (some 12) (.tuple #[.slice (some ⟨g,0,none⟩) 4 4,.int .i64 0])).put (some 25) (.slice (some ⟨g,0,none⟩) 4 4)).put (some 26) (.int .i64 0)).put (some 3) (.slice (some ⟨g,0,none⟩) 4 4)) (fun g w'=>aP bE 5 1 w' g 4 (be x 4)/\Only [] wr w') ?_ ?_
   rotate_left
   ·have O0:=hid (Only.refl [] wr).drew
    refine aK [11] (by kernel_rfl) (by simp) (.inr (aZ O0.out)) ?_;simp only[mem_cons,not_mem_nil,or_false,forall_eq];refine aC rfl ?_;go_wp2_with fail
    refine (HA.out _).mono ?_;rintro e w3 ⟨rfl,hr3,ho3⟩;have R3:=hid hr3;replace O0:=hid (O0.out.aB ho3);clear hr3 ho3 HA k0 k1 lb;go_wp2;simp only[bG];refine aK [12] (by kernel_rfl) (by simp) (.inr (aZ O0.out)) ?_;simp only[mem_cons,not_mem_nil,or_false,forall_eq];refine aC rfl ?_;go_wp2;simp only[bG];refine aK [13,14] (by kernel_rfl) (by simp) (.inr (aZ O0.out)) ?_;simp only[mem_cons,not_mem_nil,or_false,forall_eq_or_imp,forall_eq];refine⟨?_,?_⟩
    focus
     refine aC rfl ?_;go_wp2;simp only[bG];refine aK [14,15] (by kernel_rfl) (by simp) (.inr (aZ O0.out)) ?_;simp only[mem_cons,not_mem_nil,or_false,forall_eq_or_imp,forall_eq];refine⟨?_,?_⟩
     focus
      refine aC rfl ?_;go_wp2;simp only[bG];refine aK [15] (by kernel_rfl) (by simp) (.inr (aZ O0.out)) ?_
     rotate_left
     focus
      refine aC rfl ?_;go_wp2;simp only[bG];refine aK [14] (by kernel_rfl) (by simp) (.inr (aZ O0.out)) ?_
     rotate_left
    rotate_left 2
    focus
     refine aC rfl ?_;go_wp2;simp only[bG];refine aK [13] (by kernel_rfl) (by simp) (.inr (aZ O0.out)) ?_;simp only[mem_cons,not_mem_nil,or_false,forall_eq];refine aC rfl ?_;go_wp2;simp only[bG];refine aK [15] (by kernel_rfl) (by simp) (.inr (aZ O0.out)) ?_
    rotate_left
    all_goals
     simp only[mem_cons,not_mem_nil,or_false,forall_eq];refine aC rfl ?_;go_wp2;simp only[bG];exact dV (by kernel_rfl) (.inr (aZ O0.out)) ⟨wr.heap.size,by simp[Act.put],by simpa using R3.out,O0.out⟩
   rintro g w3 ⟨hr3,ho3⟩;simp only[Act.put,List.setIfInBounds_toArray,List.set_cons_succ,List.set_cons_zero];have R3:=hid hr3;have O3:=hid (OO.out.aB ho3);clear hr3 ho3 HA k0 k1 lb;go_wp2;go_roundw
   case rel=>exact .inr ⟨_,rfl,by go_num,by simpa using R3.out,O3.out⟩
   case measure=>first|(simp[intOf];done)|(simp[intOf];omega)
  ·have OO:=hid ho;have RR:=hid hr
   clear ho hr;go_wp2;go_ret
   exact⟨g,rfl,RR.out,OO.out⟩
theorem PN (xs:List Int) (hl:xs.length=4) (hb:∀ z∈xs,0<=z/\z<=255) (w:World) :
  Calls Tryz.prog 168 #[.string (strOfNums xs)] w fun e w'=>e=.returned (.bool (xs.all DF))/\Only [] w w':=by
 have HG:Hid (∀ k (h:k<(strOfNums xs).size) (hk:k<xs.length),(((strOfNums xs)[k]).toNat:Int)=xs[k]):=hid (by
  intro k h hk;have hd:=strOfNums_data xs
  have h1:(strOfNums xs).data.toList[k]? = some ((strOfNums xs)[k]):=by
   rw[getElem?_eq_getElem (by rw[Array.length_toList];exact h)];rfl
  rw[hd,List.getElem?_map,getElem?_eq_getElem hk] at h1;simp only[Option.map_some,Option.some.injEq] at h1;rw[<-h1];have:=hb _ (getElem_mem hk);have h2:xs[k].toNat<256:=by omega
  have h3:(UInt8.ofNat xs[k].toNat).toNat=xs[k].toNat % 256:=rfl;rw[h3];omega)
 have hsz:(strOfNums xs).size=4:=by rw[strOfNums_size,hl]
 generalize strOfNums xs=S at HG hsz |-;have HL:=hid hl
 have HU:Hid (∀ k (hk:k<xs.length),(xs.take (k+1)).all DF=((xs.take k).all DF && DF xs[k])):=hid (by
  intro k hk;rw[List.take_succ_eq_append_getElem hk,List.all_append];simp)
 have HF:Hid (∀ k (hk:k<xs.length),DF xs[k]=false->xs.all DF=false):=hid (by
  intro k hk h;rw[List.all_eq_false];exact⟨xs[k],getElem_mem hk,by simp[h]⟩)
 have HT:Hid ((xs.take 4).all DF=xs.all DF):=hid (by rw[take_of_length_le (by omega)]);have HB:=hid hb;clear hl hb;go_enter Tryz.func168,Tryz.ntmps168
 go_wp2_with fail
 go_loopw [9] (fun vi wr=>∃ k:Nat,k<=4/\vi=.int .i64 k/\(xs.take k).all DF=true/\Only [] w wr) (fun vi _=>4-(intOf vi).toNat)
 case atStart=>exact⟨0,by omega,rfl,rfl,Only.refl _ _⟩
 case round =>
  obtain⟨k,hk,rfl,hall,ho⟩:=hrel;have OO:=hid ho;have HA:=hid hall;clear ho hall;by_cases hlt:k<4
  ·have hkx:k<xs.length:=by rw[HL.out];exact hlt
   have hkS:k<S.size:=by rw[hsz];exact hlt
   have hg:=HG.out k hkS hkx;have hzb:=HB.out _ (getElem_mem hkx);have hu:=HU.out k hkx;rw[HA.out] at hu;have hf:=HF.out k hkx;generalize xs[k]=z at hg hzb hu hf;have HU2:=hid hu;have HF2:=hid hf;clear hu hf;by_cases h1:z<65
   ·have a1:decide (z<65)=true:=dF h1
    have HR:Hid (xs.all DF=false):=hid (HF2.out (by unfold DF;rw[nY];omega));go_wp2;go_ret
    exact⟨by rw[HR.out];rfl,OO.out⟩
   ·have a1:decide (z<65)=false:=bR h1
    by_cases h2:90<z
    ·have a2:decide (90<z)=true:=dF h2
     have HR:Hid (xs.all DF=false):=hid (HF2.out (by unfold DF;rw[nY];omega));go_wp2;go_ret
     exact⟨by rw[HR.out];rfl,OO.out⟩
    ·have a2:decide (90<z)=false:=bR h2
     have HN:Hid ((xs.take (k+1)).all DF=true):=hid (by rw[HU2.out,show DF z=true from by unfold DF;rw[aW];omega];rfl);go_wp2;go_roundw
     case rel=>exact⟨k+1,by omega,by go_num,HN.out,OO.out⟩
     case measure=>first|(simp[intOf];done)|(simp[intOf];omega)
  ·obtain rfl:k=4:=by omega
   have HR:Hid (xs.all DF=true):=hid (by rw[<-HT.out];exact HA.out);go_wp2;go_ret
   exact⟨by rw[HR.out];rfl,OO.out⟩
theorem pKiss (p:Np) (hp:0<=p.rid/\p.rid<=4294967295) (w:World) :
  Calls Tryz.prog 251 #[iL p] w fun e w'=>e=.returned (.tuple #[.string (BN p).1,.bool (BN p).2])/\Only [] w w':=by
 have HE:Hid (BN p=if p.strat=0 then kissS p.rid.toNat else (⟨#[]⟩,false)):=hid rfl;generalize BN p=res at HE |-;obtain⟨p1,p2,p3,p4,p5,p6,p7,p8,p9,pa,pb,pc,pd⟩:=p;dsimp only at hp HE;unfold iL;dsimp only;by_cases hz:p4=0
 ·subst hz
  obtain⟨x,rfl⟩:∃ x:Nat,p9=(x:Int):=⟨p9.toNat,by omega⟩;have hx:x<4294967296:=by omega
  have hxw:IntKind.u64.wrap (x:Int)=(x:Int):=by rw[wrap_u64];omega
  have HR:Hid (res=if (be x 4).all DF=true then (strOfNums (be x 4),true) else (⟨#[]⟩,false)):=hid (by rw[HE.out,if_pos rfl];rfl);have HI:=hid (fun w'=>PN (be x 4) (gT x 4) (be_bd x 4) w');have HP:=hid (fun (w':World) b hb=>pPut (w:=w') (b:=b) x hx hb);clear HE hp;generalize (be x 4).all DF=ok at HR HI;go_enter Tryz.func251,Tryz.ntmps251
  go_upto_region 1 with (fail)
  refine aF (G:=fun w0=>Code.wp _ _ _ _ w0) ?_;intro w1 hb1 ho1 hs1;have B1:=hid hb1;have OO:=hid ho1;clear hb1 ho1 hs1;have k3:=aA B1.out 3;have k8:=aA B1.out 8;have l1:=aD B1.out;go_wp2_with fail
  refine aF (G:=fun w0=>Calls _ _ _ w0 _) ?_;intro w2 hb2 ho2 hs2;have O2:=hid (OO.out.aB ho2);refine (HP.out w2 _ hb2).mono ?_;rintro e w3 ⟨g,rfl,hr,ho3⟩;have O3:=hid (O2.out.aB ho3)
  have CV:=hid (run_convert_bytes_arg (P:=Tryz.prog) w3 280 5 Tryz.underlying280 Tryz.underlying5 g 0 4 4 (be x 4) (gT x 4) (fun i hi=>by
   obtain⟨b',off,hp',_,hc⟩:=(aP.eH (enc:=bE) (s:=1) (fun _=>rfl) hr (gT x 4).symm).cell i (be x 4)[i] (getElem?_eq_getElem (by rw[gT];exact hi));simp only[Option.some.injEq,Addr.mk.injEq,and_true] at hp';obtain⟨rfl,rfl⟩:=hp';have:=hc 0 _ rfl;simp only[Nat.mul_one,Nat.add_zero] at this;rw[this,List.getD_eq_getElem?_getD,getElem?_eq_getElem (by rw[gT];exact hi)];rfl) 9 Tryz.underlying9)
  have cv:=CV.out;clear hb2 ho2 hs2 hr ho3 HP O2 k3 k8 l1;generalize strOfNums (be x 4)=S at HR HI cv;go_wp2_with fail
  refine (HI.out w3).mono ?_;rintro e w4 ⟨rfl,ho4⟩;have O4:=hid (O3.out.aB ho4);clear ho4 HI cv CV
  cases ok
  ·obtain rfl:res=(⟨#[]⟩,false):=by have:=HR.out;simpa using this
   go_wp2;go_ret2;exact⟨rfl,O4.out⟩
  ·obtain rfl:res=(S,true):=by have:=HR.out;simpa using this
   go_wp2;go_ret2;exact⟨rfl,O4.out⟩
 ·have q1:(p4 != 0)=true:=by simpa using hz
  obtain rfl:res=(⟨#[]⟩,false):=by rw[HE.out,if_neg hz]
  clear HE;go_enter Tryz.func251,Tryz.ntmps251
  go_upto_region 1 with (fail)
  refine aF (G:=fun w0=>Code.wp _ _ _ _ w0) ?_;intro w1 hb1 ho1 hs1;have B1:=hid hb1;have OO:=hid ho1;clear hb1 ho1 hs1;have k3:=aA B1.out 3;have l1:=aD B1.out;go_wp2;go_ret2;exact⟨rfl,OO.out⟩
end
section
open Go.RowKit
structure As where
 ver:Int
 t1:Int
 nonce:Int
 pend:Bool
 xmt:Int
deriving DecidableEq,Inhabited
structure Hd where
 kind:Int
 code:ByteArray
 q:Qd
def IV (h:Hd):Value:=.agg #[.int .i64 h.kind,.string h.code,.int .i64 h.q.t1,.int .i64 h.q.t2,.int .i64 h.q.t3,.int .i64 h.q.t4]
def LD (k:Int):Hd:=⟨k,⟨#[]⟩,⟨0,0,0,0⟩⟩
def tV (w:World) (b:Nat) (a:As):Prop:=∃ c0 c1 c2 c3 c4 c5 c6 c7:Int,w.heap[b]? = some (.cells #[.int .i64 a.ver,.int .i64 a.t1,.int .u64 a.nonce,.bool a.pend,.int .u64 a.xmt,.int .i64 c0,.int .i64 c1,.int .i64 c2,.int .i64 c3,.int .i64 c4,.int .i64 c5,.int .i64 c6,.int .i64 c7] 178 (0,0))
theorem tV.kept {w w':World} {b:Nat} {a:As} {S:List Nat} (h:tV w b a) (ho:Only S w w') (hS:b ∉ S):tV w' b a:=by
 obtain⟨c0,c1,c2,c3,c4,c5,c6,c7,h⟩:=h;exact⟨c0,c1,c2,c3,c4,c5,c6,c7,ho.got h hS⟩
theorem tV.lt {w:World} {b:Nat} {a:As} (h:tV w b a):b<w.heap.size:=by
 obtain⟨c0,c1,c2,c3,c4,c5,c6,c7,h⟩:=h;exact aD h
def lK (a:As) (now nonce:Int):Np × Int × As:=
 if fI now=true then (if nonce=0 then (yC,2,a) else if nonce=a.nonce then (yC,10,a) else ({ yC with ver:=a.ver,mode:=3,xmt:=nonce },0,{ a with t1:=now,nonce:=nonce,pend:=true })) else (yC,3,a)
def yO (a:As) (p:Np) (now:Int):Option Int:=
 if qM p=0/\p.mode=4/\fI now=true/\¬ ((a.t1≠0\/a.nonce≠0)/\now<a.t1) then (if a.pend=true then (if p.org=a.nonce then (if p.xmt≠0/\p.xmt=a.xmt then some 3 else none) else some 2) else some 1) else some 0
def CY (a:As) (p:Np) (now:Int):Hd:=
 if (BN p).2=true then ⟨4,(BN p).1,⟨0,0,0,0⟩⟩ else if xG p=true then
  (if (pI p.rcv now).2=true/\(pI p.xmt now).2=true/\¬ (pI p.xmt now).1<(pI p.rcv now).1 then ⟨7,⟨#[]⟩,⟨a.t1,(pI p.rcv now).1,(pI p.xmt now).1,now⟩⟩ else LD 6) else LD 5
def jP (a:As) (p:Np) (now:Int):Hd × As:=match yO a p now with
 | some k=>(LD k,a)
 | none=>(CY a p now,{ a with pend:=false,xmt:=p.xmt })
def UJ:As:=⟨4,0,0,false,0⟩
theorem pANew (w:World):Calls Tryz.prog 55 #[.int .i64 4] w fun e w'=>e=.returned (.pointer (some ⟨w.heap.size,0,none⟩))/\tV w' w.heap.size UJ/\Only [] w w':=by
 go_enter Tryz.func55,Tryz.ntmps55
 have OO:=hid (Only.refl [] w);go_wp2;refine aF (G:=fun w0=>bodyPost _ _ _ _ _ w0) ?_;intro w1 hb ho hs;go_ret
 exact⟨rfl,⟨0,0,0,0,0,0,0,0,hb⟩,ho⟩
set_option synthInstance.maxSize 2000 in
set_option synthInstance.maxHeartbeats 400000 in
theorem pASend {w:World} {b:Nat} {a:As} (ha:tV w b a) (now n:Int) :
  Calls Tryz.prog 103 #[.pointer (some ⟨b,0,none⟩),.int .i64 now,.int .u64 n] w fun e w'=>e=.returned (.tuple #[iL (lK a now n).1,.int .i64 (lK a now n).2.1])/\tV w' b (lK a now n).2.2/\Only [b] w w':=by
 obtain⟨c0,c1,c2,c3,c4,c5,c6,c7,hA⟩:=ha;obtain⟨ver,t1,nonce,pend,xmt⟩:=a;dsimp only at hA;have HI:=hid (fun w'=>AZ now w');obtain⟨res,HE⟩:∃ zz,Hid (lK ⟨ver,t1,nonce,pend,xmt⟩ now n=zz):=⟨_,hid rfl⟩;rw[HE.out];unfold lK at HE;unfold iL;dsimp only at HE |-;generalize fI now=it at HI HE
 cases it
 focus
  rw[if_neg (by decide)] at HE
 rotate_left 1
 focus
  rw[if_pos rfl] at HE;by_cases hz:n=0
  focus
   subst hz;rw[if_pos rfl] at HE
  rotate_left 1
  focus
   rw[if_neg hz] at HE;have d0:(n == 0)=false:=by simpa using hz
   by_cases hq:n=nonce
   focus
    subst hq;rw[if_pos rfl] at HE
   rotate_left 1
   focus
    rw[if_neg hq] at HE;have d1:(n == nonce)=false:=by simpa using hq
 all_goals
  obtain rfl:=HE.out;clear HE;have m:=lQ hA;have k:=m.out.k;clear hA;go_enter Tryz.func103,Tryz.ntmps103
  go_wp2_with (first|((with_reducible first|refine cM (HI.out _) ?_|refine wU ?_);clear k m;intro w m k)|((with_reducible refine lE (fun w o g k K hK=>⟨rfl,?_⟩));simp[results,Tryz.results103,go_sem,k];refine hK _ ?_;exact⟨rfl,⟨_,_,_,_,_,_,_,_,Has.h w g⟩,o⟩))
end
section
open Go.RowKit
@[go_sem ↓] theorem req_neq (t n:Int) (w:World):(binOp .neq 175 (.agg #[.int .i64 t,.int .u64 n]) (.agg #[.int .i64 0,.int .u64 0])).run Tryz.prog w=.ok (.bool (!(t == 0 && n == 0))) w:=by
 by_cases h1:t=0
 ·by_cases h2:n=0
  ·simp[go_sem,h1,h2]
  ·simp[go_sem,h1,h2]
 ·simp[go_sem,h1]
def V5:Option Int->Value
 | some k=>.tuple #[IV (LD k),.bool true]
 | none=>.tuple #[IV (LD 0),.bool false]
theorem pRefuse {w:World} {b:Nat} {a:As} (ha:tV w b a) (p:Np) (now:Int)  :
  Calls Tryz.prog 227 #[.pointer (some ⟨b,0,none⟩),iL p,.int .i64 now] w fun e w'=>e=.returned (V5 (yO a p now))/\Only [] w w':=by
 obtain⟨c0,c1,c2,c3,c4,c5,c6,c7,hA⟩:=ha;obtain⟨ver,t1,nonce,pend,xmt⟩:=a;obtain⟨p1,p2,p3,p4,p5,p6,p7,p8,p9,pa,pb,pc,pd⟩:=p;dsimp only at hA;have HC:=hid (XC ⟨p1,p2,p3,p4,p5,p6,p7,p8,p9,pa,pb,pc,pd⟩);have HT:=hid (AZ now);obtain⟨res,HE⟩:∃ r,Hid (yO ⟨ver,t1,nonce,pend,xmt⟩ ⟨p1,p2,p3,p4,p5,p6,p7,p8,p9,pa,pb,pc,pd⟩ now=r):=⟨_,hid rfl⟩;rw[HE.out];unfold yO at HE;dsimp only at HE;generalize qM ⟨p1,p2,p3,p4,p5,p6,p7,p8,p9,pa,pb,pc,pd⟩=er at HC HE;generalize fI now=tn at HT HE;unfold iL at HC |-;dsimp only at HC |-;have m:=mY hA;have k:=m.out.k;clear hA;go_enter Tryz.func227,Tryz.ntmps227
 go_wp2_with (first|((with_reducible first|refine cM (HC.out _) ?_|refine cM (HT.out _) ?_|refine wU ?_);clear k m;intro w m k)|((with_reducible refine rG (id:=6) [0,1,2,3,4,5,6,7,8] [] (by kernel_rfl) (by kernel_rfl) ?_);simp only[pick,map_cons,map_nil,getD_cons_succ,getD_cons_zero];(repeat' (first|go_big_quiet_step (first|exact gX (HC.out _)|exact gX (HT.out _))|(refine wpQuiet_step (fun K hK=>?_);go_simp;(first|(refine hK _ ?_;clear hK K)|(split<;>(refine hK _ ?_;clear hK K))))));all_goals (refine wpQuiet_nil ?_;clear k m;intro w m k))|((with_reducible refine rG (id:=8) [0,1,2,3,4,5,6,7,8,9,10,11,12] [] (by kernel_rfl) (by kernel_rfl) ?_);simp only[pick,map_cons,map_nil,getD_cons_succ,getD_cons_zero];(repeat' (first|go_big_quiet_step (first|exact gX (HC.out _)|exact gX (HT.out _))|(refine wpQuiet_step (fun K hK=>?_);go_simp;(first|(refine hK _ ?_;clear hK K)|(split<;>(refine hK _ ?_;clear hK K))))));all_goals (refine wpQuiet_nil ?_;clear k m;intro w m k))|((with_reducible refine lF (fun w k=>⟨rfl,?_⟩));rw[<-HE.out];simp[results,Tryz.results227,go_sem,k]))
 all_goals first|rfl|(clear k m;go_tidy;grind [V5,IV,LD])|trace_state
theorem pAccept {w:World} {b:Nat} {ver t1 nonce xmt c0 c1 c2 c3 c4 c5 c6 c7:Int} {pend:Bool} (hA:w.heap[b]? = some (.cells #[.int .i64 ver,.int .i64 t1,.int .u64 nonce,.bool pend,.int .u64 xmt,.int .i64 c0,.int .i64 c1,.int .i64 c2,.int .i64 c3,.int .i64 c4,.int .i64 c5,.int .i64 c6,.int .i64 c7] 178 (0,0))) (p:Np) (now:Int) (hp:eP p) (hn:fI now=true)  :
  Calls Tryz.prog 228 #[.pointer (some ⟨b,0,none⟩),iL p,.int .i64 now] w fun e w'=>e=.returned (IV (CY ⟨ver,t1,nonce,pend,xmt⟩ p now))/\w'.heap[b]? = some (.cells #[.int .i64 ver,.int .i64 t1,.int .u64 nonce,.bool false,.int .u64 p.xmt,.int .i64 c0,.int .i64 c1,.int .i64 c2,.int .i64 c3,.int .i64 c4,.int .i64 c5,.int .i64 c6,.int .i64 c7] 178 (0,0))/\Only [b] w w':=by
 have HK:=hid (pKiss p hp.2.2.1);have HY:=hid (XB p);have HI2:=hid (JJ p.rcv now hn);have HI3:=hid (JJ p.xmt now hn);obtain⟨res,HE⟩:∃ r,Hid (CY ⟨ver,t1,nonce,pend,xmt⟩ p now=r):=⟨_,hid rfl⟩;rw[HE.out];unfold CY at HE;generalize BN p=kk at HK HE;generalize xG p=sy at HY HE;generalize pI p.rcv now=i2 at HI2 HE;generalize pI p.xmt now=i3 at HI3 HE;obtain⟨ks,kb⟩:=kk;obtain⟨v2,o2⟩:=i2;obtain⟨v3,o3⟩:=i3;obtain⟨p1,p2,p3,p4,p5,p6,p7,p8,p9,pa,pb,pc,pd⟩:=p;unfold iL at HK HY |-;dsimp only at HK HY HI2 HI3 HE |-;clear hp hn;have m:=lQ hA;have k:=m.out.k;clear hA;go_enter Tryz.func228,Tryz.ntmps228
 go_wp2_with (first|((with_reducible first|refine cM (HK.out _) ?_|refine cM (HY.out _) ?_|refine cM (HI2.out _) ?_|refine cM (HI3.out _) ?_|refine wU ?_);clear k m;intro w m k)|((with_reducible refine lG (fun w g=>Has.h w g) (fun w k=>⟨rfl,?_⟩));rw[<-HE.out];simp[results,Tryz.results228,go_sem,k]))
 all_goals first|rfl|(clear k m;go_tidy;grind [V5,IV,LD])|trace_state
end
section
open Go.RowKit
theorem Z7 (a:As) (p:Np) (now:Int):(CY a p now).kind=4\/(CY a p now).kind=5\/(CY a p now).kind=6\/(CY a p now).kind=7:=by
 unfold CY LD;split
 ·simp
 ·split
  ·split<;>simp
  ·simp
theorem VZ {a:As} {p:Np} {now k:Int} (h:yO a p now=some k):k=0\/k=1\/k=2\/k=3:=by
 unfold yO at h;split at h
 ·split at h
  ·split at h
   ·split at h
    ·simp only[Option.some.injEq] at h;omega
    ·cases h
   ·simp only[Option.some.injEq] at h;omega
  ·simp only[Option.some.injEq] at h;omega
 ·simp only[Option.some.injEq] at h;omega
theorem VY {a:As} {p:Np} {now:Int} (h:yO a p now=none):fI now=true:=by
 unfold yO at h;split at h
 ·rename_i hh;exact hh.2.2.1
 ·cases h
theorem pARecv {w:World} {b:Nat} {a:As} (ha:tV w b a) (p:Np) (now:Int) (hp:eP p) :
  Calls Tryz.prog 218 #[.pointer (some ⟨b,0,none⟩),iL p,.int .i64 now] w fun e w'=>e=.returned (IV (jP a p now).1)/\tV w' b (jP a p now).2/\Only [b] w w':=by
 obtain⟨c0,c1,c2,c3,c4,c5,c6,c7,hA⟩:=ha;obtain⟨ver,t1,nonce,pend,xmt⟩:=a;dsimp only at hA;have HR:=hid (fun (w':World) (h:w'.heap[b]? = some (.cells #[.int .i64 ver,.int .i64 t1,.int .u64 nonce,.bool pend,.int .u64 xmt,.int .i64 c0,.int .i64 c1,.int .i64 c2,.int .i64 c3,.int .i64 c4,.int .i64 c5,.int .i64 c6,.int .i64 c7] 178 (0,0)))=>pRefuse (a:=⟨ver,t1,nonce,pend,xmt⟩) ⟨c0,c1,c2,c3,c4,c5,c6,c7,h⟩ p now)
 have HE:Hid (jP ⟨ver,t1,nonce,pend,xmt⟩ p now=match yO ⟨ver,t1,nonce,pend,xmt⟩ p now with
  | some k=>(LD k,⟨ver,t1,nonce,pend,xmt⟩)
  | none=>(CY ⟨ver,t1,nonce,pend,xmt⟩ p now,{ (⟨ver,t1,nonce,pend,xmt⟩:As) with pend:=false,xmt:=p.xmt })):=hid rfl
 rw[HE.out];clear HE
 cases hr:yO ⟨ver,t1,nonce,pend,xmt⟩ p now with
 | some kk =>
  rw[hr] at HR;have hk:=VZ hr;clear hr hp;obtain⟨p1,p2,p3,p4,p5,p6,p7,p8,p9,pa,pb,pc,pd⟩:=p;unfold iL V5 LD IV at HR;unfold iL LD IV;dsimp only at HR |-;rcases hk with rfl|rfl|rfl|rfl
  all_goals
   have m:=lQ hA;have k:=m.out.k;clear hA;go_enter Tryz.func218,Tryz.ntmps218
   go_wp2_with (first|((with_reducible first|refine cM (HR.out _ gB) ?_|refine wU ?_);clear k m;intro w m k)|((with_reducible refine rG (id:=6) [0,1,2,3,4,5,6,7,8,9,10] [11] (by kernel_rfl) (by kernel_rfl) ?_);simp only[pick,map_cons,map_nil,getD_cons_succ,getD_cons_zero];(repeat' (first|go_big_quiet_step (fail)|(refine wpQuiet_step (fun K hK=>?_);go_simp;(first|(refine hK _ ?_;clear hK K)|(split<;>(refine hK _ ?_;clear hK K))))));all_goals (refine wpQuiet_nil ?_;clear k m;intro w m k))|((with_reducible refine lE (fun w o g k K hK=>⟨rfl,?_⟩));simp[results,Tryz.results218,go_sem,k];refine hK _ ?_;exact⟨rfl,⟨_,_,_,_,_,_,_,_,Has.h w g⟩,o⟩))
 | none =>
  rw[hr] at HR;have hn:=VY hr;have hk:=Z7 ⟨ver,t1,nonce,pend,xmt⟩ p now;have HAc:=hid (fun (w':World) (h:w'.heap[b]? = some (.cells #[.int .i64 ver,.int .i64 t1,.int .u64 nonce,.bool pend,.int .u64 xmt,.int .i64 c0,.int .i64 c1,.int .i64 c2,.int .i64 c3,.int .i64 c4,.int .i64 c5,.int .i64 c6,.int .i64 c7] 178 (0,0)))=>pAccept h p now hp hn);clear hr hp hn;generalize CY ⟨ver,t1,nonce,pend,xmt⟩ p now=ac at HAc hk |-;obtain⟨ak,akc,⟨q1,q2,q3,q4⟩⟩:=ac;obtain⟨p1,p2,p3,p4,p5,p6,p7,p8,p9,pa,pb,pc,pd⟩:=p;unfold iL V5 LD IV at HR;unfold iL IV at HAc;unfold iL IV;dsimp only at HR HAc hk |-;rcases hk with rfl|rfl|rfl|rfl
  all_goals
   have m:=lQ hA;have k:=m.out.k;clear hA;go_enter Tryz.func218,Tryz.ntmps218
   go_wp2_with (first|((with_reducible first|refine cM (HR.out _ gB) ?_|refine cP (HAc.out _ gB) ?_|refine wU ?_);clear k m;intro w m k)|((with_reducible refine rG (id:=6) [0,1,2,3,4,5,6,7,8,9,10] [11] (by kernel_rfl) (by kernel_rfl) ?_);simp only[pick,map_cons,map_nil,getD_cons_succ,getD_cons_zero];(repeat' (first|go_big_quiet_step (fail)|(refine wpQuiet_step (fun K hK=>?_);go_simp;(first|(refine hK _ ?_;clear hK K)|(split<;>(refine hK _ ?_;clear hK K))))));all_goals (refine wpQuiet_nil ?_;clear k m;intro w m k))|((with_reducible refine lE (fun w o g k K hK=>⟨rfl,?_⟩));simp[results,Tryz.results218,go_sem,k];refine hK _ ?_;exact⟨rfl,⟨_,_,_,_,_,_,_,_,Has.h w g⟩,o⟩))
end
section
open Go.RowKit
structure Ck where
 raw:Int
 time:Int
 ppb:Int
 steps:Int
deriving DecidableEq,Inhabited
def kK (w:World) (b:Nat) (c:Ck):Prop:=w.heap[b]? = some (.cells #[.int .i64 c.raw,.int .i64 c.time,.int .i64 c.ppb,.int .i64 0,.int .i64 0,.int .i64 c.steps] 195 (0,0))
structure iY (c:Ck):Prop where
 r0: -4503599627370496<=c.raw
 r1:c.raw<=4503599627370496
 t0: -4503599627370496<=c.time
 t1:c.time<=4503599627370496
 p0: -500000<=c.ppb
 p1:c.ppb<=500000
 s0:0<=c.steps
 s1:c.steps<=9223372036854775807
def fP (c:Ck) (raw:Int):Int:=c.time+(raw-c.raw)+(raw-c.raw)*c.ppb / 1000000000
def eF (c:Ck) (raw:Int):Int × Int:=if raw<c.raw then (0,12) else if 4503599627370496<raw then (0,3) else if fI (fP c raw)=true then (fP c raw,0) else (0,3)
theorem OY {e ppb:Int} (h0:0<=e) (h1:e<=9007199254740992) (h2: -500000<=ppb) (h3:ppb<=500000): -9007199254740992<=e*ppb / 1000000000/\e*ppb / 1000000000<=9007199254740992:=by
 constructor
 ·rw[Int.le_ediv_iff_mul_le (by omega)]
  have:=Int.mul_le_mul_of_nonneg_left (a:=-500000) (b:=ppb) (c:=e) h2 h0;omega
 ·refine Int.ediv_le_of_le_mul (by omega) ?_
  have:=Int.mul_le_mul_of_nonneg_left (a:=ppb) (b:=500000) (c:=e) h3 h0;omega
theorem jL (n m:Int) (h0:0<=m) (hm:m<=9223372036854775807) (w:World) :
  Calls Tryz.prog 80 #[.int .i64 n,.int .i64 m] w fun e w'=>e=.returned (.bool (bT n (-m) m))/\Only [] w w':=by
 have r1:IntKind.i64.wrap (-m)= -m:=by rw[wrap_i64];omega
 by_cases h1: -m<=n
 focus
  have a1:decide (-m<=n)=true:=dF h1;obtain⟨r,hr⟩:∃ r,decide (n<=m)=r:=⟨_,rfl⟩;rw[show bT n (-m) m=r from by unfold bT;rw[a1,hr];rfl]
 rotate_left
 focus
  have a1:decide (-m<=n)=false:=bR h1;rw[show bT n (-m) m=false from by unfold bT;rw[a1];rfl]
 rotate_left
 all_goals
  go_enter Tryz.func80,Tryz.ntmps80
  have OO:=hid (Only.refl [] w);go_wp2;go_ret
  exact⟨rfl,OO.out⟩
theorem pCValid (raw time:Int) (w:World) :
  Calls Tryz.prog 77 #[.agg #[.int .i64 raw,.int .i64 time,.int .i64 0,.int .i64 0,.int .i64 0,.int .i64 0]] w fun e w'=>e=.returned (.bool (fI raw && fI time))/\Only [] w w':=by
 have H1:=hid (fun w'=>jL raw 4503599627370496 (by omega) (by omega) w');have H2:=hid (fun w'=>jL time 4503599627370496 (by omega) (by omega) w');have H3:=hid (fun w'=>jL 0 4503599627370496 (by omega) (by omega) w');have H4:=hid (fun w'=>jL 0 500000 (by omega) (by omega) w');rw[show bT 0 (-4503599627370496) 4503599627370496=true from by rw[aW];omega] at H3;rw[show bT 0 (-500000) 500000=true from by rw[aW];omega] at H4;unfold fI;generalize bT raw (-4503599627370496) 4503599627370496=x1 at H1 |-;generalize bT time (-4503599627370496) 4503599627370496=x2 at H2 |-
 cases x1
 focus
  go_enter Tryz.func77,Tryz.ntmps77
  go_upto_region 1 with (fail)
  refine aF (G:=fun w0=>Code.wp _ _ _ _ w0) ?_;intro w1 hb1 ho1 hs1;obtain⟨b1,hbe1⟩:∃ b,w.heap.size=b:=⟨_,rfl⟩;rw[hbe1] at hb1;rw[hbe1];have HN:Hid (w.heap.size<=b1):=hid (by omega);have B1:=hid hb1;have OO:=hid ho1;clear hb1 hs1 hbe1;clear ho1;have k1:=EZ B1.out;go_wp2_with fail
  refine (H1.out _).mono ?_;rintro e w2 ⟨rfl,ho⟩
 rotate_left
 focus
  cases x2
  focus
   go_enter Tryz.func77,Tryz.ntmps77
   go_upto_region 1 with (fail)
   refine aF (G:=fun w0=>Code.wp _ _ _ _ w0) ?_;intro w1 hb1 ho1 hs1;obtain⟨b1,hbe1⟩:∃ b,w.heap.size=b:=⟨_,rfl⟩;rw[hbe1] at hb1;rw[hbe1];have HN:Hid (w.heap.size<=b1):=hid (by omega);have B1:=hid hb1;have OO:=hid ho1;clear hb1 hs1 hbe1;clear ho1;have k1:=EZ B1.out;go_wp2_with fail
   refine (H1.out _).mono ?_;rintro e w2 ⟨rfl,ho⟩;clear k1;replace OO:=hid (OO.out.aB ho);replace B1:=hid (ho.got B1.out (by simp));clear ho;have k1:=EZ B1.out;go_wp2_with fail
   refine (H2.out _).mono ?_;rintro e w3 ⟨rfl,ho⟩
  rotate_left
  focus
   go_enter Tryz.func77,Tryz.ntmps77
   go_upto_region 1 with (fail)
   refine aF (G:=fun w0=>Code.wp _ _ _ _ w0) ?_;intro w1 hb1 ho1 hs1;obtain⟨b1,hbe1⟩:∃ b,w.heap.size=b:=⟨_,rfl⟩;rw[hbe1] at hb1;rw[hbe1];have HN:Hid (w.heap.size<=b1):=hid (by omega);have B1:=hid hb1;have OO:=hid ho1;clear hb1 hs1 hbe1;clear ho1;have k1:=EZ B1.out;go_wp2_with fail
   refine (H1.out _).mono ?_;rintro e w2 ⟨rfl,ho⟩;clear k1;replace OO:=hid (OO.out.aB ho);replace B1:=hid (ho.got B1.out (by simp));clear ho;have k1:=EZ B1.out;go_wp2_with fail
   refine (H2.out _).mono ?_;rintro e w3 ⟨rfl,ho⟩;clear k1;replace OO:=hid (OO.out.aB ho);replace B1:=hid (ho.got B1.out (by simp));clear ho;have k1:=EZ B1.out;go_wp2_with fail
   refine (H3.out _).mono ?_;rintro e w4 ⟨rfl,ho⟩;clear k1;replace OO:=hid (OO.out.aB ho);replace B1:=hid (ho.got B1.out (by simp));clear ho;have k1:=EZ B1.out;go_wp2_with fail
   refine (H4.out _).mono ?_;rintro e w5 ⟨rfl,ho⟩
  rotate_left
 rotate_left 2
 all_goals
  clear k1;replace OO:=hid (OO.out.aB ho);replace B1:=hid (ho.got B1.out (by simp));clear ho;have k1:=EZ B1.out;go_wp2;go_ret
  exact⟨rfl,OO.out⟩
def CNewR (w0:World) (raw time:Int) (e:Ending) (w:World):Prop:=
 ((fI raw && fI time)=false/\e=.returned (.pointer none))\/((fI raw && fI time)=true/\∃ b,e=.returned (.pointer (some ⟨b,0,none⟩))/\w0.heap.size<=b/\kK w b ⟨raw,time,0,0⟩)
theorem pCOf (raw time:Int) (w:World) :
  Calls Tryz.prog 69 #[.agg #[.int .i64 raw,.int .i64 time,.int .i64 0,.int .i64 0,.int .i64 0,.int .i64 0]] w fun e w'=>CNewR w raw time e w'/\Only [] w w':=by
 unfold CNewR;have HV:=hid (fun w'=>pCValid raw time w');generalize (fI raw && fI time)=ok at HV |-
 cases ok
 ·go_enter Tryz.func69,Tryz.ntmps69
  go_upto_region 1 with (fail)
  refine aF (G:=fun w0=>Code.wp _ _ _ _ w0) ?_;intro w1 hb1 ho1 hs1;obtain⟨b1,hbe1⟩:∃ b,w.heap.size=b:=⟨_,rfl⟩;rw[hbe1] at hb1;rw[hbe1];have HN:Hid (w.heap.size<=b1):=hid (by omega);have B1:=hid hb1;have OO:=hid ho1;clear hb1 hs1 hbe1;clear ho1;have k1:=EZ B1.out;go_wp2_with fail
  refine (HV.out _).mono ?_;rintro e w2 ⟨rfl,ho⟩;clear k1;replace OO:=hid (OO.out.aB ho);replace B1:=hid (ho.got B1.out (by simp));clear ho;have k1:=EZ B1.out;go_wp2;go_ret
  exact⟨.inl ⟨by first|rfl|trivial,rfl⟩,OO.out⟩
 ·go_enter Tryz.func69,Tryz.ntmps69
  go_upto_region 1 with (fail)
  refine aF (G:=fun w0=>Code.wp _ _ _ _ w0) ?_;intro w1 hb1 ho1 hs1;obtain⟨b1,hbe1⟩:∃ b,w.heap.size=b:=⟨_,rfl⟩;rw[hbe1] at hb1;rw[hbe1];have HN:Hid (w.heap.size<=b1):=hid (by omega);have B1:=hid hb1;have OO:=hid ho1;clear hb1 hs1 hbe1;clear ho1;have k1:=EZ B1.out;go_wp2_with fail
  refine (HV.out _).mono ?_;rintro e w2 ⟨rfl,ho⟩;clear k1;replace OO:=hid (OO.out.aB ho);replace B1:=hid (ho.got B1.out (by simp));clear ho;have k1:=EZ B1.out;go_wp2;refine aF (G:=fun w0=>bodyPost _ _ _ _ _ w0) ?_;intro w3 hb ho _;go_ret
  exact⟨.inr ⟨by first|rfl|trivial,_,rfl,OO.out.size,hb⟩,OO.out.aB ho⟩
theorem pCNew (raw time:Int) (w:World) :
  Calls Tryz.prog 52 #[.int .i64 raw,.int .i64 time] w fun e w'=>CNewR w raw time e w'/\Only [] w w':=by
 have HO:=hid (pCOf raw time w);go_enter Tryz.func52,Tryz.ntmps52
 go_wp2_with fail
 refine HO.out.mono ?_;rintro e w1 ⟨hr,ho⟩;have HR:=hid hr;have OO:=hid ho;clear hr ho HO;rcases HR.out with ⟨h,rfl⟩|⟨h,b,rfl,hb,hc⟩
 ·have HH:=hid h
  clear h HR;go_wp2;go_ret
  exact⟨.inl ⟨HH.out,rfl⟩,OO.out⟩
 ·have HH:=hid h;have HC:=hid hc;have HB:=hid hb
  clear h HR hb hc;go_wp2;go_ret
  exact⟨.inr ⟨HH.out,b,rfl,HB.out,HC.out⟩,OO.out⟩
theorem pPart (d ppb:Int) (h0:0<=d) (h1:d<=9007199254740992) (h2: -500000<=ppb) (h3:ppb<=500000) (w:World) :
  Calls Tryz.prog 117 #[.int .i64 d,.int .i64 ppb] w fun e w'=>e=.returned (.int .i64 (d*ppb / 1000000000))/\Only [] w w':=by
 have hb:=OY h0 h1 h2 h3;have HM:=hid (fun w'=>jU (mF d ppb 1000000000 w' (by omega) (by omega) (by omega) (by omega) (by omega) (by omega)));generalize d*ppb / 1000000000=q at HM hb |-;rw[fU (by omega) (by omega),gM (by omega) (by omega)] at HM;go_enter Tryz.func117,Tryz.ntmps117
 have OO:=hid (Only.refl [] w);go_wp2_with fail
 refine (HM.out _).mono ?_;rintro e w2 ⟨rfl,ho⟩;replace OO:=hid (OO.out.aB ho);clear ho;go_wp2;go_ret
 exact⟨rfl,OO.out⟩
theorem WU (raw time ppb steps d:Int) (h0:0<=d) (h1:d<=9007199254740992) (h2: -500000<=ppb) (h3:ppb<=500000) (h4: -4503599627370496<=time) (h5:time<=4503599627370496) (w:World) :
  Calls Tryz.prog 115 #[.agg #[.int .i64 raw,.int .i64 time,.int .i64 ppb,.int .i64 0,.int .i64 0,.int .i64 steps],.int .i64 d] w fun e w'=>e=.returned (.int .i64 (time+d+d*ppb / 1000000000))/\Only [] w w':=by
 have hb:=OY h0 h1 h2 h3;have HP:=hid (fun w'=>pPart d ppb h0 h1 h2 h3 w');generalize d*ppb / 1000000000=q at HP hb |-;have r1:IntKind.i64.wrap (time+d)=time+d:=by rw[wrap_i64];omega
 have r2:IntKind.i64.wrap (time+d+q)=time+d+q:=by rw[wrap_i64];omega
 go_enter Tryz.func115,Tryz.ntmps115
 go_upto_region 1 with (fail)
 refine aF (G:=fun w0=>Code.wp _ _ _ _ w0) ?_;intro w1 hb1 ho1 hs1;obtain⟨b1,hbe1⟩:∃ b,w.heap.size=b:=⟨_,rfl⟩;rw[hbe1] at hb1;rw[hbe1];have HN:Hid (w.heap.size<=b1):=hid (by omega);have B1:=hid hb1;have OO:=hid ho1;clear hb1 hs1 hbe1;clear ho1;have k1:=EZ B1.out;go_wp2_with fail
 refine aL [0,1,2,3,4,5] [] (by kernel_rfl) (by kernel_rfl) ?_;simp only[pick,map_cons,map_nil,getD_cons_succ,getD_cons_zero];iterate 6 (refine wpQuiet_step (fun K hK=>?_);go_simp;refine hK _ ?_;clear hK K)
 refine wpQuiet_nil ?_;intro w2 hw;have ho:=aI hw;clear hw;clear k1;replace OO:=hid (OO.out.aB ho);replace B1:=hid (ho.got B1.out (by simp));have k1:=EZ B1.out;clear ho;go_wp2_with fail
 refine (HP.out _).mono ?_;rintro e w3 ⟨rfl,ho⟩;clear k1;replace OO:=hid (OO.out.aB ho);replace B1:=hid (ho.got B1.out (by simp));clear ho;have k1:=EZ B1.out;go_wp2;go_ret
 exact⟨rfl,OO.out⟩
theorem XZ {w:World} {b:Nat} {c:Ck} (hc:kK w b c) (hok:iY c) (r:Int) (hr0: -9223372036854775808<=r) (hr1:r<=9223372036854775807) :
  Calls Tryz.prog 112 #[.pointer (some ⟨b,0,none⟩),.int .i64 r] w fun e w'=>e=.returned (.tuple #[.int .i64 (eF c r).1,.int .i64 (eF c r).2])/\Only [] w w':=by
 obtain⟨raw,time,ppb,steps⟩:=c;obtain⟨g0,g1,g2,g3,g4,g5,_,_⟩:=hok;unfold kK at hc;dsimp only at hc g0 g1 g2 g3 g4 g5;have HE:Hid (eF ⟨raw,time,ppb,steps⟩ r=if r<raw then (0,12) else if 4503599627370496<r then (0,3) else if fI (time+(r-raw)+(r-raw)*ppb / 1000000000)=true then (time+(r-raw)+(r-raw)*ppb / 1000000000,0) else (0,3)):=hid rfl;generalize eF ⟨raw,time,ppb,steps⟩ r=res at HE |-;by_cases h1:r<raw
 ·have d1:decide (r<raw)=true:=dF h1
  obtain rfl:res=(0,12):=by rw[HE.out,if_pos h1]
  clear HE;go_enter Tryz.func112,Tryz.ntmps112
  have OO:=hid (Only.refl [] w);have B1:=hid hc;have k1:=EZ B1.out;go_wp2;go_ret2;exact⟨rfl,OO.out⟩
 ·have d1:decide (r<raw)=false:=bR h1
  by_cases h2:4503599627370496<r
  ·have d2:decide (4503599627370496<r)=true:=dF h2
   obtain rfl:res=(0,3):=by rw[HE.out,if_neg h1,if_pos h2]
   clear HE;go_enter Tryz.func112,Tryz.ntmps112
   have OO:=hid (Only.refl [] w);have B1:=hid hc;have k1:=EZ B1.out;go_wp2;go_ret2;exact⟨rfl,OO.out⟩
  ·have d2:decide (4503599627370496<r)=false:=bR h2
   obtain⟨e,he⟩:∃ e,r-raw=e:=⟨_,rfl⟩;have heb:0<=e/\e<=9007199254740992:=by omega
   rw[if_neg h1,if_neg h2,he] at HE;have r1:IntKind.i64.wrap (r-raw)=e:=by rw[wrap_i64];omega
   have HS:=hid (fun w'=>WU raw time ppb steps e heb.1 heb.2 g4 g5 g2 g3 w');obtain⟨v,hv⟩:∃ v,time+e+e*ppb / 1000000000=v:=⟨_,rfl⟩;rw[hv] at HE HS;have HW:=hid (fun w'=>jL v 4503599627370496 (by omega) (by omega) w');have HV:Hid (fI v=bT v (-4503599627370496) 4503599627370496):=hid rfl;rw[HV.out] at HE;generalize bT v (-4503599627370496) 4503599627370496=ok at HE HW;clear he hv HV
   cases ok
   focus
    obtain rfl:res=(0,3):=by have:=HE.out;simpa using this
   rotate_left
   focus
    obtain rfl:res=(v,0):=by have:=HE.out;simpa using this
   rotate_left
   all_goals
    clear HE;go_enter Tryz.func112,Tryz.ntmps112
    have OO:=hid (Only.refl [] w);have B1:=hid hc;have k1:=EZ B1.out;go_wp2_with fail
    refine aL [0,1,2,3,4,5,6,7,8,9,10,11,12] [] (by kernel_rfl) (by kernel_rfl) ?_;simp only[pick,map_cons,map_nil,getD_cons_succ,getD_cons_zero];iterate 11 (refine wpQuiet_step (fun K hK=>?_);go_simp;refine hK _ ?_;clear hK K)
    refine aX (by kernel_rfl) 115 #[.agg #[.int .i64 raw,.int .i64 time,.int .i64 ppb,.int .i64 0,.int .i64 0,.int .i64 steps],.int .i64 e] (fun _=>by kernel_rfl) (.int .i64 v) (bM (fun w' hw'=>HS.out w')) ?_;iterate 1 (refine wpQuiet_step (fun K hK=>?_);go_simp;refine hK _ ?_;clear hK K)
    refine wpQuiet_nil ?_;intro w2 hw;have ho:=aI hw;clear hw;clear k1;replace OO:=hid (OO.out.aB ho);replace B1:=hid (ho.got B1.out (by simp));have k1:=EZ B1.out;clear ho;go_wp2_with fail
    refine (HW.out _).mono ?_;rintro e w3 ⟨rfl,ho⟩;clear k1;replace OO:=hid (OO.out.aB ho);replace B1:=hid (ho.got B1.out (by simp));clear ho;have k1:=EZ B1.out;go_wp2;go_ret2;exact⟨rfl,OO.out⟩
end
end
end Go.Proofs.YthbgcpfklmlnjaaGreat
