/- Texts of one chain: C9, Wa. Conditions: those named in each theorem. -/
import Derived.Test.YtedgpfgccpnjnaaGreatFJ9
import Derived.Test.YtedgpfgccpnjnaaGreatFV1
import Derived.Laws.CopyOwn
namespace Go.Proofs.YtedgpfgccpnjnaaGreat
open Go.Lib (hid)
set_option maxRecDepth 100000
set_option maxHeartbeats 1000000
section
open Go.RowKit
def fS (t:Int):Int:=(t-t / 1000000000*1000000000)*4294967296 / 1000000000
def ofS (t:Int):Int:=(t / 1000000000*4294967296+fS t) % 18446744073709551616
def dfS (a b:Int):Int:=(a-b+9223372036854775808) % 18446744073709551616-9223372036854775808
def nnS (f:Int):Int:=(f*1000000000+4294967295) / 4294967296
def tmR (s pivot:Int):Int:=(pivot / 1000000000+(dfS s (ofS pivot) / 4294967296+(fS pivot+dfS s (ofS pivot) % 4294967296) / 4294967296))*1000000000+nnS ((fS pivot+dfS s (ofS pivot) % 4294967296) % 4294967296)
def tmS (s pivot:Int):Int × Int:=
 if pivot < -8000000000000000000∨8000000000000000000<pivot then (0,2)
 else if tmR s pivot < -8000000000000000000∨8000000000000000000<tmR s pivot then (0,3) else (tmR s pivot,0)
def instS (s now:Int):Int × Bool:=
 if (tmS s (3900000000000000000+now)).2=0∧isT ((tmS s (3900000000000000000+now)).1-3900000000000000000)=true then ((tmS s (3900000000000000000+now)).1-3900000000000000000,true) else (0,false)
theorem fS_bd (t:Int):0≤fS t∧fS t≤4294967295:=by unfold fS;omega
theorem dfS_bd (a b:Int): -9223372036854775808≤dfS a b∧dfS a b≤9223372036854775807:=by unfold dfS;omega
theorem nnS_bd {f:Int} (h0:0≤f) (h1:f≤4294967295):0≤nnS f∧nnS f≤1000000000:=by unfold nnS;omega
theorem i64_and32 (n:Int):bits .and .i64 n 4294967295=n % 4294967296:=by
 have hm:(BitVec.ofInt 64 4294967295).toNat=2 ^ 32-1:=by decide
 have key:(BitVec.ofInt 64 n &&& BitVec.ofInt 64 4294967295).toNat=(n % ((2 ^ 64:Nat):Int)).toNat % 2 ^ 32:=by
  rw[BitVec.toNat_and,BitVec.toNat_ofInt,hm,Nat.and_two_pow_sub_one_eq_mod]
 show IntKind.i64.wrap ((BitVec.ofInt 64 n &&& BitVec.ofInt 64 4294967295).toNat:Nat)=n % 4294967296
 rw[key,IntKind.wrap_i64];omega
theorem pSplit (t:Int) (h0: -9000000000000000000≤t) (h1:t≤9223372036854775807) (w:World) :
  Calls Tryz.prog 271 #[.int .i64 t] w fun e w'=>e=.returned (.tuple #[.int .i64 (t / 1000000000),.int .i64 (fS t)])∧Only [] w w':=by
 have HF:=hid (fun w'=>o_drew (ffloor t 1000000000 w' (by omega) h1 (by omega) (by omega)));have HE:Hid (fS t=(t-t / 1000000000*1000000000)*4294967296 / 1000000000):=hid rfl;obtain⟨q,hq⟩:∃ q,t / 1000000000=q:=⟨_,rfl⟩;have hb:=fS_bd t;generalize fS t=f at HE hb ⊢;rw[hq] at HF HE ⊢;have r1:IntKind.i64.wrap (q*1000000000)=q*1000000000:=by rw[IntKind.wrap_i64];omega
 obtain⟨r,hr⟩:∃ r,t-q*1000000000=r:=⟨_,rfl⟩;have r2:IntKind.i64.wrap (t-q*1000000000)=r:=by rw[IntKind.wrap_i64];omega
 have hrb:0≤r∧r≤999999999:=by omega
 rw[hr] at HE;have r3:IntKind.i64.wrap (r*4294967296)=r*4294967296:=by rw[IntKind.wrap_i64];omega
 have r4:(r*4294967296).tdiv 1000000000=f:=by rw[Int.tdiv_eq_ediv_of_nonneg (by omega),←HE.out]
 have r5:IntKind.i64.wrap f=f:=by rw[IntKind.wrap_i64];omega
 clear hq hr HE;go_enter Tryz.func271,Tryz.ntmps271
 have OO:=hid (Only.refl [] w);go_wp2_with fail
 refine (HF.out _).mono ?_;rintro e w2 ⟨rfl,ho⟩;replace OO:=hid (OO.out.nil_trans ho);clear ho;go_wp2;go_ret2;exact⟨rfl,OO.out⟩
theorem pStampOf (t:Int) (h0: -9000000000000000000≤t) (h1:t≤9223372036854775807) (w:World) :
  Calls Tryz.prog 273 #[.int .i64 t] w fun e w'=>e=.returned (.int .u64 (ofS t))∧Only [] w w':=by
 have HF:=hid (fun w'=>pSplit t h0 h1 w');have hb:=fS_bd t;have HE:Hid (ofS t=(t / 1000000000*4294967296+fS t) % 18446744073709551616):=hid rfl;generalize ofS t=res at HE ⊢;obtain⟨q,hq⟩:∃ q,t / 1000000000=q:=⟨_,rfl⟩;generalize fS t=f at HF HE hb;rw[hq] at HF HE;obtain⟨fn,rfl⟩:∃ fn:Nat,f=(fn:Int):=⟨f.toNat,by omega⟩;obtain⟨u,hu⟩:∃ u,IntKind.u64.wrap q=u:=⟨_,rfl⟩;obtain⟨x,hx⟩:∃ x:Nat,(x:Int)=q % 4294967296:=⟨(q % 4294967296).toNat,by omega⟩;have hub:u=q % 18446744073709551616:=by rw[←hu,IntKind.wrap_u64]
 have r1:IntKind.u64.wrap (u*4294967296)=((4294967296*x:Nat):Int):=by rw[IntKind.wrap_u64,hub];omega
 have r2:IntKind.u64.wrap (fn:Int)=(fn:Int):=by rw[IntKind.wrap_u64];omega
 have r3:IntKind.u64.wrap ((4294967296*x:Nat):Int)=((4294967296*x:Nat):Int):=by rw[IntKind.wrap_u64];omega
 have hor:=or_low (a:=4294967296*x) (b:=fn) 32 (by omega) (by omega) x (by rfl) (by omega);have HV:Hid (res=((4294967296*x+fn:Nat):Int)):=hid (by rw[HE.out];omega);generalize 4294967296*x=y at r1 r3 hor HV;clear hq hx HE hub;go_enter Tryz.func273,Tryz.ntmps273
 have OO:=hid (Only.refl [] w);go_wp2_with fail
 refine (HF.out _).mono ?_;rintro e w2 ⟨rfl,ho⟩;replace OO:=hid (OO.out.nil_trans ho);clear ho;go_wp2;go_ret
 exact⟨by rw[HV.out];rfl,OO.out⟩
theorem pDiff (a b:Int) (w:World) :
  Calls Tryz.prog 272 #[.int .u64 a,.int .u64 b] w fun e w'=>e=.returned (.int .i64 (dfS a b))∧Only [] w w':=by
 have r1:IntKind.i64.wrap (IntKind.u64.wrap (a-b))=dfS a b:=by unfold dfS;rw[IntKind.wrap_u64,IntKind.wrap_i64];omega
 generalize dfS a b=r at r1 ⊢;go_enter Tryz.func272,Tryz.ntmps272
 have OO:=hid (Only.refl [] w);go_wp2;go_ret
 exact⟨rfl,OO.out⟩
theorem pNanos (f:Int) (h0:0≤f) (h1:f≤4294967295) (w:World) :
  Calls Tryz.prog 276 #[.int .i64 f] w fun e w'=>e=.returned (.int .i64 (nnS f))∧Only [] w w':=by
 have HE:Hid ((f*1000000000+4294967295) / 4294967296=nnS f):=hid rfl;have r1:IntKind.i64.wrap (f*1000000000)=f*1000000000:=by rw[IntKind.wrap_i64];omega
 have r2:IntKind.i64.wrap (f*1000000000+4294967295)=f*1000000000+4294967295:=by rw[IntKind.wrap_i64];omega
 go_enter Tryz.func276,Tryz.ntmps276
 have OO:=hid (Only.refl [] w);go_wp2;go_ret
 exact⟨by rw[←HE.out];rfl,OO.out⟩
theorem pTime (s pivot:Int) (h0: -9223372036854775808≤pivot) (h1:pivot≤9223372036854775807) (w:World) :
  Calls Tryz.prog 241 #[.int .u64 s,.int .i64 pivot] w fun e w'=>e=.returned (.tuple #[.int .i64 (tmS s pivot).1,.int .i64 (tmS s pivot).2])∧Only [] w w':=by
 by_cases p1:pivot < -8000000000000000000
 ·have d1:decide (pivot < -8000000000000000000)=true:=decide_eq_true p1
  rw[show tmS s pivot=(0,2) from by unfold tmS;rw[if_pos (.inl p1)]];go_enter Tryz.func241,Tryz.ntmps241
  have OO:=hid (Only.refl [] w);go_wp2;go_ret2;exact⟨rfl,OO.out⟩
 ·have d1:decide (pivot < -8000000000000000000)=false:=decide_eq_false p1
  by_cases p2:8000000000000000000<pivot
  ·have d2:decide (8000000000000000000<pivot)=true:=decide_eq_true p2
   rw[show tmS s pivot=(0,2) from by unfold tmS;rw[if_pos (.inr p2)]];go_enter Tryz.func241,Tryz.ntmps241
   have OO:=hid (Only.refl [] w);go_wp2;go_ret2;exact⟨rfl,OO.out⟩
  ·have d2:decide (8000000000000000000<pivot)=false:=decide_eq_false p2
   have hne:¬ (pivot < -8000000000000000000∨8000000000000000000<pivot):=by omega
   have HE:Hid (tmS s pivot=if (pivot / 1000000000+(dfS s (ofS pivot) / 4294967296+(fS pivot+dfS s (ofS pivot) % 4294967296) / 4294967296))*1000000000+nnS ((fS pivot+dfS s (ofS pivot) % 4294967296) % 4294967296) < -8000000000000000000∨8000000000000000000<(pivot / 1000000000+(dfS s (ofS pivot) / 4294967296+(fS pivot+dfS s (ofS pivot) % 4294967296) / 4294967296))*1000000000+nnS ((fS pivot+dfS s (ofS pivot) % 4294967296) % 4294967296) then (0,3) else ((pivot / 1000000000+(dfS s (ofS pivot) / 4294967296+(fS pivot+dfS s (ofS pivot) % 4294967296) / 4294967296))*1000000000+nnS ((fS pivot+dfS s (ofS pivot) % 4294967296) % 4294967296),0)):=hid (by unfold tmS;rw[if_neg hne];rfl);generalize tmS s pivot=res at HE ⊢;have HS:=hid (fun w'=>pSplit pivot (by omega) (by omega) w');have HO:=hid (fun w'=>pStampOf pivot (by omega) (by omega) w');have HD:=hid (fun w'=>pDiff s (ofS pivot) w');have hfb:=fS_bd pivot;have hdb:=dfS_bd s (ofS pivot);generalize dfS s (ofS pivot)=d at HE HD hdb;generalize ofS pivot=op at HO HD;generalize fS pivot=f at HE HS hfb;obtain⟨q,hq⟩:∃ q,pivot / 1000000000=q:=⟨_,rfl⟩;rw[hq] at HE HS;have hqb: -8000000000≤q∧q≤8000000000:=by omega
   have b1:=i64_and32 d;obtain⟨d0,hd0⟩:∃ d0,d % 4294967296=d0:=⟨_,rfl⟩;obtain⟨d1',hd1⟩:∃ d1,d / 4294967296=d1:=⟨_,rfl⟩;rw[hd0] at b1 HE;rw[hd1] at HE;have hd0b:0≤d0∧d0≤4294967295:=by omega
   have hd1b: -2147483648≤d1'∧d1'≤2147483647:=by omega
   obtain⟨lo,hlo⟩:∃ lo,f+d0=lo:=⟨_,rfl⟩;have r1:IntKind.i64.wrap (f+d0)=lo:=by rw[IntKind.wrap_i64];omega
   rw[hlo] at HE;obtain⟨c,hc⟩:∃ c,lo / 4294967296=c:=⟨_,rfl⟩;have b2:=i64_and32 lo;obtain⟨l0,hl0⟩:∃ l0,lo % 4294967296=l0:=⟨_,rfl⟩;rw[hl0] at b2 HE;rw[hc] at HE;have hl0b:0≤l0∧l0≤4294967295:=by omega
   have hcb:0≤c∧c≤1:=by omega
   have r2:IntKind.i64.wrap (d1'+c)=d1'+c:=by rw[IntKind.wrap_i64];omega
   obtain⟨sec,hsec⟩:∃ sec,q+(d1'+c)=sec:=⟨_,rfl⟩;have r3:IntKind.i64.wrap (q+(d1'+c))=sec:=by rw[IntKind.wrap_i64];omega
   rw[hsec] at HE;have HN:=hid (fun w'=>pNanos l0 hl0b.1 hl0b.2 w');have hnb:=nnS_bd hl0b.1 hl0b.2;generalize nnS l0=nn at HE HN hnb;have HM:=hid (fun w'=>o_same (fmul sec 1000000000 w' (by omega) (by omega) (by omega) (by omega)));clear hq hlo hd0 hl0 hsec hne;obtain⟨m,hm⟩:∃ m,sec*1000000000=m:=⟨_,rfl⟩;rw[hm] at HE HM;by_cases hin: -9223372036854775808≤m∧m≤9223372036854775807
   ·rw [orZ_yes hin.1 hin.2,inI_yes hin.1 hin.2] at HM
    have HA:=hid (fun w'=>o_same (fadd m nn w' hin.1 hin.2 (by omega) (by omega)));obtain⟨v,hv⟩:∃ v,m+nn=v:=⟨_,rfl⟩;rw[hv] at HE HA;by_cases hv2: -9223372036854775808≤v∧v≤9223372036854775807
    focus
     rw[orZ_yes hv2.1 hv2.2,inI_yes hv2.1 hv2.2] at HA;by_cases v1:v < -8000000000000000000
     focus
      have e1:decide (v < -8000000000000000000)=true:=decide_eq_true v1;obtain rfl:res=(0,3):=by rw[HE.out,if_pos (.inl v1)]
     rotate_left
     focus
      have e1:decide (v < -8000000000000000000)=false:=decide_eq_false v1;by_cases v2:8000000000000000000<v
      focus
       have e2:decide (8000000000000000000<v)=true:=decide_eq_true v2;obtain rfl:res=(0,3):=by rw[HE.out,if_pos (.inr v2)]
      rotate_left
      focus
       have e2:decide (8000000000000000000<v)=false:=decide_eq_false v2;obtain rfl:res=(v,0):=by rw[HE.out,if_neg (by omega)]
      rotate_left
     rotate_left 2
    rotate_left 3
    focus
     rw[orZ_no (by omega),inI_no (by omega)] at HA;obtain rfl:res=(0,3):=by rw[HE.out,if_pos (by omega)]
    rotate_left
    all_goals
     clear HE hm hv;go_enter Tryz.func241,Tryz.ntmps241
     have OO:=hid (Only.refl [] w);go_wp2_with fail
     refine (HS.out _).mono ?_;rintro e w2 ⟨rfl,ho⟩;replace OO:=hid (OO.out.nil_trans ho);clear ho;go_wp2_with fail
     refine (HO.out _).mono ?_;rintro e w3 ⟨rfl,ho⟩;replace OO:=hid (OO.out.nil_trans ho);clear ho;go_wp2_with fail
     refine (HD.out _).mono ?_;rintro e w4 ⟨rfl,ho⟩;replace OO:=hid (OO.out.nil_trans ho);clear ho;go_wp2_with fail
     refine (HM.out _).mono ?_;rintro e w5 ⟨rfl,ho⟩;replace OO:=hid (OO.out.nil_trans ho);clear ho;go_wp2_with fail
     refine (HN.out _).mono ?_;rintro e w6 ⟨rfl,ho⟩;replace OO:=hid (OO.out.nil_trans ho);clear ho;go_wp2_with fail
     refine (HA.out _).mono ?_;rintro e w7 ⟨rfl,ho⟩;replace OO:=hid (OO.out.nil_trans ho);clear ho;go_wp2;go_ret2;exact⟨rfl,OO.out⟩
   ·rw[orZ_no (by omega),inI_no (by omega)] at HM
    obtain rfl:res=(0,3):=by rw[HE.out,if_pos (by omega)]
    clear HE hm;go_enter Tryz.func241,Tryz.ntmps241
    have OO:=hid (Only.refl [] w);go_wp2_with fail
    refine (HS.out _).mono ?_;rintro e w2 ⟨rfl,ho⟩;replace OO:=hid (OO.out.nil_trans ho);clear ho;go_wp2_with fail
    refine (HO.out _).mono ?_;rintro e w3 ⟨rfl,ho⟩;replace OO:=hid (OO.out.nil_trans ho);clear ho;go_wp2_with fail
    refine (HD.out _).mono ?_;rintro e w4 ⟨rfl,ho⟩;replace OO:=hid (OO.out.nil_trans ho);clear ho;go_wp2_with fail
    refine (HM.out _).mono ?_;rintro e w5 ⟨rfl,ho⟩;replace OO:=hid (OO.out.nil_trans ho);clear ho;go_wp2;go_ret2;exact⟨rfl,OO.out⟩
theorem pReading (n:Int) (w:World) :
  Calls Tryz.prog 84 #[.int .i64 n] w fun e w'=>e=.returned (.bool (isT n))∧Only [] w w':=by
 by_cases h1:(-4503599627370496:Int)≤n
 focus
  have a1:decide ((-4503599627370496:Int)≤n)=true:=decide_eq_true h1;obtain⟨r,hr⟩:∃ r,decide (n≤(4503599627370496:Int))=r:=⟨_,rfl⟩;rw[show isT n=r from by unfold isT wth;rw[a1,hr];rfl]
 rotate_left
 focus
  have a1:decide ((-4503599627370496:Int)≤n)=false:=decide_eq_false h1;rw[show isT n=false from by unfold isT wth;rw[a1];rfl]
 rotate_left
 all_goals
  go_enter Tryz.func84,Tryz.ntmps84
  have OO:=hid (Only.refl [] w);go_wp2;go_ret
  exact⟨rfl,OO.out⟩
theorem pInstant (s now:Int) (hn:isT now=true) (w:World) :
  Calls Tryz.prog 165 #[.int .u64 s,.int .i64 now] w fun e w'=>e=.returned (.tuple #[.int .i64 (instS s now).1,.bool (instS s now).2])∧Only [] w w':=by
 obtain⟨n0,n1⟩:=wth_iff.1 (show isT now=true from hn);have HE:Hid (instS s now=if (tmS s (3900000000000000000+now)).2=0∧isT ((tmS s (3900000000000000000+now)).1-3900000000000000000)=true then ((tmS s (3900000000000000000+now)).1-3900000000000000000,true) else (0,false)):=hid rfl;generalize instS s now=res at HE ⊢;obtain⟨pv,hpv⟩:∃ pv,3900000000000000000+now=pv:=⟨_,rfl⟩;have r1:IntKind.i64.wrap (3900000000000000000+now)=pv:=by rw[IntKind.wrap_i64];omega
 rw[hpv] at HE;have HT:=hid (fun w'=>pTime s pv (by omega) (by omega) w')
 have htb: -8000000000000000000≤(tmS s pv).1∧(tmS s pv).1≤8000000000000000000:=by
  unfold tmS;split
  ·simp
  ·split
   ·simp
   ·simp only[];omega
 generalize tmS s pv=tt at HE HT htb;obtain⟨tv,te⟩:=tt;dsimp only at HE HT htb;obtain⟨v,hv⟩:∃ v,tv-3900000000000000000=v:=⟨_,rfl⟩;have HI:Hid (-12000000000000000000≤v):=hid (by omega);rw[hv] at HE;clear hpv;by_cases hz:te=0
 ·subst hz
  obtain⟨u,hu⟩:∃ u,IntKind.i64.wrap (tv-3900000000000000000)=u:=⟨_,rfl⟩;have HR:=hid (fun w'=>pReading u w')
  have hiu:isT v=isT u:=by
   have h2:u=v∨(isT v=false∧isT u=false):=by
    rw[IntKind.wrap_i64] at hu;by_cases hlow:v < -9223372036854775808
    ·refine .inr ⟨?_,?_⟩
     ·unfold isT;rw[wth_no];omega
     ·unfold isT;rw[wth_no];omega
    ·exact .inl (by omega)
   rcases h2 with h2|h2
   ·rw[h2]
   ·rw[h2.1,h2.2]
  have hvu:isT u=true→u=v:=by
   intro h;obtain⟨u0,u1⟩:=wth_iff.1 (show isT u=true from h);rw[IntKind.wrap_i64] at hu;omega
  rw[hiu] at HE;generalize isT u=b at HE HR hvu
  cases b
  focus
   obtain rfl:res=(0,false):=by have:=HE.out;simpa using this
  rotate_left
  focus
   obtain rfl:=hvu rfl;obtain rfl:res=(u,true):=by have:=HE.out;simpa using this
  rotate_left
  all_goals
   clear HE hvu hv;go_enter Tryz.func165,Tryz.ntmps165
   have OO:=hid (Only.refl [] w);go_wp2_with fail
   refine (HT.out _).mono ?_;rintro e w2 ⟨rfl,ho⟩;replace OO:=hid (OO.out.nil_trans ho);clear ho;go_wp2_with fail
   refine (HR.out _).mono ?_;rintro e w3 ⟨rfl,ho⟩;replace OO:=hid (OO.out.nil_trans ho);clear ho;go_wp2;go_ret2;exact⟨rfl,OO.out⟩
 ·have q1:(te != 0)=true:=by simpa using hz
  obtain rfl:res=(0,false):=by rw[HE.out,if_neg (fun h=>hz h.1)]
  clear HE hv;go_enter Tryz.func165,Tryz.ntmps165
  have OO:=hid (Only.refl [] w);go_wp2_with fail
  refine (HT.out _).mono ?_;rintro e w2 ⟨rfl,ho⟩;replace OO:=hid (OO.out.nil_trans ho);clear ho;go_wp2;go_ret2;exact⟨rfl,OO.out⟩
end
section
open Go.RowKit
abbrev bE:Int→List Value:=fun z=>[.int .u8 z]
def beAt (x size i:Nat):Int:=((x / 2 ^ (8*(size-1 - i)) % 256:Nat):Int)
def be (x size:Nat):List Int:=(List.range size).map (beAt x size)
theorem be_length (x size:Nat):(be x size).length=size:=by simp[be]
theorem sized_yes (n:Nat) (w:World) (h1:1≤n) (h2:n≤8) :
  Calls Tryz.prog 297 #[.int .i64 n] w fun e w'=>e=.returned (.bool true)∧w=w':=by
 have d1:decide (1≤(n:Int))=true:=by simp;omega
 have d2:decide ((n:Int)≤8)=true:=by simp;omega
 go_enter Tryz.func297,Tryz.ntmps297
 go_wp2;go_ret
 exact⟨rfl,rfl⟩
theorem VRow.cells1 {f:Int→Value} {w:World} {p:Option Addr} {n cap:Nat} {l:List Int} (h:VRow (fun z=>[f z]) 1 w p n cap l) (hl:0<l.length) :
  ∃ ad,p=some ad∧∀ j v,(l.map f)[j]? = some v→w.cell? (ad.add j)=some v:=by
 obtain⟨b,off,hp,_,_⟩:=h.cell 0 l[0] (List.getElem?_eq_getElem hl);refine⟨_,hp,fun j v hv=>?_⟩;rw[List.getElem?_map] at hv;obtain⟨z,hz,rfl⟩:=Option.map_eq_some_iff.1 hv;obtain⟨b',off',hp',_,hc⟩:=h.cell j z hz;rw[hp'] at hp;simp only[Option.some.injEq,Addr.mk.injEq,and_true] at hp;obtain⟨rfl,rfl⟩:=hp;rw[addr_add];have:=hc 0 (f z) rfl;simpa using this
theorem row_bytes {w:World} {g n:Nat} {l:List Int} {e:TypeId} (h:RowAt bE e 1 w g n l) (hn:l.length=n):∃ cur:List Value,w.heap[g]? = some (.cells cur.toArray e (0,0))∧cur=l.map (Value.int .u8):=by
 obtain⟨cur,hg,h1,h2,h3,h4⟩:=h
 have e1:l.flatMap bE=l.map (Value.int .u8):=by
  clear hg h1 h2 h3 h4 hn;induction l with
  | nil=>rfl
  | cons x l ih=>simp[List.flatMap_cons,bE,←ih]
 refine⟨cur.toList,by simpa using hg,?_⟩;rw[←e1,←h4,List.take_of_length_le (by simp;omega)]
theorem row_of_bytes {w:World} {g:Nat} {l:List Int} {e:TypeId} (h:w.heap[g]? = some (.cells (l.map (Value.int .u8)).toArray e (0,0))) (hm:l.length≤maxLen):RowAt bE e 1 w g l.length l:=by
 have e1:l.flatMap bE=l.map (Value.int .u8):=by
  clear h hm;induction l with
  | nil=>rfl
  | cons x l ih=>simp[List.flatMap_cons,bE,←ih]
 exact⟨_,h,by simp,Nat.le_refl _,hm,by rw[e1,List.take_of_length_le (by simp)]⟩
theorem wpList_copy_bytes {P:Program} {w:World} {ops:Array Oper} {rest:List Oper} {o:Oper} {a:Act} {Q:Exit→Act→World→Prop} (hgd:o.guard=none) (d s:Operand) (dT sT:TypeId)
  (ho:o.op=.call { callee:=.builtin .copy,args:=#[d,s],argTypes:=#[dT,sT] }) (elem:TypeId) (hu:P.underlying dT=some (.slice elem)) (hsz:(P.info? elem).map (·.size)=some 1)
  (g N cap:Nat) (p:Option Addr) (n scap:Nat) (hd:a.eval d=.slice (some ⟨g,0,none⟩) N cap) (hs:a.eval s=.slice p n scap)
  (old new:List Int) (hrow:RowAt bE elem 1 w g N old) (hold:old.length=N) (hv:VRow bE 1 w p n scap new) (hle:n≤N)
  (h:∀ w',RowAt bE elem 1 w' g N (new ++ old.drop n)→Only [g] w w'→w'.heap.size=w.heap.size→wpList P ops Q rest (a.put o.dst (goInt n)) w') :
  wpList P ops Q (o::rest) a w:=by
 by_cases h0:n=0
 ·subst h0
  have hn:new=[]:=List.eq_nil_of_length_eq_zero hv.len;subst hn;refine wpList_copy_nothing hgd d s dT sT ho elem hu hsz _ _ _ _ _ _ hd hs (by simp) ?_;exact h w (by simpa using hrow) (Only.refl _ _) rfl
 ·have hlen:=hv.len
  obtain⟨ad,rfl,hc⟩:=hv.cells1 (f:=Value.int .u8) (by omega);obtain⟨cur,hg,hcur⟩:=row_bytes hrow hold;have hm:N≤maxLen:=by obtain⟨_,_,_,_,h,_⟩:=hrow;exact h
  have hcl:cur.length=N:=by rw[hcur];simpa using hold
  refine wpList_copy_own hgd d s dT sT ho elem hu hsz g 0 N cap ad n scap hd hs cur.toArray elem hg (new.map (Value.int .u8)) (by rw[List.length_map,hlen];exact (Nat.min_eq_left hle).symm) hc (by simp[hlen];omega) (by intro v hv;obtain⟨z,_,rfl⟩:=List.mem_map.1 hv;rfl) ?_;have e1:(new.map (Value.int .u8)).length=n:=by simp[hlen]
  rw[e1]
  have e2:(cur.toArray.toList.take 0 ++ (new.map (Value.int .u8) ++ cur.toArray.toList.drop (0+n)))=(new ++ old.drop n).map (Value.int .u8):=by
   rw[hcur];simp
  rw[e2];refine h _ ?_ ⟨rfl,rfl,rfl,by simp[World.setRow],fun k _ hk=>setRow_other w g k _ (fun e=>hk (by simp[e]))⟩ (by simp[World.setRow]);have hl:(new ++ old.drop n).length=N:=by simp;omega
  have:=row_of_bytes (l:=new ++ old.drop n) (setRow_heap w g cur.toArray _ elem _ hg) (by omega);rw[hl] at this;exact this
def AppRel (w:World) (bs:List Int) (x n size:Nat) (vi:Value) (wr:World):Prop:=
 ∃ k:Nat,k≤size∧vi=.int .i64 k∧RowAt bE 5 1 wr w.heap.size (n+size) (bs ++ ((be x size).take k ++ List.replicate (size-k) 0))∧Only [] w wr
theorem app_list (bs b:List Int) (k size:Nat) (hb:b.length=size) (hk:k<size) (v:Int) (hv:b[k]? = some v) :
  (bs ++ (b.take k ++ List.replicate (size-k) 0)).set (bs.length+k) v=bs ++ (b.take (k+1) ++ List.replicate (size-(k+1)) 0):=by
 apply List.ext_getElem?
 intro j;obtain⟨m,hm⟩:∃ m,size-k=m+1:=⟨size-k - 1,by omega⟩;rw[hm,show size-(k+1)=m by omega,List.replicate_succ,List.set_append_right _ _ (by omega),Nat.add_sub_cancel_left,List.set_append_right _ _ (by simp;omega)];congr 2
 rw[List.take_add_one,hv];simp[hb,Nat.min_eq_left (Nat.le_of_lt hk)]
theorem beAt_get (x size k:Nat) (hk:k<size):(be x size)[k]? = some (beAt x size k):=by simp[be,hk]
theorem app_cell {wr:World} {bs:List Int} {x n size k g:Nat} (h:RowAt bE 5 1 wr g (n+size) (bs ++ ((be x size).take k ++ List.replicate (size-k) 0))) (hn:bs.length=n) (hk:k<size) :
  wr.cell? ⟨g,n+k,none⟩=some (.int .u8 0):=by
 have hg:(bs ++ ((be x size).take k ++ List.replicate (size-k) 0))[n+k]? = some 0:=by
  have hl:((be x size).take k).length=k:=by simp[be_length];omega
  rw[List.getElem?_append_right (by omega),List.getElem?_append_right (by omega),hn,hl,show n+k-n - k=0 by omega,List.getElem?_replicate,if_pos (by omega)]
 have:=RowAt.cell (s:=1) (enc:=bE) (fun _=>rfl) h (i:=n+k) (j:=0) (x:=(0:Int)) hg (by decide);simpa using this
theorem app_next {wr:World} {bs:List Int} {x n size k g:Nat} (h:RowAt bE 5 1 wr g (n+size) (bs ++ ((be x size).take k ++ List.replicate (size-k) 0))) (hn:bs.length=n) (hk:k<size) :
  RowAt bE 5 1 (wr.setCell ⟨g,n+k,none⟩ (.int .u8 (beAt x size k))) g (n+size) (bs ++ ((be x size).take (k+1) ++ List.replicate (size-(k+1)) 0)):=by
 have h1:=RowAt.set1 (f:=Value.int .u8) h (i:=n+k) (by simp[be_length];omega) (beAt x size k);rw[←hn,app_list bs (be x size) k size (be_length x size) hk _ (beAt_get x size k hk),hn] at h1;exact h1
theorem info_u8:(Tryz.prog.info? 5).map (fun i=>(i.zero,i.size,i.bytes))=some (some (.int .u8 0),1,1):=by kernel_rfl
theorem wappend {w:World} {p:Option Addr} {n cap:Nat} {bs:List Int} (hv:VRow bE 1 w p n cap bs) (x size:Nat) (h1:1≤size) (h2:size≤8) (hx:x<2 ^ (8*size)) (hn:n≤1000000) :
  Calls Tryz.prog 270 #[.slice p n cap,.int .u64 x,.int .i64 size] w fun e w' =>
   e=.returned (.tuple #[.slice (some ⟨w.heap.size,0,none⟩) (n+size) (n+size),.int .i64 0])∧RowAt bE 5 1 w' w.heap.size (n+size) (bs ++ be x size)∧Only [] w w':=by
 obtain⟨i0,hi,hz0,hz1,hz2⟩:=info_parts info_u8;have HV:=hid hv;have hx64:x<18446744073709551616:=Nat.lt_of_lt_of_le hx (Nat.le_trans (Nat.pow_le_pow_right (by omega) (by omega:8*size≤64)) (by decide));have HX:=hid hx;have HL:=hid hv.len;clear hv hx
 have hsh:(x:Int) / 2 ^ (8*(size:Int)).toNat=0:=by
  rw[show (8*(size:Int)).toNat=8*size by omega];have:=Nat.div_eq_of_lt HX.out;have h3:((x / 2 ^ (8*size):Nat):Int)=0:=by rw[this];rfl
  rw[Int.natCast_ediv] at h3;simpa using h3
 go_enter Tryz.func270,Tryz.ntmps270
 go_wp2_with fail
 refine (sized_yes size w h1 h2).mono ?_;rintro e w' ⟨rfl,rfl⟩;have hd8:decide ((size:Int)<8)=true∨decide ((size:Int)<8)=false:=by cases decide ((size:Int)<8)<;>simp
 rcases hd8 with d8|d8
 all_goals
  go_wp2_with (first|(at_make;refine wpList_make_row bE rfl _ _ 246 rfl 5 i0 (.int .u8 0) 1 1 Tryz.underlying246 hi hz0 hz1 hz2 (fun _=>rfl) 0 rfl .i64 .i64 _ _ (n+size) rfl rfl (by omega) (by omega) (by omega) (by simp[maxLen];omega) ?_;intro w3 hrow3 ho3 hs3)|(with_reducible refine wpList_copy_bytes rfl (.tmp 27) (.tmp 28) 246 246 rfl 5 Tryz.underlying246 (by kernel_rfl) _ _ _ _ _ _ rfl rfl _ _ hrow3 (by simp) (HV.out.kept ho3) (by omega) ?_))
  intro w4 hrow4 ho4 hs4;have R4:Hid (RowAt bE 5 1 w4 w.heap.size (n+size) (bs ++ List.replicate size 0)):=hid (by simpa using hrow4);have O4:=hid (Only.mono (S':=[]) (ho3.nil_left ho4) (by simp));have HI:=hid hi;have Z0:=hid hz0;have Z1:=hid hz1;have Z2:=hid hz2;clear hrow3 ho3 hs3 hrow4 ho4 hs4 hi hz0 hz1 hz2;go_wp2;go_loopw [9,31] (fun _ vi wr=>AppRel w bs x n size vi wr) (fun _ vi _=>size-(intOf vi).toNat)
  case atStart=>exact⟨0,by omega,rfl,by simpa using R4.out,O4.out⟩
  case round =>
   obtain⟨k,hk,rfl,hrow,ho⟩:=hrel;have RR:=hid hrow;have OO:=hid ho;clear hrow ho;by_cases hlt:k<size
   ·have hcell:wr.cell? ⟨w.heap.size,n+k,none⟩=some (.int .u8 0):=app_cell RR.out HL.out hlt
    have hfr:wr.frozen? ⟨w.heap.size,n+k,none⟩=false:=RR.out.frozen _;have hsz:w.heap.size<wr.heap.size:=RR.out.lt
    obtain⟨y,hy,hy8⟩:∃ y:Nat,(x:Int) / 2 ^ (8*((size:Int)-1 - (k:Int))).toNat=(y:Int)∧Hid (((y % 256:Nat):Int)=beAt x size k):=by
     refine⟨x / 2 ^ (8*(size-1 - k)),?_,hid rfl⟩;rw[show (8*((size:Int)-1 - (k:Int))).toNat=8*(size-1 - k) by omega,Int.natCast_ediv];simp
    have hyw:IntKind.u8.wrap (y:Int)=((y % 256:Nat):Int):=by rw[IntKind.wrap_u8];simp
    have NX:=hid (app_next RR.out HL.out hlt);have b1:0≤8*((size:Int)-1 - (k:Int)):=by omega
    have b2:8*((size:Int)-1 - (k:Int))≤64:=by omega
    have b3:0≤(size:Int)-1 - (k:Int):=by omega
    go_wp2;go_roundw
    case rel=>exact⟨k+1,by omega,by go_num,by rw[show (y:Int) % 256=beAt x size k from by rw[←hy8.out];simp];exact NX.out,OO.out.setCell (.inr (Nat.le_refl _)) _⟩
    case measure=>simp[intOf];omega
   ·obtain rfl:k=size:=by omega
    go_wp2;go_ret2;refine⟨rfl,?_,OO.out⟩;have:=RR.out;simpa [List.take_of_length_le (Nat.le_of_eq (be_length x k))] using this
end
end Go.Proofs.YtedgpfgccpnjnaaGreat
