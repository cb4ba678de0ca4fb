/- Pu1 Pu2 -/
import Derived.Test.YthbgcpfklmlnjaaGreatFOg
namespace Go.Proofs.YthbgcpfklmlnjaaGreat
set_option linter.all false
set_option maxRecDepth 100000
set_option maxHeartbeats 4000000
open Go.RowKit
open Go.Lib (hid)
section
theorem rSeg {w:World} {p:Option Addr} {n cap:Nat} {l:List Sg} (ph:Int) (k:Nat) (hk:k<l.length) (hv:aS I8 2 w p n cap l) (hn:n<=100000) :
  Calls Tryz.prog 63 #[.agg #[.int .i64 ph,.slice p n cap],.int .i64 k] w fun e w'=>e=.returned (.int .i64 (vY l k))/\Only [] w w':=by
 have hl:=hv.len;subst hl;have HV:=hid hv;clear hv;generalize hgr:vY l k=res;have hsE:res=if bI (l.getD k jS).a 0 1125899906842624=true/\bI (l.getD k jS).p (-500000) 500000=true then (if k=0/\(l.getD k jS).a≠0 then 7 else if 0<k/\(l.getD k jS).a<=(l.getD (k-1) jS).a then 12 else 0) else 3:=hgr.symm.trans rfl
 clear hgr;go_enter Tryz.func63,Tryz.ntmps63
 go_upto_region 1 with (fail)
 refine aF (G:=fun w0=>Code.wp _ _ _ _ w0) ?_;intro w1 hb1 ho1 hs1;have B1:=hid hb1;have O1:=hid ho1;clear hb1 ho1 hs1;have g1:=aA B1.out 1;have l0:=aD B1.out;obtain⟨bk,off,hp,c0,c1,lb⟩:=HV.out.sg O1.out hk;subst hp;generalize l.getD k jS=s at c0 c1 hsE;have HSE:=hid hsE;clear hsE;go_upto_region 2 with (fail)
 refine aF (G:=fun w0=>Code.wp _ _ _ _ w0) ?_;intro w2 hb2 ho2 hs2;have E2:=hid hb2;have O2:=hid (O1.out.aB ho2);have B3:=hid (ho2.got B1.out (by simp));clear hb2 ho2 hs2 c0 c1 lb g1 l0;have c0:=aA E2.out 0;have c1:=aA E2.out 1;have le:=aD E2.out;have g1:=aA B3.out 1;have l0:=aD B3.out;by_cases ha:bI s.a 0 1125899906842624=true
 ·obtain⟨a0,a1⟩:=bH.1 ha
  have e1:decide (s.a<0)=false:=by simp;omega
  have e2:decide (s.a > 1125899906842624)=false:=by simp;omega
  have e3:decide (1125899906842624<s.a)=false:=by simp;omega
  by_cases hp:bI s.p (-500000) 500000=true
  ·obtain⟨b0,b1⟩:=bH.1 hp
   have e4:decide (s.p < -500000)=false:=by simp;omega
   have e5:decide (s.p > 500000)=false:=by simp;omega
   have e6:decide (500000<s.p)=false:=by simp;omega
   have hs2:=HSE.out;rw[if_pos ⟨ha,hp⟩] at hs2;by_cases hk0:k=0
   ·have k1:((k:Int) == 0)=true:=by rw[hk0];rfl
    have k2:decide (0<(k:Int))=false:=by simp;omega
    have k3:decide ((k:Int) > 0)=false:=by simp;omega
    have k4:decide (0<k)=false:=by simp;omega
    by_cases hz:s.a=0
    ·have z1:(s.a != 0)=false:=by simp[hz]
     have HX:Hid (res=0):=hid (by rw[hs2,if_neg (fun q=>q.2 hz),if_neg (fun q=>by omega)]);clear hs2 hz ha hp hk0;go_wp2_with fail
     go_quiet (fail)
     go_wp2;go_ret
     exact⟨by rw[HX.out];rfl,O2.out.aB (dY _ _)⟩
    ·have z1:(s.a != 0)=true:=by simp[hz]
     have HX:Hid (res=7):=hid (by rw[hs2,if_pos ⟨hk0,hz⟩]);clear hs2 hz ha hp hk0;go_wp2;go_ret
     exact⟨by rw[HX.out];rfl,O2.out⟩
   ·have k1:((k:Int) == 0)=false:=by rw[beq_eq_false_iff_ne];omega
    have k2:decide (0<(k:Int))=true:=by simp;omega
    have k3:decide ((k:Int) > 0)=true:=by simp;omega
    have k4:decide (0<k)=true:=by simp;omega
    obtain⟨bk',off',hp',p0,p1,lb⟩:=HV.out.sg O2.out (show k-1<l.length by omega)
    cases hp'
    generalize (l.getD (k-1) jS)=t at p0 p1 hs2;clear p1;have hi1:(1:Int)<=(k:Int):=by omega
    have hi2:(k:Int)-1<(l.length:Int):=by omega
    have hi3:IntKind.i64.wrap ((k:Int)-1)=(k:Int)-1:=IntWalk.i64_in _ (by omega);have hi4:((k:Int)-1).toNat=k-1:=by omega
    by_cases hle:s.a<=t.a
    ·have z1:decide (s.a<=t.a)=true:=by simp[hle]
     have HX:Hid (res=12):=hid (by rw[hs2,if_neg (fun q=>hk0 q.1),if_pos ⟨by omega,hle⟩]);clear hs2 hle ha hp hk0;go_wp2_with fail
     go_quiet (fail)
     go_wp2;go_ret
     exact⟨by rw[HX.out];rfl,O2.out.aB (dY _ _)⟩
    ·have z1:decide (s.a<=t.a)=false:=by simpa using hle
     have HX:Hid (res=0):=hid (by rw[hs2,if_neg (fun q=>hk0 q.1),if_neg (fun q=>hle q.2)]);clear hs2 hle ha hp hk0;go_wp2_with fail
     go_quiet (fail)
     clear hi3 hi4;go_wp2;go_ret
     exact⟨by rw[HX.out];rfl,O2.out.aB (dY _ _)⟩
  ·have HX:Hid (res=3):=hid (by rw[HSE.out,if_neg (fun q=>hp q.2)])
   rcases dP hp with hq|⟨hq,hr⟩
   ·have e4:decide (s.p < -500000)=true:=by simp;omega
    clear ha hp;go_wp2;go_ret
    exact⟨by rw[HX.out];rfl,O2.out⟩
   ·have e4:decide (s.p < -500000)=false:=by simp;omega
    have e5:decide (s.p > 500000)=true:=by simp;omega
    have e6:decide (500000<s.p)=true:=by simp;omega
    clear ha hp;go_wp2;go_ret
    exact⟨by rw[HX.out];rfl,O2.out⟩
 ·have HX:Hid (res=3):=hid (by rw[HSE.out,if_neg (fun q=>ha q.1)])
  rcases dP ha with hq|⟨hq,hr⟩
  ·have e1:decide (s.a<0)=true:=by simp;omega
   clear ha;go_wp2;go_ret
   exact⟨by rw[HX.out];rfl,O2.out⟩
  ·have e1:decide (s.a<0)=false:=by simp;omega
   have e2:decide (s.a > 1125899906842624)=true:=by simp;omega
   have e3:decide (1125899906842624<s.a)=true:=by simp;omega
   clear ha;go_wp2;go_ret
   exact⟨by rw[HX.out];rfl,O2.out⟩
theorem rOsc {w:World} {p:Option Addr} {n cap:Nat} {l:List Sg} (ph:Int) (hv:aS I8 2 w p n cap l) (hn:n<=100000) :
  Calls Tryz.prog 42 #[.agg #[.int .i64 ph,.slice p n cap]] w fun e w'=>e=.returned (.int .i64 (cZ ph l))/\Only [] w w':=by
 have hl:=hv.len;subst hl;have HV:=hid hv;clear hv;go_enter Tryz.func42,Tryz.ntmps42
 go_upto_region 1 with (fail)
 refine aF (G:=fun w0=>Code.wp _ _ _ _ w0) ?_;intro w1 hb1 ho1 hs1;have B1:=hid hb1;have O1:=hid ho1;clear hb1 ho1 hs1;have g0:=aA B1.out 0;have g1:=aA B1.out 1;have l0:=aD B1.out;by_cases h0:l.length=0
 ·have d1:((l.length:Int) == 0)=true:=by rw[h0];rfl
  have HR:Hid (cZ ph l=14):=hid (by unfold cZ;rw[if_pos h0]);go_wp2;go_ret
  exact⟨by rw[HR.out];rfl,O1.out⟩
 ·have d1:((l.length:Int) == 0)=false:=by rw[beq_eq_false_iff_ne];omega
  by_cases h16:16<l.length
  ·have d2:decide ((l.length:Int) > 16)=true:=by simp;omega
   have d3:decide (16<(l.length:Int))=true:=by simp;omega
   have HR:Hid (cZ ph l=6):=hid (by unfold cZ;rw[if_neg h0,if_pos h16]);go_wp2;go_ret
   exact⟨by rw[HR.out];rfl,O1.out⟩
  ·have d2:decide ((l.length:Int) > 16)=false:=by simp;omega
   have d3:decide (16<(l.length:Int))=false:=by simp;omega
   by_cases hph:bI ph (-1125899906842624) 1125899906842624=true
   ·obtain⟨p0,p1⟩:=bH.1 hph
    have e1:decide (ph < -1125899906842624)=false:=by simp;omega
    have e2:decide (ph > 1125899906842624)=false:=by simp;omega
    have e3:decide (1125899906842624<ph)=false:=by simp;omega
    have HR:Hid (cZ ph l=fe (vY l) l.length 0):=hid (by unfold cZ;rw[if_neg h0,if_neg h16,if_pos hph]);clear hph;go_wp2;go_loopw [3] (fun vi wr=>OscR w1 l vi wr) (fun vi _=>l.length-(intOf vi).toNat)
    case atStart=>exact⟨0,Nat.zero_le _,rfl,rfl,Only.refl _ _⟩
    case round =>
     clear d1 d2 d3 e1 e2 e3 p0 p1 g0 g1 l0;obtain⟨k,hk,rfl,hfe,ho⟩:=hrel;have HF:=hid hfe;have OO:=hid ho;have OA:=hid (O1.out.aB ho);have B2:=hid (ho.got B1.out (by simp));clear hfe ho;have g0:=aA B2.out 0;have g1:=aA B2.out 1;have l0:=aD B2.out;by_cases hlt:k<l.length
     ·have HNO:Hid (vY l k≠0->cZ ph l=vY l k):=hid (fun h=>by rw[HR.out,HF.out,mG hlt h])
      have HYE:Hid (vY l k=0->fe (vY l) l.length 0=fe (vY l) (l.length-(k+1)) (k+1)):=hid (fun h=>by rw[HF.out,iQ hlt h]);have HS:=hid (rSeg ph k hlt (HV.out.kept OA.out) hn);generalize vY l k=res at HNO HYE HS;go_wp2_with fail
      refine HS.out.mono ?_;rintro e w2 ⟨rfl,ho2⟩;have O2:=hid (OO.out.aB ho2);have OB:=hid (OA.out.aB ho2);clear ho2;by_cases hr:res=0
      ·have HX:=hid (HYE.out hr)
       have r1:(res != 0)=false:=by simp[hr]
       have r2:(res == 0)=true:=by simp[hr]
       clear hr HNO HYE;go_wp2;go_roundw
       case rel=>exact⟨k+1,by omega,by go_num,HX.out,O2.out⟩
       case measure=>first|(simp[intOf];done)|(simp[intOf];omega)
      ·have HX:=hid (HNO.out hr)
       have r1:(res != 0)=true:=by simp[hr]
       have r2:(res == 0)=false:=by simp[hr]
       clear hr HNO HYE;go_wp2;go_ret
       exact⟨by rw[HX.out];rfl,OB.out⟩
     ·have HX:Hid (cZ ph l=0):=hid (by rw[HR.out,HF.out,iR (by omega)])
      obtain rfl:k=l.length:=by omega
      go_wp2;go_ret
      exact⟨by rw[HX.out];rfl,OA.out⟩
   ·have HR:Hid (cZ ph l=3):=hid (by unfold cZ;rw[if_neg h0,if_neg h16,if_neg hph])
    rcases dP hph with hq|⟨hq,hr⟩
    ·have e1:decide (ph < -1125899906842624)=true:=by simp;omega
     clear hph;go_wp2;go_ret
     exact⟨by rw[HR.out];rfl,O1.out⟩
    ·have e1:decide (ph < -1125899906842624)=false:=by simp;omega
     have e2:decide (ph > 1125899906842624)=true:=by simp;omega
     have e3:decide (1125899906842624<ph)=true:=by simp;omega
     clear hph;go_wp2;go_ret
     exact⟨by rw[HR.out];rfl,O1.out⟩
theorem V9 {w:World} {p:Option Addr} {n cap:Nat} {l:List Sg} (ph:Int) (hv:aS I8 2 w p n cap l) (hn:n<=100000) :
  Calls Tryz.prog 43 #[.agg #[.int .i64 ph,.slice p n cap]] w fun e w'=>e=.returned (.int .i64 (kV ph l))/\Only [] w w':=by
 have hl:=hv.len;subst hl;have HV:=hid hv;clear hv;go_enter Tryz.func43,Tryz.ntmps43
 go_wp2_with fail
 refine aF (G:=fun w0=>Calls _ _ _ w0 _) ?_;intro w1 hb1 ho1 hs1;have B1:=hid hb1;have O1:=hid ho1;clear hb1 ho1 hs1;refine (rOsc ph (HV.out.kept O1.out) hn).mono ?_;rintro e w2 ⟨rfl,ho2⟩;have B2:=hid (ho2.got B1.out (by simp));have O2:=hid (O1.out.aB ho2);clear ho2 B1 O1;have g0:=aA B2.out 0;have g1:=aA B2.out 1;have l0:=aD B2.out;by_cases hc:cZ ph l=0
 ·have HR:Hid (kV ph l=tC l):=hid (by unfold kV;rw[if_pos hc])
  have hall:∀ s∈l,-500000<=s.p/\s.p<=500000:=fun s hs=>by
   obtain⟨i,hi,rfl⟩:=List.getElem_of_mem hs;have:=(PX hc).2.2.2 i hi;unfold vY at this;by_cases hq:bI (l.getD i jS).a 0 1125899906842624=true/\bI (l.getD i jS).p (-500000) 500000=true
   ·have h2:=bH.1 hq.2
    rwa [show l.getD i jS=l[i] by simp[List.getD_eq_getElem?_getD,hi]] at h2
   ·rw[if_neg hq] at this;cases this
  have HAL:=hid hall;rw[hc];clear hc hall;go_wp2;go_loopw [3,4] (fun v vi wr=>BndR w2 l v vi wr) (fun _ vi _=>l.length-(intOf vi).toNat)
  case atStart=>exact⟨0,Nat.zero_le _,rfl,rfl,Only.refl _ _⟩
  case round =>
   clear g0 g1 l0;obtain⟨k,hk,rfl,rfl,ho⟩:=hrel;have OO:=hid ho;have OA:=hid (O2.out.aB ho);have B3:=hid (ho.got B2.out (by simp));clear ho;have g1:=aA B3.out 1;have l0:=aD B3.out;by_cases hlt:k<l.length
   ·obtain⟨bk,off,hp,c0,c1,lb⟩:=HV.out.sg OA.out hlt
    subst hp;have hgk:=getD_some jS hlt;have hsb:=HAL.out _ (List.mem_of_getElem? hgk);have htk:tC (l.take (k+1))=max (max (tC (l.take k)) (l.getD k jS).p) (-(l.getD k jS).p):=by rw[List.take_add_one,hgk];exact EC _ _
    have hmb:=PW (l:=l.take k) (fun s hs=>HAL.out s (List.mem_of_mem_take hs));generalize l.getD k jS=s at c0 c1 hsb htk;generalize tC (l.take k)=z at hmb htk |-;have HTK:=hid htk;clear hgk htk;obtain⟨s0,s1⟩:=hsb;obtain⟨m0,m1⟩:=hmb;go_wp2_with fail
    go_quiet (fail)
    go_wp2;go_roundw
    case rel=>exact⟨k+1,by omega,by go_num,by rw[HTK.out];first|rfl|(congr 1;omega),OO.out.aB (dY _ _)⟩
    case measure=>first|(simp[intOf];done)|(simp[intOf];omega)
   ·rw[List.take_of_length_le (by omega)]
    obtain rfl:k=l.length:=by omega
    go_wp2;go_ret
    exact⟨by rw[HR.out];rfl,OA.out⟩
 ·have HR:Hid (kV ph l=0):=hid (by unfold kV;rw[if_neg hc])
  have b1:(cZ ph l == 0)=false:=by simp[hc]
  have b2:(cZ ph l != 0)=true:=by simp[hc]
  clear hc;go_wp2;go_ret
  exact⟨by rw[HR.out];rfl,O2.out⟩
end
section
theorem qI (n lim:Int) (w:World):Calls Tryz.prog 65 #[.int .i64 n,.int .i64 lim] w fun e w'=>e=.returned (.bool (bI n 0 lim))/\w=w':=by
 by_cases h0:0<=n
 focus
  have d1:decide (n >= 0)=true:=by simpa using h0
  have d2:decide (0<=n)=true:=by simpa using h0
  have HR:Hid (bI n 0 lim=decide (n<=lim)):=hid (by simp[bI,h0])
 rotate_left
 focus
  have d1:decide (n >= 0)=false:=by simpa using h0
  have d2:decide (0<=n)=false:=by simpa using h0
  have HR:Hid (bI n 0 lim=false):=hid (by simp[bI,h0])
 rotate_left
 all_goals
  clear h0;go_enter Tryz.func65,Tryz.ntmps65
  go_wp2;go_ret
  exact⟨by rw[HR.out];rfl,rfl⟩
theorem rLink {w:World} {p:Option Addr} {n cap:Nat} (l:Lk) (hv:aS UE 3 w p n cap l.ch) (hn:n<=100000) :
  Calls Tryz.prog 45 #[MN l p n cap] w fun e w'=>e=.returned (.int .i64 (bV l))/\Only [] w w':=by
 have hl:=hv.len;subst hl;have HV:=hid hv;clear hv;unfold MN;go_enter Tryz.func45,Tryz.ntmps45
 go_upto_region 1 with (fail)
 refine aF (G:=fun w0=>Code.wp _ _ _ _ w0) ?_;intro w1 hb1 ho1 hs1;have B1:=hid hb1;have O1:=hid ho1;clear hb1 ho1 hs1;have g0:=aA B1.out 0;have g1:=aA B1.out 1;have g2:=aA B1.out 2;have g3:=aA B1.out 3;have g4:=aA B1.out 4;have g6:=aA B1.out 6;have l0:=aD B1.out;go_wp2_with fail
 refine (qI l.d0 10000000000 w1).mono ?_;rintro e w2 ⟨rfl,rfl⟩;by_cases h1:bI l.d0 0 10000000000=true
 ·rw [h1]
  go_wp2_with fail
  refine (qI l.d1 10000000000 w1).mono ?_;rintro e w2 ⟨rfl,rfl⟩;by_cases h2:bI l.d1 0 10000000000=true
  ·rw [h2]
   go_wp2_with fail
   refine (qI l.v0 10000000000 w1).mono ?_;rintro e w2 ⟨rfl,rfl⟩;by_cases h3:bI l.v0 0 10000000000=true
   ·rw [h3]
    go_wp2_with fail
    refine (qI l.v1 10000000000 w1).mono ?_;rintro e w2 ⟨rfl,rfl⟩;by_cases h4:bI l.v1 0 10000000000=true
    ·rw [h4]
     go_wp2_with fail
     refine (qI l.lo 1000 w1).mono ?_;rintro e w2 ⟨rfl,rfl⟩;by_cases h5:bI l.lo 0 1000=true
     ·rw [h5]
      have HR:Hid (bV l=if l.ch.all tQ=true then (if 16<l.ch.length then 6 else fe (chO l.ch) (l.ch.length-1) 1) else 3):=hid (by unfold bV;rw[if_pos (by unfold UD;rw[h1,h2,h3,h4,h5];rfl)]);clear h1 h2 h3 h4 h5;clear g0 g1 g2 g3 g4;go_wp2;go_loopw [3] (fun vi wr=>LcI w1 l.ch vi wr) (fun vi _=>l.ch.length-(intOf vi).toNat)
      case atStart=>exact⟨0,Nat.zero_le _,rfl,rfl,Only.refl _ _⟩
      case round =>
       clear g6 l0;obtain⟨k,hk,rfl,hall,ho⟩:=hrel;have HA:=hid hall;have OO:=hid ho;have OA:=hid (O1.out.aB ho);have B3:=hid (ho.got B1.out (by simp));clear hall ho;have g6:=aA B3.out 6;have l0:=aD B3.out;by_cases hlt:k<l.ch.length
       ·obtain⟨bk,off,hp,c0,c1,c2,lb⟩:=HV.out.ch OA.out hlt
        subst hp;have hgk:=getD_some CP hlt;have hmem:=List.mem_of_getElem? hgk;have htk:(l.ch.take (k+1)).all tQ=tQ (l.ch.getD k CP):=by rw[List.take_add_one,hgk];simp[List.all_append,HA.out]
        have HNO:Hid (tQ (l.ch.getD k CP)=false->bV l=3):=hid (fun h=>by rw[HR.out,if_neg (fun hq=>by rw[List.all_eq_true] at hq;rw[hq _ hmem] at h;cases h)]);generalize l.ch.getD k CP=c at c0 c1 c2 htk HNO hgk hmem;have HTK:=hid htk;clear hgk hmem htk;go_upto_region 7 with (fail)
        refine aF (G:=fun w0=>Code.wp _ _ _ _ w0) ?_;intro w4 hb4 ho4 hs4;have E4:=hid hb4;have O4:=hid (OO.out.aB ho4);have OB:=hid (OA.out.aB ho4);clear hb4 ho4 hs4 c0 c1 c2 lb g6 l0;have c0:=aA E4.out 0;have c1:=aA E4.out 1;have c2:=aA E4.out 2;have le:=aD E4.out;go_wp2_with fail
        refine (qI c.a 1125899906842624 w4).mono ?_;rintro e w5 ⟨rfl,rfl⟩;by_cases ha:bI c.a 0 1125899906842624=true
        ·rw[ha]
         go_wp2_with fail
         refine (qI c.d 1 w4).mono ?_;rintro e w5 ⟨rfl,rfl⟩;by_cases hd:bI c.d 0 1=true
         ·rw[hd]
          go_wp2_with fail
          refine (qI c.y 10000000000 w4).mono ?_;rintro e w5 ⟨rfl,rfl⟩;by_cases hy:bI c.y 0 10000000000=true
          ·rw[hy]
           have HX:=hid (HTK.out.trans (show tQ c=true by unfold tQ;rw[ha,hd,hy];rfl));clear ha hd hy;go_wp2;go_roundw
           case rel=>exact⟨k+1,by omega,by go_num,HX.out,O4.out⟩
           case measure=>first|(simp[intOf];done)|(simp[intOf];omega)
          ·have HX:=hid (HNO.out (show tQ c=false by unfold tQ;rw[Bool.not_eq_true] at hy;rw[ha,hd,hy];rfl))
           rw[Bool.not_eq_true] at hy;rw[hy];clear ha hd hy;go_wp2;go_ret
           exact⟨by rw[HX.out];rfl,OB.out⟩
         ·rw[Bool.not_eq_true] at hd
          rw[hd];have HX:=hid (HNO.out (show tQ c=false by unfold tQ;rw[ha,hd];rfl));clear ha hd;go_wp2;go_ret
          exact⟨by rw[HX.out];rfl,OB.out⟩
        ·rw[Bool.not_eq_true] at ha
         rw[ha];have HX:=hid (HNO.out (show tQ c=false by unfold tQ;rw[ha];rfl));clear ha;go_wp2;go_ret
         exact⟨by rw[HX.out];rfl,OB.out⟩
       ·obtain rfl:k=l.ch.length:=by omega
        have hal:=HA.out;rw[List.take_of_length_le (Nat.le_refl _)] at hal;have hr2:=HR.out;rw[if_pos hal] at hr2;by_cases h16:16<l.ch.length
        ·have d2:decide ((l.ch.length:Int) > 16)=true:=by simp;omega
         have d3:decide (16<(l.ch.length:Int))=true:=by simp;omega
         have HX:Hid (bV l=6):=hid (by rw[hr2,if_pos h16]);clear hr2 hal;go_wp2;go_ret
         exact⟨by rw[HX.out];rfl,OA.out⟩
        ·have d2:decide ((l.ch.length:Int) > 16)=false:=by simp;omega
         have d3:decide (16<(l.ch.length:Int))=false:=by simp;omega
         have HX:Hid (bV l=fe (chO l.ch) (l.ch.length-1) 1):=hid (by rw[hr2,if_neg h16]);clear hr2 hal;obtain⟨wo,hwo⟩:∃ wo:World,wo=wr:=⟨_,rfl⟩;subst hwo;go_wp2;go_loopw [5] (fun vi wr=>LcJ wo l.ch vi wr) (fun vi _=>l.ch.length-(intOf vi).toNat)
         case atStart=>exact⟨1,Nat.le_refl _,rfl,rfl,Only.refl _ _⟩
         case round =>
          clear g6 l0 d2 d3;obtain⟨k,hk,rfl,hfe,ho⟩:=hrel;have HF:=hid hfe;have OO':=hid ho;have OA':=hid (OA.out.aB ho);have B4:=hid (ho.got B3.out (by simp));clear hfe ho;have g6:=aA B4.out 6;have l0:=aD B4.out;by_cases hlt:k<l.ch.length
          ·obtain⟨bk,off,hp,c0,c1,c2,lb⟩:=HV.out.ch OA'.out hlt
           obtain⟨bk',off',hp',p0,p1,p2,lb'⟩:=HV.out.ch OA'.out (show k-1<l.ch.length by omega);subst hp
           cases hp'
           clear p1 p2 lb' c1 c2;have hE:chO l.ch k=if (l.ch.getD k CP).a<(l.ch.getD (k-1) CP).a then 12 else 0:=rfl
           generalize l.ch.getD k CP=s at c0 hE;generalize l.ch.getD (k-1) CP=t at p0 hE;have hi1:(1:Int)<=(k:Int):=by omega
           have hi2:(k:Int)-1<(l.ch.length:Int):=by omega
           have hi3:IntKind.i64.wrap ((k:Int)-1)=(k:Int)-1:=IntWalk.i64_in _ (by omega);have hi4:((k:Int)-1).toNat=k-1:=by omega
           by_cases hc:s.a<t.a
           ·have z1:decide (s.a<t.a)=true:=by simp[hc]
            rw[if_pos hc] at hE;have HY:Hid (bV l=12):=hid (by rw[HX.out,HF.out,mG hlt (by rw[hE];decide),hE]);clear hE hc;go_wp2_with fail
            go_quiet (fail)
            go_wp2;go_ret
            exact⟨by rw[HY.out];rfl,OA'.out.aB (dY _ _)⟩
           ·have z1:decide (s.a<t.a)=false:=by simpa using hc
            rw[if_neg hc] at hE;have HY:=hid (HF.out.trans (iQ hlt hE));clear hE hc;go_wp2_with fail
            go_quiet (fail)
            clear hi3 hi4;go_wp2;go_roundw
            case rel=>exact⟨k+1,by omega,by go_num,HY.out,OO'.out.aB (dY _ _)⟩
            case measure=>first|(simp[intOf];done)|(simp[intOf];omega)
          ·have HY:Hid (bV l=0):=hid (by rw[HX.out,HF.out,iR (by omega)])
           have n1:decide ((k:Int)<(l.ch.length:Int))=false:=by simp;omega
           have n2:decide (k<l.ch.length)=false:=by simp;omega
           go_wp2;go_ret
           exact⟨by rw[HY.out];rfl,OA'.out⟩
     ·rw[Bool.not_eq_true] at h5
      have HR:Hid (bV l=3):=hid (by unfold bV;rw[if_neg (by unfold UD;rw[h1,h2,h3,h4,h5];simp)]);rw[h5];clear h1 h2 h3 h4 h5;go_wp2;go_ret
      exact⟨by rw[HR.out];rfl,O1.out⟩
    ·rw[Bool.not_eq_true] at h4
     have HR:Hid (bV l=3):=hid (by unfold bV;rw[if_neg (by unfold UD;rw[h1,h2,h3,h4];simp)]);rw[h4];clear h1 h2 h3 h4;go_wp2;go_ret
     exact⟨by rw[HR.out];rfl,O1.out⟩
   ·rw[Bool.not_eq_true] at h3
    have HR:Hid (bV l=3):=hid (by unfold bV;rw[if_neg (by unfold UD;rw[h1,h2,h3];simp)]);rw[h3];clear h1 h2 h3;go_wp2;go_ret
    exact⟨by rw[HR.out];rfl,O1.out⟩
  ·rw[Bool.not_eq_true] at h2
   have HR:Hid (bV l=3):=hid (by unfold bV;rw[if_neg (by unfold UD;rw[h1,h2];simp)]);rw[h2];clear h1 h2;go_wp2;go_ret
   exact⟨by rw[HR.out];rfl,O1.out⟩
 ·rw[Bool.not_eq_true] at h1
  have HR:Hid (bV l=3):=hid (by unfold bV;rw[if_neg (by unfold UD;rw[h1];simp)]);rw[h1];clear  h1;go_wp2;go_ret
  exact⟨by rw[HR.out];rfl,O1.out⟩
end
end Go.Proofs.YthbgcpfklmlnjaaGreat
