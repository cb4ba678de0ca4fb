/- Mx Egx -/
import Derived.Test.YtppjhbjmfkiejaaGreatFV5
import Derived.Test.YtppjhbjmfkiejaaGreatFJl
namespace Go.Proofs.YtppjhbjmfkiejaaGreat
open List (length_map mem_cons mem_map mem_singleton)
set_option maxRecDepth 100000
set_option maxHeartbeats 8000000
open Go.RowKit
def GU (l:List Cd):Int:=if I9 l=0 then (match sel l with
 | some _=>0
 | none=>11) else I9 l
def SelX (w0:World) (l:List Cd) (e:Ending) (w:World):Prop:=
 ∃ (v:Value) (h:Iv) (ins:List Int) (er:Int),e=.returned (.tuple #[v,dV h,.int .i64 er])/\Own fC 3 1 w0.heap.size w v ins/\er=GU l/\(er=0->Gd l/\sel l=some (ins,h))
theorem YH {w:World} {p:Option Addr} {n cap:Nat} {l:List Cd} (hv:aU iZ 5 w p n cap l) (hn:n<=100000) :
  Calls Tryz.prog 238 #[.slice p n cap] w fun e w'=>SelX w l e w'/\Oy [] w w':=by
 have hl:=hv.len;subst hl;have HV:=aA hv;clear hv;go_enter Tryz.func238,Tryz.ntmps238
 go_upto_region 1 with (fail)
 refine aG (G:=fun w0=>Code.wp _ _ _ _ w0) ?_;intro w1 hb1 ho1 hs1;have B1:=aA hb1;have O1:=aA ho1;have S1:=aA ho1.size;obtain⟨b,hb⟩:∃ b,w.heap.size=b:=⟨_,rfl⟩;have HB:Hid (w.heap.size<=b):=aA (by omega);rw[hb] at B1;rw[hb];clear hb1 ho1 hs1 hb;have hck:=uK (HV.out.kept O1.out) hn;have hgd:=mV (l:=l);obtain⟨er,her0⟩:∃ er,I9 l=er:=⟨_,rfl⟩;rw[her0] at hck hgd;have HER:=aA her0;clear her0;have HCK:=aA hck;clear hck;go_wp2_with fail
 refine HCK.out.mono ?_;rintro e w2 ⟨rfl,ho2⟩;have O2:=aA (O1.out.aB ho2);have B2:=aA (ho2.got B1.out (by simp));clear ho2 HCK O1 B1;have k3:=aC B2.out 0;have k4:=aC B2.out 1;have l3:=aF B2.out;have z3:=aM B2.out 0;have z4:=aM B2.out 1;by_cases her:er=0
 ·subst her
  have HG:=aA (hgd.1 rfl);clear hgd;go_wp2_with fail
  clear k3 k4 l3 z3 z4;have hlb:l.length<=12:=HG.out.len;go_loopw [6,21] (fun vo vi wr=>SpI w2 l vo vi wr) (fun _ vi _=>l.length-(intOf vi).toNat)
  case atStart=>exact⟨0,Nat.zero_le _,rfl,bR _ _,aR _ _⟩
  case round =>
   obtain⟨k,hk,rfl,hown,ho⟩:=hrel;have OW:=aA hown;have OO:=aA ho;clear hown ho;by_cases hlt:k<l.length
   ·obtain⟨bk,off,hp,hb,c0,c1,c2,c3,c4⟩:=HV.out.cd (O2.out.aB OO.out) hlt
    subst hp;have hle:=(O2.out.aB OO.out).size;have hb':bk<wr.heap.size:=by omega
    have hxo:=HG.out.ok _ (List.getElem_mem hlt)
    have HSN:Hid ((l.take (k+1)).map pV=(l.take k).map pV ++ [pV l[k]]):=aA (by
     rw[List.take_succ_eq_append_getElem hlt,List.map_append];rfl)
    have hfl2:((l.take k).map pV).length<=k:=by rw[length_map,List.length_take];omega
    generalize (l.take k).map pV=acc at OW HSN hfl2;generalize l[k]=x at c0 c1 c2 c3 c4 HSN hxo;have HH:=aA (fun w'=>pSpan x hxo w');generalize pV x=y at HH HSN;obtain⟨id,of,di,ji,st⟩:=x;obtain⟨lo,hi⟩:=y;unfold yJ dV at HH;dsimp only at c0 c1 c2 c3 c4 HH HSN;clear hxo;obtain⟨pp,cap',rfl,_⟩:=Own.dI (enc:=rD) (s:=2) iK OW.out;go_wp2_with fail
    refine aG (G:=fun w0=>Calls _ _ _ w0 _) ?_;intro w3 hb1 ho1 hs1;refine (HH.out w3).mono ?_;rintro r w4 ⟨rfl,ho2⟩;have hoo:=(aR [] wr).aB ho1 |>.aB ho2
    have O4:=aA (OO.out.aB hoo);have W4:=aA (OW.out.kept hoo);clear hb1 ho1 hs1 ho2 hoo c0 c1 c2 c3 c4 OO OW HH;go_wp2_with (at_builtin;refine aW ?_)
    refine aG (G:=fun w0=>Stop (wpList _ _ _ _ _ w0)) ?_;intro w5 hb5 ho5 hs5;have B5:=aA hb5;have O5:=aA (O4.out.aB ho5);have R5:=aA (W4.out.kept ho5);clear hb5 ho5 hs5;refine bH ?_;refine bK (w0:=w2) rfl _ _ 348 rfl 39 (.agg #[.int .i64 0,.int .i64 0]) 2 16 Tryz.underlying348 (by kernel_rfl) rfl (by decide) rD iK zU acc _ rfl R5.out w4.heap.size ⟨lo,hi⟩ rfl (fun j u hj=>?_) (by simp[maxLen];omega) (by omega) O5.out ?_
    ·rw[aC B5.out,<-hj];simp[rD]
    intro v6 w6 hown6 ho6 _;have W6:=aA hown6;have O6:=aA ho6;clear hown6 ho6;go_wp2;go_roundw
    case rel=>exact⟨k+1,by omega,by go_num,by rw[HSN.out];exact W6.out,O6.out⟩
    case measure=>first|(simp[intOf];done)|(simp[intOf];omega)
   ·rw [List.take_of_length_le (by omega)] at OW
    obtain⟨w3,rfl⟩:∃ w3:World,w3=wr:=⟨_,rfl⟩;obtain⟨pp,cap',rfl,hvr⟩:=Own.dI (enc:=rD) (s:=2) iK OW.out;rw[length_map] at hvr;have SV:=aA hvr;have O3:=aA (O2.out.aB OO.out);have B3:=aA (OO.out.got B2.out (by simp));clear hvr OW OO B2 O2;rw[length_map];go_wp2_with fail
    go_loopw [9] (fun va wr=>SeI w3 l va wr) (fun va _=>l.length+1-(intOf va).toNat)
    case atStart=>exact⟨0,l.length+1,rfl,Nat.zero_le _,by omega,rfl,aR _ _⟩
    case round =>
     obtain⟨a,f,rfl,hal,hfa,hsel,ho⟩:=hrel;have HSE:=aA hsel;have OO:=aA ho;have OA:=aA (O3.out.aB ho);have BA:=aA (ho.got B3.out (by simp));have VA:=aA (SV.out.kept ho);have VL:=aA (HV.out.kept (O3.out.aB ho));clear hsel ho;have k3:=aC BA.out 0;have k4:=aC BA.out 1;have l3:=aF BA.out;have z3:=aM BA.out 0;have z4:=aM BA.out 1;by_cases h2:2*a<l.length
     ·obtain⟨f',rfl⟩:∃ f',f=f'+1:=⟨f-1,by omega⟩
      have HST:Hid (sel l=match EP l a with
       | some x=>some x
       | none=>BH l f' (a+1)):=aA (by rw[HSE.out,BH,if_pos h2];rfl)
      have HSA:Hid (EP l a=match rF (l.map pV) ((l.length:Int)-a) with
       | none=>none
       | some h=>if (l.length:Int)-((uX (NU h) l 0).length:Int)<=a then some (uX (NU h) l 0,h) else none):=aA rfl
      have hH:=pHull VA.out (by rw[length_map];omega) ((l.length:Int)-a);generalize rF (l.map pV) ((l.length:Int)-a)=hu at HSA hH;generalize EP l a=sa at HST HSA;have HH:=aA hH;have q1:(2:Int)*(a:Int)<(l.length:Int):=by omega
      clear hH HSE;go_wp2_with fail
      refine HH.out.mono ?_;rintro e w4 ⟨rfl,ho4⟩;have O4:=aA (OO.out.aB ho4);have A4:=aA (OA.out.aB ho4);have B4:=aA (ho4.got BA.out (by simp));have V4:=aA (VL.out.kept ho4);clear ho4 k3 k4 l3 z3 z4 BA VA VL HH OO OA
      cases hu with
      | none =>
       obtain rfl:sa=none:=by rw[HSA.out]
       have HN:Hid (sel l=BH l f' (a+1)):=aA HST.out;clear HSA HST;simp only[kK,dV];go_wp2;go_roundw
       case rel=>exact⟨a+1,f',by go_num,by omega,by omega,HN.out,(O4.out.alloc _)⟩
       case measure=>simp[intOf];omega
      | some h =>
       have HS2:Hid (sa=if (l.length:Int)-((uX (NU h) l 0).length:Int)<=a then some (uX (NU h) l 0,h) else none):=aA HSA.out;clear HSA;have hpl:=zN (NU h) l 0;simp only[kK,dV];go_upto_region 15 with (fail)
       refine aG (G:=fun w0=>Code.wp _ _ _ _ w0) ?_;intro w5 hb5 ho5 hs5;obtain⟨bh,hbh⟩:∃ bh,w4.heap.size=bh:=⟨_,rfl⟩;rw[hbh] at hb5;rw[hbh];have E5:=aA hb5;have O5:=aA (O4.out.aB ho5);have A5:=aA (A4.out.aB ho5);have B5:=aA (ho5.got B4.out (by simp));have HP:=aA (pPick (b:=bh) (fit:=NU h) (V4.out.kept ho5) (by omega) (fun c w' ho=>pInside (ho.got hb5 (by simp)) c));clear hb5 ho5 hs5 hbh O4 A4 B4 V4;generalize uX (NU h) l 0=ins at HS2 hpl HP;go_wp2_with fail
       refine HP.out.mono ?_;rintro e w6 ⟨⟨v6,rfl,hown6⟩,ho6⟩;have O6:=aA (O5.out.aB ho6);have A6:=aA (A5.out.aB ho6);have B6:=aA (ho6.got B5.out (by simp));have E6:=aA (ho6.got E5.out (by simp));have W6:=aA hown6;have HB5:Hid (w.heap.size<=w5.heap.size/\b<w5.heap.size):=aA ⟨A5.out.size,aF B5.out⟩;obtain⟨p6,c6,rfl,_⟩:=Own.dI (enc:=fC) (s:=1) dM hown6;clear ho6 hown6 O5 A5 B5 E5 HP;have m0:=aC E6.out 0;have m1:=aC E6.out 1;have lm:=aF E6.out;have k3:=aC B6.out 0;have k4:=aC B6.out 1;have l3:=aF B6.out;have z3:=aM B6.out 0;have z4:=aM B6.out 1;by_cases hle:(l.length:Int)-(ins.length:Int)<=a
       ·have HS3:Hid (sel l=some (ins,h)):=aA (by rw[HST.out,HS2.out,if_pos hle])
        clear HST HS2;go_wp2_with fail
        refine aP [0,1,2] [3,4] (by kernel_rfl) (by kernel_rfl) ?_;simp only[bV];iterate 3 (refine wpQuiet_step (fun K hK=>?_);go_simp;refine hK _ ?_;clear hK K)
        refine wpQuiet_nil ?_;intro w7 hw7;have P7:=aA (aN hw7);have A7:=aA (A6.out.aB P7.out);have B7:=aA (P7.out.got B6.out (by simp));have W7:=aA (W6.out.kept P7.out);clear hw7 m0 m1 lm k3 k4 l3 z3 z4;have k3:=aC B7.out 0;have k4:=aC B7.out 1;have l3:=aF B7.out;have z3:=aM B7.out 0;have z4:=aM B7.out 1;go_wp2;have HD:=aH (o:=1) (.int .i64 h.hi) (aH (o:=0) (.int .i64 h.lo) B7.out);have e0:=aC HD 0;have e1:=aC HD 1;have le:=aF HD;refine bodyPost_ret (v:=.tuple #[.slice p6 ins.length c6,dV h,.int .i64 0]) (by simp[results,Tryz.results238,go_sem,e0,e1,dV]) rfl ⟨⟨_,h,ins,0,rfl,?_,by unfold GU;rw[HER.out,if_pos rfl,HS3.out],fun _=>⟨HG.out,HS3.out⟩⟩,?_⟩
        ·exact (W7.out.lT (((aR [b] w7).setCell (p:=⟨b,0,none⟩) (.inl (by simp)) (.int .i64 h.lo)).setCell (p:=⟨b,1,none⟩) (.inl (by simp)) (.int .i64 h.hi)) (fun x hx=>by rw[mem_singleton] at hx;rw[hx];exact HB5.out.2)).base HB5.out.1
        ·exact (A7.out.setCell (.inr HB.out) _).setCell (.inr HB.out) _
       ·have HS3:Hid (sel l=BH l f' (a+1)):=aA (by rw[HST.out,HS2.out,if_neg hle])
        clear HST HS2;go_wp2;go_roundw
        case rel=>exact⟨a+1,f',by go_num,by omega,by omega,HS3.out,O6.out⟩
        case measure=>simp[intOf];omega
     ·have HS3:Hid (sel l=none):=aA (by
       rw[HSE.out]
       cases f with
       | zero=>rfl
       | succ f=>rw[BH,if_neg h2])
      have q1:¬ (2:Int)*(a:Int)<(l.length:Int):=by omega
      have q2:decide ((2:Int)*(a:Int)<(l.length:Int))=false:=decide_eq_false q1;clear HSE;go_wp2;have HD:=aH (o:=1) (.int .i64 0) (aH (o:=0) (.int .i64 0) BA.out);have e0:=aC HD 0;have e1:=aC HD 1;have le:=aF HD;refine bodyPost_ret (v:=.tuple #[.slice none 0 0,dV ⟨0,0⟩,.int .i64 11]) (by simp[results,Tryz.results238,go_sem,e0,e1,dV]) rfl ⟨⟨_,⟨0,0⟩,[],11,rfl,bR _ _,by unfold GU;rw[HER.out,if_pos rfl,HS3.out],fun h=>absurd h (by decide)⟩,?_⟩;exact (OA.out.setCell (.inr HB.out) _).setCell (.inr HB.out) _
 ·have r1:(er != 0)=true:=by simp[her]
  have r2:(er == 0)=false:=by simp[her]
  have HG:Hid (er≠0/\¬ Gd l):=aA ⟨her,fun h=>her (hgd.2 h)⟩;clear hgd her;go_wp2_with fail
  have HD:=aH (o:=1) (.int .i64 0) (aH (o:=0) (.int .i64 0) B2.out);have e0:=aC HD 0;have e1:=aC HD 1;have le:=aF HD;refine bodyPost_ret (v:=.tuple #[.slice none 0 0,dV ⟨0,0⟩,.int .i64 er]) (by simp[results,Tryz.results238,go_sem,e0,e1,dV]) rfl ⟨⟨_,⟨0,0⟩,[],er,rfl,bR _ _,by unfold GU;rw[HER.out,if_neg HG.out.1],fun h=>absurd h HG.out.1⟩,?_⟩;exact (O2.out.setCell (.inr HB.out) _).setCell (.inr HB.out) _
section
open Go.Sort
def tF (c:Cl) (raw:Int) (a:Ac) (er:Int) (c':Cl):Prop:=
 ((aI c raw).2.1≠0/\a=⟨0,0⟩/\er=(aI c raw).2.1/\c'=(aI c raw).2.2) \/
 ((aI c raw).2.1=0/\((er≠0/\er=GU (kH (fM c raw) raw)/\a=⟨0,0⟩/\c'=fM c raw) \/
  (∃ ins hv,Gd (kH (fM c raw) raw)/\sel (kH (fM c raw) raw)=some (ins,hv)/\(a,er,c')=jB (fM c raw) raw (aI c raw).1 (gZ (mY c raw ins)) (mY c raw ins))))
theorem YA {w:World} {P:Pl} {c:Cl} (h:bP w P c) (hok:tK c) (hsv:JG c.sv) (hg:∀ s∈c.srcs,JH s) (htol:0<=c.cf.tol/\c.cf.tol<=500000) (hkp:1<=c.cf.keep) (hrd: -4503599627370496<=c.rd/\c.rd<=4503599627370496) (raw:Int) (r0: -9223372036854775808<=raw) (r1:raw<=9223372036854775807) :
  Calls Tryz.prog 231 #[.pointer (some ⟨P.bc,0,none⟩),.int .i64 raw] w fun e w'=>∃ a er c',e=.returned (.tuple #[VI a,.int .i64 er])/\tF c raw a er c'/\(∃ P',P'.bc=P.bc/\bP w' P' c'/\(∀ b∈P'.all,b∈P.all\/w.heap.size<=b))/\Oy P.all w w':=by
 have HN12:P.ps.length<=12:=by have:=h.len;have:=hok.len;have:=hok.s1;omega
 have HC:=aA h;have HEN:=aA (fun w' (o:Oy [] w w')=>qQ (h.kept o) hok.ck raw r0 r1);have HSM:=aA (lW c raw)
 have HBD:=aA (fun (he:(aI c raw).2.1=0)=>And.intro (rM he hok.ck) (show -4503599627370496<=(aI c raw).1/\(aI c raw).1<=4503599627370496 by
  have h1:=DJ (sG he);unfold aI;split<;>exact h1))
 obtain⟨R,HR⟩:∃ R,Hid (R=tF c raw):=⟨_,aA rfl⟩;rw[<-HR.out];have HRE:=aA (show (aI c raw).2.1≠0->R ⟨0,0⟩ (aI c raw).2.1 (aI c raw).2.2 from fun he=>by rw[HR.out];exact .inl ⟨he,rfl,rfl,rfl⟩);have HRS:=aA (show (aI c raw).2.1=0->∀ er,er≠0->er=GU (kH (fM c raw) raw)->R ⟨0,0⟩ er (fM c raw) from fun he er h1 h2=>by rw[HR.out];exact .inr ⟨he,.inl ⟨h1,h2,rfl,rfl⟩⟩);have HRG:=aA (show (aI c raw).2.1=0->∀ ins hv,Gd (kH (fM c raw) raw)->sel (kH (fM c raw) raw)=some (ins,hv)->R (jB (fM c raw) raw (aI c raw).1 (gZ (mY c raw ins)) (mY c raw ins)).1 (jB (fM c raw) raw (aI c raw).1 (gZ (mY c raw ins)) (mY c raw ins)).2.1 (jB (fM c raw) raw (aI c raw).1 (gZ (mY c raw ins)) (mY c raw ins)).2.2 from fun he ins hv h1 h2=>by rw[HR.out];exact .inr ⟨he,.inr ⟨ins,hv,h1,h2,rfl⟩⟩);have HKG:=aA (fun ins hv=>keep_gd (c:=c) (raw:=raw) (ins:=ins) (hv:=hv) hkp);have HCB:=aA (show fM c raw={ (aI c raw).2.2 with own:=vN (aI c raw).2.2 raw,owned:=raw } from rfl);have HUK:=aA (fun ins=>show mY c raw ins=TM c.cf.keep (pJ (kH (fM c raw) raw) ins) from rfl);generalize mY c raw=uk at HRG HKG HUK;generalize fM c raw=cb at HRS HRG HKG HCB HUK;generalize aI c raw=ce at HEN HSM HBD HRE HRS HRG HCB;obtain⟨now,er,c1⟩:=ce;dsimp only at HEN HSM HBD HRE HRS HRG HCB;have HOK:=aA hok;have HSV:=aA hsv;have HG:=aA hg;have HLT:=aA h.lt;have HKP:=aA hkp;clear h hok hsv hg HR hkp;obtain⟨wo,rfl⟩:∃ wo:World,wo=w:=⟨_,rfl⟩;have m:=bJ wo [];have k:=m.zK;go_enter Tryz.func231,Tryz.ntmps231
 go_wp2_with ((with_reducible first|refine cU ?_|refine wU ?_);clear k m;intro w m k)
 refine (HEN.out _ m.zO).mono ?_;rintro e w2 ⟨rfl,hcb,ho2⟩;have hrb:∀ b∈P.all,b<wo.heap.size:=HLT.out;have hbl:=hrb P.bc (by simp[Pl.all]);have hrs:∀ (x:Nat),x∈[wo.heap.size]->x∈P.all\/wo.heap.size<=x:=fun x hx=>.inr (by rw[mem_singleton.1 hx];exact Nat.le_refl _);have HRB:=aA (show ∀ b∈P.all,b ∉ [wo.heap.size] from fun b hb hm=>by have:=hrb b hb;rw[mem_singleton.1 hm] at this;omega);have HLW:Hid (wo.heap.size<w.heap.size):=aA (aF (gB (w:=w) (b:=wo.heap.size)));have hb2:w2.heap[wo.heap.size]? = some (.cells #[.int .i64 0,.int .i64 0] 370 (0,0)):=ho2.got (gB (w:=w)) (by simp;omega);have HC2:=aA ((HC.out.kept m.zO).TI ho2 hcb HSM.out.1 HSM.out.2.1 HSM.out.2.2.1);have O2:=aA ((m.zO.weak (S':=P.all) (by simp)).trans ho2 (by simp[Pl.all]));clear k m HC HEN hcb ho2;obtain⟨wq,rfl⟩:∃ wq:World,wq=w2:=⟨_,rfl⟩;by_cases he:er=0
 rotate_left
 ·have m:=kV hb2;have k:=m.zK
  clear hb2;go_wp2_with (first|((with_reducible refine wU ?_);clear k m;intro w m k)|((with_reducible refine lE (fun w o g k K hK=>⟨rfl,?_⟩));simp[results,Tryz.results231,go_sem,k];refine hK _ ?_;exact⟨⟨0,0⟩,er,c1,rfl,HRE.out he,⟨P,rfl,HC2.out.off o HRB.out,fun b hb=>.inl hb⟩,O2.out.trans o hrs⟩))
 ·subst he
  obtain⟨⟨hb0,hb1⟩,hn0⟩:=HBD.out rfl;have HRN:=aA (fun w' (o:Oy [] wq w')=>BZ (HC2.out.kept o) HN12 (by rw[HSM.out.2.2.2.1];exact HOK.out.s0) (by rw[HSM.out.2.2.2.1];exact HOK.out.s1) raw (fun s hs=>by have:=(HOK.out.src s (by rw[<-HSM.out.2.2.1];exact hs)).2;omega) (by have:=HOK.out.own;rw[HSM.out.2.2.2.2.2];omega) (by have:=HOK.out.own;rw[HSM.out.2.2.2.2.2];omega));have m:=iX hb2;have k:=m.zK;have HB2:=aA hb2;clear hb2;go_wp2_with ((with_reducible first|refine cU ?_|refine wU ?_);clear k m;intro w m k)
  refine (HRN.out _ m.zO).mono ?_;rintro e w3 ⟨rfl,ho3⟩;obtain⟨wp,rfl⟩:∃ wp:World,wp=w3:=⟨_,rfl⟩;have hb3:=ho3.got HB2.out (by simp);have HC3:=aA (HC2.out.kept ho3);have O3:=aA (O2.out.trans ho3 (by simp));obtain⟨⟨x1,x2⟩,hx⟩:∃ x,vN c1 raw=x:=⟨_,rfl⟩;rw[hx] at HCB;rw[hx];unfold dV;have hcb3:=HC3.out.cl;unfold mW at hcb3;clear k m ho3 HRN HB2 hx;have m:Mm wp [P.bc,wo.heap.size] wp _:=⟨((Mem.start wp [P.bc,wo.heap.size]).ext true hb3 (by simp) (by simp)).ext true hcb3 (by simp;omega) (by simp)⟩;have k:=m.zK;clear hb3 hcb3;go_wp2_with ((with_reducible first|refine cU ?_|refine wU ?_);clear k m;intro w m k)
  have HC4:=aA (HC3.out.putB2 (c':=cb) m.zO (fun b hb hm=>by
   rcases mem_cons.1 hm with e|hm
   ·exact e
   ·exact absurd hm (HRB.out b hb)) (by rw[HCB.out];unfold mW;exact gB) (by rw[HCB.out]) (by rw[HCB.out]) (by rw[HCB.out]))
  have O4:=aA (O3.out.trans m.zO (fun x hx=>by
   rcases mem_cons.1 hx with e|hx
   ·exact .inl (by rw[e];simp[Pl.all])
   ·exact hrs x hx))
  have hb4:=gB (w:=w) (b:=wo.heap.size)
  have hln:(kH cb raw).length<=12:=by
   unfold kH;split
   ·have:=DF cb.srcs (aZ cb raw).1 cb.srcs.length
    have:=HC4.out.len;omega
   ·simp
  clear k m HC3 HC2 O2 O3;refine (pCands HC4.out (by rw[HCB.out];dsimp only;rw[HSM.out.1];exact HOK.out.ck) HN12 (by rw[HCB.out];dsimp only;rw[HSM.out.2.2.1];exact HG.out) raw r0 r1).mono ?_;rintro e w4 ⟨⟨v,rfl,hown⟩,hcl4,ho4⟩
  have hbf:wo.heap.size ∉ P.fs:=fun hm=>by
   obtain⟨p,h1,h2⟩:=mem_map.1 hm;have:=hrb p.2.2 (by unfold Pl.all;simp only[mem_cons];exact .inr (.inr (.inr (.inr (List.mem_flatMap.2 ⟨p,h1,by simp⟩)))));omega
  have hb4:=ho4.got hb4 hbf;have HC5:=aA hcl4
  have O5:=aA (O4.out.trans ho4 (fun x hx=>.inl (by
   obtain⟨p,h1,h2⟩:=mem_map.1 hx;unfold Pl.all;simp only[mem_cons];exact .inr (.inr (.inr (.inr (List.mem_flatMap.2 ⟨p,h1,by rw[<-h2];simp⟩)))))))
  generalize kH cb raw=l at HRS HRG HKG HUK hown hln |-;obtain⟨pp,cap',rfl,hv⟩:=Own.dI (enc:=iZ) (s:=5) dQ hown;have HV:=aA hv
  have HCF:Hid (jE cb.ck/\cb.sv=c.sv/\cb.cf=c.cf/\cb.rd=c.rd):=aA (by
   rw[HCB.out];dsimp only;rw[HSM.out.1,HSM.out.2.1,HSM.out.2.2.2.1,HSM.out.2.2.2.2.1];exact⟨HOK.out.ck,rfl,rfl,rfl⟩)
  clear hcl4 ho4 hown hv O4 HC4 HCB;obtain⟨wp2,rfl⟩:∃ wp2:World,wp2=w4:=⟨_,rfl⟩;have m:=kV hb4;have k:=m.zK;clear hb4;go_wp2_with ((with_reducible first|refine cU ?_|refine wU ?_);clear k m;intro w m k)
  refine (YH HV.out (by omega)).mono ?_;rintro e w5 ⟨⟨v5,⟨i1,i2⟩,ins,er,rfl,hown5,hex,hcase⟩,ho5⟩;unfold dV;have hb5:=ho5.got (gB (w:=wp2) (b:=wo.heap.size)) (by simp);have HC6:=aA (HC5.out.kept ho5);have O6:=aA (O5.out.trans ho5 (by simp));have HV6:=aA (HV.out.kept ho5);obtain⟨pq,capq,rfl,hv5⟩:=Own.dI (enc:=fC) (s:=1) dM hown5;have HI6:=aA hv5;clear k m HC5 O5 HV ho5 hown5 hv5;obtain⟨wp3,rfl⟩:∃ wp3:World,wp3=w5:=⟨_,rfl⟩;by_cases he:er=0
  rotate_left
  ·have m:=kV hb5;have k:=m.zK
   clear hb5;have HEX:=aA hex;clear hcase hex;go_wp2_with (first|((with_reducible first|refine cU ?_|refine wU ?_);clear k m;intro w m k)|((with_reducible refine lE (fun w o g k K hK=>⟨rfl,?_⟩));simp[results,Tryz.results231,go_sem,k];refine hK _ ?_;exact⟨⟨0,0⟩,er,cb,rfl,HRS.out trivial er he HEX.out,⟨P,rfl,HC6.out.off o HRB.out,fun b hb=>.inl hb⟩,O6.out.trans o hrs⟩))
  ·subst he
   obtain⟨hgd,hsel⟩:=hcase rfl;obtain⟨hgc,hc0,hgk,hk0,hkid⟩:=HKG.out ins _ hgd hsel;obtain⟨hi0,hi1,hi2,hi3,hi4⟩:=WY hsel;have HRG2:=aA (HRG.out trivial ins _ hgd hsel);have HGC:=aA hgc;have HGK:=aA hgk;have HKI:=aA hkid;have HIN:=aA hi2;have m:=iX hb5;have k:=m.zK;clear hb5 hcase hex HRS HRG HKG hgd hsel hgc hgk hkid hi2 hi3;go_wp2_with ((with_reducible first|refine cU ?_|refine wU ?_);clear k m;intro w m k)
   have M6:=aA m;have HC7:=aA (HC6.out.kept m.zO);have O7:=aA (O6.out.trans m.zO (by simp));have HV7:=aA (HV6.out.kept m.zO);have HI7:=aA (HI6.out.kept m.zO);have hb7:=gB (w:=w) (b:=wo.heap.size);obtain⟨wl,rfl⟩:∃ wl:World,wl=w:=⟨_,rfl⟩;clear k m HC6 O6 HV6 HI6 M6;obtain⟨bl,ol,rfl,hbl2,hcl2⟩:=HV7.out.at (by omega);have HCL:=aA hcl2;clear hcl2;go_loopw [11,51] (fun vo vi wr=>ChI wl l ins vo vi wr) (fun _ vi _=>ins.length-(intOf vi).toNat)
   case atStart=>exact⟨0,Nat.zero_le _,rfl,bR _ _,aR _ _⟩
   case round =>
    obtain⟨k,hk,rfl,hown,ho⟩:=hrel;have OW:=aA hown;have OO:=aA ho;by_cases hlt:k<ins.length
    ·have hik:=HIN.out _ (List.getElem_mem hlt)
     have HSN:Hid (pJ l (ins.take (k+1))=pJ l (ins.take k) ++ [l[ins[k].toNat]?.getD default]):=aA (by unfold pJ;rw[eO ins hlt,List.map_append];rfl);have hcn:(pJ l (ins.take k)).length<=12:=by unfold pJ;rw[length_map,List.length_take];omega
     obtain⟨bi,oi,rfl,hbi,hci⟩:=HI7.out.i64 ho hlt;have hlw:=Nat.lt_of_lt_of_le hbi ho.size;generalize ins[k]=x at HSN hik hci;obtain⟨i,rfl⟩:∃ i:Nat,x=(i:Int):=⟨x.toNat,by omega⟩;have hil:i<l.length:=by omega
     have hil2:(i:Int)<(l.length:Int):=by omega
     rw[Int.toNat_natCast,List.getElem?_eq_getElem hil,Option.getD_some] at HSN;have hcd:=fun w' (o:Oy [] wl w')=>HCL.out i hil w' o;generalize l[i]=d at HSN hcd;obtain⟨d1,d2,d3,d4,d5⟩:=d;simp only[CdF] at hcd;generalize pJ l (ins.take k)=acc at OW HSN hcn;have HX:=aA (fun w' (o:Oy [] wr w')=>And.intro (Nat.lt_of_lt_of_le hlw o.size) (And.intro ((o.cell hlw (by simp)).trans hci) (hcd w' (OO.out.aB o))));clear hcd hci hik hown ho hbi hlw;obtain⟨pa,cap2,rfl,-⟩:=Own.dI (enc:=iZ) (s:=5) dQ OW.out;have HKL:=aA hlt;have hlt2:(k:Int)<(ins.length:Int):=by omega
     have c:=HX.out wr (aR _ wr);have m:=bJ wr [];go_wp2_with (at_builtin;refine aW ?_)
     refine aG (G:=fun w0=>Stop (wpList _ _ _ _ _ w0)) ?_;intro w5 hb5 ho5 hs5;have B5:=aA hb5;have O5:=aA (OO.out.aB ho5);have R5:=aA (OW.out.kept ho5);clear hb5 ho5 hs5;refine bH ?_;refine kX (S:=[]) (w0:=wl) rfl _ _ 377 rfl 382 cdZ 5 40 Tryz.underlying377 zY rfl (by decide) iZ dQ zZ acc (.slice pa acc.length cap2) rfl R5.out wr.heap.size ⟨d1,d2,d3,d4,d5⟩ rfl (fun j u hj=>?_) (by simp[maxLen];omega) (by omega) O5.out ?_
     ·rw[aC B5.out,<-hj];simp[iZ]
     intro v6 w6 hown6 ho6 _;have W6:=aA hown6;have O6:=aA ho6;clear hown6 ho6;go_wp2;go_roundw
     case rel=>exact⟨_,Nat.succ_le_of_lt HKL.out,by go_num,by rw[HSN.out];exact W6.out,O6.out⟩
     case measure=>first|(simp[intOf];done)|(simp[intOf];omega)
    ·obtain rfl:k=ins.length:=by omega
     rw[List.take_length] at OW;obtain⟨wp5,rfl⟩:∃ wp5:World,wp5=wr:=⟨_,rfl⟩;have huk:TM cb.cf.keep (pJ l ins)=uk ins:=by rw[HCF.out.2.2.1,HUK.out]
     obtain⟨pa,cap2,rfl,hvt⟩:=Own.dI (enc:=iZ) (s:=5) dQ OW.out;have HPR:=aA (fun w' (o:Oy [] wp5 w')=>pPruneX (hvt.kept o) HGC.out hc0 cb.cf.keep (by rw[HCF.out.2.2.1];exact HKP.out));rw[huk] at HPR;have hcb9:=(HC7.out.kept ho).cl;unfold mW at hcb9;have hb9:=ho.got hb7 (by simp);have HC9:=aA (HC7.out.kept ho);have O9:=aA (O7.out.trans ho (by simp));generalize uk ins=kp at HPR HGK HKI HRG2 hk0;generalize pJ l ins=tc at HPR;clear OW OO HC7 O7 hvt HI7 HCL huk;have m:Mm wp5 [] wp5 _:=⟨((Mem.start wp5 []).ext false hb9 (by simp) (by simp)).ext false hcb9 (by simp;omega) (by simp)⟩;have k:=m.zK;have HB9:=aA hb9;clear hcb9 hb9 ho;go_wp2_with ((with_reducible first|refine cU ?_|refine wU ?_);clear k m;intro w m k)
     refine (HPR.out _ m.zO).mono ?_;rintro e w7 ⟨⟨g,gcap,rfl,hgs,hrow⟩,ho7⟩;have O10:=aA (O9.out.trans ho7 (by simp));have HC10:=aA (HC9.out.kept ho7);have hb10:=ho7.got HB9.out (by simp);have HR10:=aA hrow;have hgo:g ∉ P.all:=fun hm=>by have:=HC9.out.lt g hm;omega
     clear k m HC9 O9 ho7 HPR HB9 hrow;obtain⟨wp6,rfl⟩:∃ wp6:World,wp6=w7:=⟨_,rfl⟩;have HB10:=aA hb10;have m:=iX hb10;have k:=m.zK;clear hb10;go_wp2_with ((with_reducible first|refine cU ?_|refine wU ?_);clear k m;intro w m k)
     refine (pMean ((HR10.out.kept m.zO (by simp)).dI dQ rfl) HGK.out hk0).mono ?_;rintro e w8 ⟨rfl,ho8⟩;have O11:=aA (O10.out.trans ho8 (by simp));have HC11:=aA (HC10.out.kept ho8);have hb11:=ho8.got HB10.out (by simp);have HR11:=aA (HR10.out.kept ho8 (by simp));clear k m HC10 O10 ho8 HB10 HR10;obtain⟨wp7,rfl⟩:∃ wp7:World,wp7=w8:=⟨_,rfl⟩;have HB11:=aA hb11;have m:=iX hb11;have k:=m.zK;clear hb11;go_wp2_with ((with_reducible first|refine cU ?_|refine wU ?_);clear k m;intro w m k)
     obtain⟨o0,o1,-⟩:=zR HGK.out hk0;refine (pSteer HC11.out HCF.out.1 (by rw[HCF.out.2.1];exact HSV.out) HN12 (by rw[HCF.out.2.2.1];exact htol) HR11.out hgo HGK.out hk0 (fun k hk=>by have:=(HKI.out k hk).2;have:=HC11.out.len;omega) raw now _ r0 r1 hn0 (by rw[HCF.out.2.2.2];exact hrd) ⟨o0,o1⟩).mono ?_;rintro e w9 ⟨rfl,⟨P',hP,hcl,hpa⟩,ho9⟩;have hb12:=ho9.got HB11.out (fun hm=>by have:=hrb _ hm;omega);have hlw:=aF HB11.out;have HPA:=aA (show ∀ b∈P'.all,b∈P.all\/wo.heap.size<=b from fun b hb=>(hpa b hb).imp_right (fun h=>by omega))
     have HRBQ:=aA (show ∀ b∈P'.all,b ∉ [wo.heap.size] from fun b hb hm=>by
      rw[mem_singleton.1 hm] at hb;rcases hpa _ hb with h|h
      ·have:=hrb _ h;omega
      ·omega)
     have O12:=aA (O11.out.trans ho9 (fun x hx=>.inl hx));generalize jB cb raw now (gZ kp) kp=st at HRG2 hcl |-;obtain⟨⟨sa,sv⟩,se,sc⟩:=st;unfold VI;dsimp only at HRG2 hcl |-;have HC12:=aA hcl;have HPP:=aA hP;clear k m HC11 O11 ho9 HB11 HR11 hcl hpa hP;obtain⟨wp8,rfl⟩:∃ wp8:World,wp8=w9:=⟨_,rfl⟩;have m:=kV hb12;have k:=m.zK;clear hb12;go_wp2_with (first|((with_reducible first|refine cU ?_|refine wU ?_);clear k m;intro w m k)|((with_reducible refine lE (fun w o g k K hK=>⟨rfl,?_⟩));simp[results,Tryz.results231,go_sem,k];refine hK _ ?_;exact⟨⟨sa,sv⟩,se,sc,rfl,HRG2.out,⟨P',HPP.out,HC12.out.off o HRBQ.out,HPA.out⟩,O12.out.trans o hrs⟩))
end
end Go.Proofs.YtppjhbjmfkiejaaGreat
