/- Mx Egx -/
import Derived.Test.YthbgcpfklmlnjaaGreatFV5
import Derived.Test.YthbgcpfklmlnjaaGreatFJl
namespace Go.Proofs.YthbgcpfklmlnjaaGreat
open List (length_map mem_cons mem_map mem_singleton)
set_option maxRecDepth 100000
set_option maxHeartbeats 8000000
open Go.RowKit
open Go.Lib (hid)
section
def F3 (l:List Cd):Int:=if H8 l=0 then (match sel l with
 | some _=>0
 | none=>11) else H8 l
def SelX (w0:World) (l:List Cd) (e:Ending) (w:World):Prop:=
 ∃ (v:Value) (h:Iv) (ins:List Int) (er:Int),e=.returned (.tuple #[v,dS h,.int .i64 er])/\Own fB 3 1 w0.heap.size w v ins/\er=F3 l/\(er=0->Gd l/\sel l=some (ins,h))
theorem WV {w:World} {p:Option Addr} {n cap:Nat} {l:List Cd} (hv:aS iU 5 w p n cap l) (hn:n<=100000) :
  Calls Tryz.prog 223 #[.slice p n cap] w fun e w'=>SelX w l e w'/\Only [] w w':=by
 have hl:=hv.len;subst hl;have HV:=hid hv;clear hv;go_enter Tryz.func223,Tryz.ntmps223
 go_upto_region 1 with (fail)
 refine aF (G:=fun w0=>Code.wp _ _ _ _ w0) ?_;intro w1 hb1 ho1 hs1;have B1:=hid hb1;have O1:=hid ho1;have S1:=hid ho1.size;obtain⟨b,hb⟩:∃ b,w.heap.size=b:=⟨_,rfl⟩;have HB:Hid (w.heap.size<=b):=hid (by omega);rw[hb] at B1;rw[hb];clear hb1 ho1 hs1 hb;have hck:=sZ (HV.out.kept O1.out) hn;have hgd:=mH (l:=l);obtain⟨er,her0⟩:∃ er,H8 l=er:=⟨_,rfl⟩;rw[her0] at hck hgd;have HER:=hid her0;clear her0;have HCK:=hid hck;clear hck;go_wp2_with fail
 refine HCK.out.mono ?_;rintro e w2 ⟨rfl,ho2⟩;have O2:=hid (O1.out.aB ho2);have B2:=hid (ho2.got B1.out (by simp));clear ho2 HCK O1 B1;have k3:=aA B2.out 0;have k4:=aA B2.out 1;have l3:=aD B2.out;have z3:=aM B2.out 0;have z4:=aM B2.out 1;by_cases her:er=0
 ·subst her
  have HG:=hid (hgd.1 rfl);clear hgd;go_wp2_with fail
  clear k3 k4 l3 z3 z4;have hlb:l.length<=12:=HG.out.len;go_loopw [6,21] (fun vo vi wr=>SpI w2 l vo vi wr) (fun _ vi _=>l.length-(intOf vi).toNat)
  case atStart=>exact⟨0,Nat.zero_le _,rfl,dZ _ _,Only.refl _ _⟩
  case round =>
   obtain⟨k,hk,rfl,hown,ho⟩:=hrel;have OW:=hid hown;have OO:=hid ho;clear hown ho;by_cases hlt:k<l.length
   ·obtain⟨bk,off,hp,hb,c0,c1,c2,c3,c4⟩:=HV.out.cd (O2.out.aB OO.out) hlt
    subst hp;have hle:=(O2.out.aB OO.out).size;have hb':bk<wr.heap.size:=by omega
    have hxo:=HG.out.ok _ (List.getElem_mem hlt)
    have HSN:Hid ((l.take (k+1)).map pE=(l.take k).map pE ++ [pE l[k]]):=hid (by
     rw[List.take_succ_eq_append_getElem hlt,List.map_append];rfl)
    have hfl2:((l.take k).map pE).length<=k:=by rw[length_map,List.length_take];omega
    generalize (l.take k).map pE=acc at OW HSN hfl2;generalize l[k]=x at c0 c1 c2 c3 c4 HSN hxo;have HH:=hid (fun w'=>pSpan x hxo w');generalize pE x=y at HH HSN;obtain⟨id,of,di,ji,st⟩:=x;obtain⟨lo,hi⟩:=y;unfold xL dS at HH;dsimp only at c0 c1 c2 c3 c4 HH HSN;clear hxo;obtain⟨pp,cap',rfl,_⟩:=Own.eH (enc:=qN) (s:=2) iF OW.out;go_wp2_with fail
    refine aF (G:=fun w0=>Calls _ _ _ w0 _) ?_;intro w3 hb1 ho1 hs1;refine (HH.out w3).mono ?_;rintro r w4 ⟨rfl,ho2⟩;have hoo:=(Only.refl [] wr).aB ho1 |>.aB ho2
    have O4:=hid (OO.out.aB hoo);have W4:=hid (OW.out.kept hoo);clear hb1 ho1 hs1 ho2 hoo c0 c1 c2 c3 c4 OO OW HH;go_wp2_with (at_builtin;refine bD ?_)
    refine aF (G:=fun w0=>Stop (wpList _ _ _ _ _ w0)) ?_;intro w5 hb5 ho5 hs5;have B5:=hid hb5;have O5:=hid (O4.out.aB ho5);have R5:=hid (W4.out.kept ho5);clear hb5 ho5 hs5;refine cK ?_;refine bK (w0:=w2) rfl _ _ 281 rfl 33 (.agg #[.int .i64 0,.int .i64 0]) 2 16 Tryz.underlying281 (by kernel_rfl) rfl (by decide) qN iF zH acc _ rfl R5.out w4.heap.size ⟨lo,hi⟩ rfl (fun j u hj=>?_) (by simp[maxLen];omega) (by omega) O5.out ?_
    ·rw[aA B5.out,<-hj];simp[qN]
    intro v6 w6 hown6 ho6 _;have W6:=hid hown6;have O6:=hid ho6;clear hown6 ho6;go_wp2;go_roundw
    case rel=>exact⟨k+1,by omega,by go_num,by rw[HSN.out];exact W6.out,O6.out⟩
    case measure=>first|(simp[intOf];done)|(simp[intOf];omega)
   ·rw [List.take_of_length_le (by omega)] at OW
    obtain⟨w3,hw3⟩:∃ w3:World,w3=wr:=⟨_,rfl⟩;subst hw3;obtain⟨pp,cap',rfl,hvr⟩:=Own.eH (enc:=qN) (s:=2) iF OW.out;rw[length_map] at hvr;have SV:=hid hvr;have O3:=hid (O2.out.aB OO.out);have B3:=hid (OO.out.got B2.out (by simp));clear hvr OW OO B2 O2;rw[length_map];go_wp2_with fail
    go_loopw [9] (fun va wr=>SeI w3 l va wr) (fun va _=>l.length+1-(intOf va).toNat)
    case atStart=>exact⟨0,l.length+1,rfl,Nat.zero_le _,by omega,rfl,Only.refl _ _⟩
    case round =>
     obtain⟨a,f,rfl,hal,hfa,hsel,ho⟩:=hrel;have HSE:=hid hsel;have OO:=hid ho;have OA:=hid (O3.out.aB ho);have BA:=hid (ho.got B3.out (by simp));have VA:=hid (SV.out.kept ho);have VL:=hid (HV.out.kept (O3.out.aB ho));clear hsel ho;have k3:=aA BA.out 0;have k4:=aA BA.out 1;have l3:=aD BA.out;have z3:=aM BA.out 0;have z4:=aM BA.out 1;by_cases h2:2*a<l.length
     ·obtain⟨f',rfl⟩:∃ f',f=f'+1:=⟨f-1,by omega⟩
      have HST:Hid (sel l=match D5 l a with
       | some x=>some x
       | none=>AJ l f' (a+1)):=hid (by rw[HSE.out,AJ,if_pos h2];rfl)
      have HSA:Hid (D5 l a=match qO (l.map pE) ((l.length:Int)-a) with
       | none=>none
       | some h=>if (l.length:Int)-((tX (MP h) l 0).length:Int)<=a then some (tX (MP h) l 0,h) else none):=hid rfl
      have hH:=pHull VA.out (by rw[length_map];omega) ((l.length:Int)-a);generalize qO (l.map pE) ((l.length:Int)-a)=hu at HSA hH;generalize D5 l a=sa at HST HSA;have HH:=hid hH;have q1:(2:Int)*(a:Int)<(l.length:Int):=by omega
      clear hH HSE;go_wp2_with fail
      refine HH.out.mono ?_;rintro e w4 ⟨rfl,ho4⟩;have O4:=hid (OO.out.aB ho4);have A4:=hid (OA.out.aB ho4);have B4:=hid (ho4.got BA.out (by simp));have V4:=hid (VL.out.kept ho4);clear ho4 k3 k4 l3 z3 z4 BA VA VL HH OO OA
      cases hu with
      | none =>
       obtain rfl:sa=none:=by rw[HSA.out]
       have HN:Hid (sel l=AJ l f' (a+1)):=hid HST.out;clear HSA HST;simp only[kC,dS];go_wp2;go_roundw
       case rel=>exact⟨a+1,f',by go_num,by omega,by omega,HN.out,(O4.out.alloc _)⟩
       case measure=>simp[intOf];omega
      | some h =>
       have HS2:Hid (sa=if (l.length:Int)-((tX (MP h) l 0).length:Int)<=a then some (tX (MP h) l 0,h) else none):=hid HSA.out;clear HSA;have hpl:=yZ (MP h) l 0;simp only[kC,dS];go_upto_region 15 with (fail)
       refine aF (G:=fun w0=>Code.wp _ _ _ _ w0) ?_;intro w5 hb5 ho5 hs5;obtain⟨bh,hbh⟩:∃ bh,w4.heap.size=bh:=⟨_,rfl⟩;rw[hbh] at hb5;rw[hbh];have E5:=hid hb5;have O5:=hid (O4.out.aB ho5);have A5:=hid (A4.out.aB ho5);have B5:=hid (ho5.got B4.out (by simp));have HP:=hid (pPick (b:=bh) (fit:=MP h) (V4.out.kept ho5) (by omega) (fun c w' ho=>pInside (ho.got hb5 (by simp)) c));clear hb5 ho5 hs5 hbh O4 A4 B4 V4;generalize tX (MP h) l 0=ins at HS2 hpl HP;go_wp2_with fail
       refine HP.out.mono ?_;rintro e w6 ⟨⟨v6,rfl,hown6⟩,ho6⟩;have O6:=hid (O5.out.aB ho6);have A6:=hid (A5.out.aB ho6);have B6:=hid (ho6.got B5.out (by simp));have E6:=hid (ho6.got E5.out (by simp));have W6:=hid hown6;have HB5:Hid (w.heap.size<=w5.heap.size/\b<w5.heap.size):=hid ⟨A5.out.size,aD B5.out⟩;obtain⟨p6,c6,rfl,_⟩:=Own.eH (enc:=fB) (s:=1) dI hown6;clear ho6 hown6 O5 A5 B5 E5 HP;have m0:=aA E6.out 0;have m1:=aA E6.out 1;have lm:=aD E6.out;have k3:=aA B6.out 0;have k4:=aA B6.out 1;have l3:=aD B6.out;have z3:=aM B6.out 0;have z4:=aM B6.out 1;by_cases hle:(l.length:Int)-(ins.length:Int)<=a
       ·have HS3:Hid (sel l=some (ins,h)):=hid (by rw[HST.out,HS2.out,if_pos hle])
        clear HST HS2;go_wp2_with fail
        refine aL [0,1,2] [3,4] (by kernel_rfl) (by kernel_rfl) ?_;simp only[pick,List.map_cons,List.map_nil,List.getD_cons_succ,List.getD_cons_zero];iterate 3 (refine wpQuiet_step (fun K hK=>?_);go_simp;refine hK _ ?_;clear hK K)
        refine wpQuiet_nil ?_;intro w7 hw7;have P7:=hid (aI hw7);have A7:=hid (A6.out.aB P7.out);have B7:=hid (P7.out.got B6.out (by simp));have W7:=hid (W6.out.kept P7.out);clear hw7 m0 m1 lm k3 k4 l3 z3 z4;have k3:=aA B7.out 0;have k4:=aA B7.out 1;have l3:=aD B7.out;have z3:=aM B7.out 0;have z4:=aM B7.out 1;go_wp2;have HD:=aG (o:=1) (.int .i64 h.hi) (aG (o:=0) (.int .i64 h.lo) B7.out);have e0:=aA HD 0;have e1:=aA HD 1;have le:=aD HD;refine bodyPost_ret (v:=.tuple #[.slice p6 ins.length c6,dS h,.int .i64 0]) (by simp[results,Tryz.results223,go_sem,e0,e1,dS]) rfl ⟨⟨_,h,ins,0,rfl,?_,by unfold F3;rw[HER.out,if_pos rfl,HS3.out],fun _=>⟨HG.out,HS3.out⟩⟩,?_⟩
        ·exact (W7.out.BO (((Only.refl [b] w7).setCell (p:=⟨b,0,none⟩) (.inl (by simp)) (.int .i64 h.lo)).setCell (p:=⟨b,1,none⟩) (.inl (by simp)) (.int .i64 h.hi)) (fun x hx=>by rw[mem_singleton] at hx;rw[hx];exact HB5.out.2)).base HB5.out.1
        ·exact (A7.out.setCell (.inr HB.out) _).setCell (.inr HB.out) _
       ·have HS3:Hid (sel l=AJ l f' (a+1)):=hid (by rw[HST.out,HS2.out,if_neg hle])
        clear HST HS2;go_wp2;go_roundw
        case rel=>exact⟨a+1,f',by go_num,by omega,by omega,HS3.out,O6.out⟩
        case measure=>simp[intOf];omega
     ·have HS3:Hid (sel l=none):=hid (by
       rw[HSE.out]
       cases f with
       | zero=>rfl
       | succ f=>rw[AJ,if_neg h2])
      have q1:¬ (2:Int)*(a:Int)<(l.length:Int):=by omega
      have q2:decide ((2:Int)*(a:Int)<(l.length:Int))=false:=decide_eq_false q1;clear HSE;go_wp2;have HD:=aG (o:=1) (.int .i64 0) (aG (o:=0) (.int .i64 0) BA.out);have e0:=aA HD 0;have e1:=aA HD 1;have le:=aD HD;refine bodyPost_ret (v:=.tuple #[.slice none 0 0,dS ⟨0,0⟩,.int .i64 11]) (by simp[results,Tryz.results223,go_sem,e0,e1,dS]) rfl ⟨⟨_,⟨0,0⟩,[],11,rfl,dZ _ _,by unfold F3;rw[HER.out,if_pos rfl,HS3.out],fun h=>absurd h (by decide)⟩,?_⟩;exact (OA.out.setCell (.inr HB.out) _).setCell (.inr HB.out) _
 ·have r1:(er != 0)=true:=by simp[her]
  have r2:(er == 0)=false:=by simp[her]
  have HG:Hid (er≠0/\¬ Gd l):=hid ⟨her,fun h=>her (hgd.2 h)⟩;clear hgd her;go_wp2_with fail
  have HD:=aG (o:=1) (.int .i64 0) (aG (o:=0) (.int .i64 0) B2.out);have e0:=aA HD 0;have e1:=aA HD 1;have le:=aD HD;refine bodyPost_ret (v:=.tuple #[.slice none 0 0,dS ⟨0,0⟩,.int .i64 er]) (by simp[results,Tryz.results223,go_sem,e0,e1,dS]) rfl ⟨⟨_,⟨0,0⟩,[],er,rfl,dZ _ _,by unfold F3;rw[HER.out,if_neg HG.out.1],fun h=>absurd h HG.out.1⟩,?_⟩;exact (O2.out.setCell (.inr HB.out) _).setCell (.inr HB.out) _
end
section
open Go.Sort
def yQ (c:Cl) (raw:Int) (a:Ac) (er:Int) (c':Cl):Prop:=
 ((aH c raw).2.1≠0/\a=⟨0,0⟩/\er=(aH c raw).2.1/\c'=(aH c raw).2.2) \/
 ((aH c raw).2.1=0/\((er≠0/\er=F3 (jZ (fH c raw) raw)/\a=⟨0,0⟩/\c'=fH c raw) \/
  (∃ ins hv,Gd (jZ (fH c raw) raw)/\sel (jZ (fH c raw) raw)=some (ins,hv)/\(a,er,c')=iV (fH c raw) raw (aH c raw).1 (gU (mK c raw ins)) (mK c raw ins))))
theorem WO {w:World} {P:Pl} {c:Cl} (h:bP w P c) (hok:r9 c) (hsv:II c.sv) (hg:∀ s∈c.srcs,IJ s) (htol:0<=c.cf.tol/\c.cf.tol<=500000) (hkp:1<=c.cf.keep) (hrd: -4503599627370496<=c.rd/\c.rd<=4503599627370496) (raw:Int) (r0: -9223372036854775808<=raw) (r1:raw<=9223372036854775807) :
  Calls Tryz.prog 216 #[.pointer (some ⟨P.bc,0,none⟩),.int .i64 raw] w fun e w'=>∃ a er c',e=.returned (.tuple #[TV a,.int .i64 er])/\yQ c raw a er c'/\(∃ P',P'.bc=P.bc/\bP w' P' c'/\(∀ b∈P'.all,b∈P.all\/w.heap.size<=b))/\Only P.all w w':=by
 have HN12:P.ps.length<=12:=by have:=h.len;have:=hok.len;have:=hok.s1;omega
 have HC:=hid h;have HEN:=hid (fun w' (o:Only [] w w')=>qJ (h.kept o) hok.ck raw r0 r1);have HSM:=hid (lD c raw)
 have HBD:=hid (fun (he:(aH c raw).2.1=0)=>And.intro (qR he hok.ck) (show -4503599627370496<=(aH c raw).1/\(aH c raw).1<=4503599627370496 by
  have h1:=CJ (rF he);unfold aH;split<;>exact h1))
 obtain⟨R,HR⟩:∃ R,Hid (R=yQ c raw):=⟨_,hid rfl⟩;rw[<-HR.out];have HRE:=hid (show (aH c raw).2.1≠0->R ⟨0,0⟩ (aH c raw).2.1 (aH c raw).2.2 from fun he=>by rw[HR.out];exact .inl ⟨he,rfl,rfl,rfl⟩);have HRS:=hid (show (aH c raw).2.1=0->∀ er,er≠0->er=F3 (jZ (fH c raw) raw)->R ⟨0,0⟩ er (fH c raw) from fun he er h1 h2=>by rw[HR.out];exact .inr ⟨he,.inl ⟨h1,h2,rfl,rfl⟩⟩);have HRG:=hid (show (aH c raw).2.1=0->∀ ins hv,Gd (jZ (fH c raw) raw)->sel (jZ (fH c raw) raw)=some (ins,hv)->R (iV (fH c raw) raw (aH c raw).1 (gU (mK c raw ins)) (mK c raw ins)).1 (iV (fH c raw) raw (aH c raw).1 (gU (mK c raw ins)) (mK c raw ins)).2.1 (iV (fH c raw) raw (aH c raw).1 (gU (mK c raw ins)) (mK c raw ins)).2.2 from fun he ins hv h1 h2=>by rw[HR.out];exact .inr ⟨he,.inr ⟨ins,hv,h1,h2,rfl⟩⟩);have HKG:=hid (fun ins hv=>keep_gd (c:=c) (raw:=raw) (ins:=ins) (hv:=hv) hkp);have HCB:=hid (show fH c raw={ (aH c raw).2.2 with own:=uR (aH c raw).2.2 raw,owned:=raw } from rfl);have HUK:=hid (fun ins=>show mK c raw ins=R6 c.cf.keep (oO (jZ (fH c raw) raw) ins) from rfl);generalize mK c raw=uk at HRG HKG HUK;generalize fH c raw=cb at HRS HRG HKG HCB HUK;generalize aH c raw=ce at HEN HSM HBD HRE HRS HRG HCB;obtain⟨now,er,c1⟩:=ce;dsimp only at HEN HSM HBD HRE HRS HRG HCB;have HOK:=hid hok;have HSV:=hid hsv;have HG:=hid hg;have HLT:=hid h.lt;have HKP:=hid hkp;clear h hok hsv hg HR hkp;obtain⟨wo,hwo⟩:∃ wo:World,wo=w:=⟨_,rfl⟩;subst hwo;have m:=dD wo [];have k:=m.out.k;go_enter Tryz.func216,Tryz.ntmps216
 go_wp2_with ((with_reducible first|refine cU ?_|refine wU ?_);clear k m;intro w m k)
 refine (HEN.out _ m.out.only).mono ?_;rintro e w2 ⟨rfl,hcb,ho2⟩;have hrb:∀ b∈P.all,b<wo.heap.size:=HLT.out;have hbl:=hrb P.bc (by simp[Pl.all]);have hrs:∀ (x:Nat),x∈[wo.heap.size]->x∈P.all\/wo.heap.size<=x:=fun x hx=>.inr (by rw[mem_singleton.1 hx];exact Nat.le_refl _);have HRB:=hid (show ∀ b∈P.all,b ∉ [wo.heap.size] from fun b hb hm=>by have:=hrb b hb;rw[mem_singleton.1 hm] at this;omega);have HLW:Hid (wo.heap.size<w.heap.size):=hid (aD (gB (w:=w) (b:=wo.heap.size)));have hb2:w2.heap[wo.heap.size]? = some (.cells #[.int .i64 0,.int .i64 0] 326 (0,0)):=ho2.got (gB (w:=w)) (by simp;omega);have HC2:=hid ((HC.out.kept m.out.only).RX ho2 hcb HSM.out.1 HSM.out.2.1 HSM.out.2.2.1);have O2:=hid ((m.out.only.weak (S':=P.all) (by simp)).trans ho2 (by simp[Pl.all]));clear k m HC HEN hcb ho2;obtain⟨wq,hwq⟩:∃ wq:World,wq=w2:=⟨_,rfl⟩;subst hwq;by_cases he:er=0
 rotate_left
 ·have m:=lQ hb2;have k:=m.out.k
  clear hb2;go_wp2_with (first|((with_reducible refine wU ?_);clear k m;intro w m k)|((with_reducible refine lE (fun w o g k K hK=>⟨rfl,?_⟩));simp[results,Tryz.results216,go_sem,k];refine hK _ ?_;exact⟨⟨0,0⟩,er,c1,rfl,HRE.out he,⟨P,rfl,HC2.out.off o HRB.out,fun b hb=>.inl hb⟩,O2.out.trans o hrs⟩))
 ·subst he
  obtain⟨⟨hb0,hb1⟩,hn0⟩:=HBD.out rfl;have HRN:=hid (fun w' (o:Only [] wq w')=>BD (HC2.out.kept o) HN12 (by rw[HSM.out.2.2.2.1];exact HOK.out.s0) (by rw[HSM.out.2.2.2.1];exact HOK.out.s1) raw (fun s hs=>by have:=(HOK.out.src s (by rw[<-HSM.out.2.2.1];exact hs)).2;omega) (by have:=HOK.out.own;rw[HSM.out.2.2.2.2.2];omega) (by have:=HOK.out.own;rw[HSM.out.2.2.2.2.2];omega));have m:=mY hb2;have k:=m.out.k;have HB2:=hid hb2;clear hb2;go_wp2_with ((with_reducible first|refine cU ?_|refine wU ?_);clear k m;intro w m k)
  refine (HRN.out _ m.out.only).mono ?_;rintro e w3 ⟨rfl,ho3⟩;obtain⟨wp,hwp⟩:∃ wp:World,wp=w3:=⟨_,rfl⟩;subst hwp;have hb3:=ho3.got HB2.out (by simp);have HC3:=hid (HC2.out.kept ho3);have O3:=hid (O2.out.trans ho3 (by simp));obtain⟨⟨x1,x2⟩,hx⟩:∃ x,uR c1 raw=x:=⟨_,rfl⟩;rw[hx] at HCB;rw[hx];unfold dS;have hcb3:=HC3.out.cl;unfold mI at hcb3;clear k m ho3 HRN HB2 hx;have m:Mm wp [P.bc,wo.heap.size] wp _:=⟨((Mem.start wp [P.bc,wo.heap.size]).ext true hb3 (by simp) (by simp)).ext true hcb3 (by simp;omega) (by simp)⟩;have k:=m.out.k;clear hb3 hcb3;go_wp2_with ((with_reducible first|refine cU ?_|refine wU ?_);clear k m;intro w m k)
  have HC4:=hid (HC3.out.putB2 (c':=cb) m.out.only (fun b hb hm=>by
   rcases mem_cons.1 hm with e|hm
   ·exact e
   ·exact absurd hm (HRB.out b hb)) (by rw[HCB.out];unfold mI;exact gB) (by rw[HCB.out]) (by rw[HCB.out]) (by rw[HCB.out]))
  have O4:=hid (O3.out.trans m.out.only (fun x hx=>by
   rcases mem_cons.1 hx with e|hx
   ·exact .inl (by rw[e];simp[Pl.all])
   ·exact hrs x hx))
  have hb4:=gB (w:=w) (b:=wo.heap.size)
  have hln:(jZ cb raw).length<=12:=by
   unfold jZ;split
   ·have:=CB cb.srcs (aY cb raw).1 cb.srcs.length
    have:=HC4.out.len;omega
   ·simp
  clear k m HC3 HC2 O2 O3;refine (pCands HC4.out (by rw[HCB.out];dsimp only;rw[HSM.out.1];exact HOK.out.ck) HN12 (by rw[HCB.out];dsimp only;rw[HSM.out.2.2.1];exact HG.out) raw r0 r1).mono ?_;rintro e w4 ⟨⟨v,rfl,hown⟩,hcl4,ho4⟩
  have hbf:wo.heap.size ∉ P.fs:=fun hm=>by
   obtain⟨p,h1,h2⟩:=mem_map.1 hm;have:=hrb p.2.2 (by unfold Pl.all;simp only[mem_cons];exact .inr (.inr (.inr (.inr (List.mem_flatMap.2 ⟨p,h1,by simp⟩)))));omega
  have hb4:=ho4.got hb4 hbf;have HC5:=hid hcl4
  have O5:=hid (O4.out.trans ho4 (fun x hx=>.inl (by
   obtain⟨p,h1,h2⟩:=mem_map.1 hx;unfold Pl.all;simp only[mem_cons];exact .inr (.inr (.inr (.inr (List.mem_flatMap.2 ⟨p,h1,by rw[<-h2];simp⟩)))))))
  generalize jZ cb raw=l at HRS HRG HKG HUK hown hln |-;obtain⟨pp,cap',rfl,hv⟩:=Own.eH (enc:=iU) (s:=5) dM hown;have HV:=hid hv
  have HCF:Hid (iY cb.ck/\cb.sv=c.sv/\cb.cf=c.cf/\cb.rd=c.rd):=hid (by
   rw[HCB.out];dsimp only;rw[HSM.out.1,HSM.out.2.1,HSM.out.2.2.2.1,HSM.out.2.2.2.2.1];exact⟨HOK.out.ck,rfl,rfl,rfl⟩)
  clear hcl4 ho4 hown hv O4 HC4 HCB;obtain⟨wp2,hwp2⟩:∃ wp2:World,wp2=w4:=⟨_,rfl⟩;subst hwp2;have m:=lQ hb4;have k:=m.out.k;clear hb4;go_wp2_with ((with_reducible first|refine cU ?_|refine wU ?_);clear k m;intro w m k)
  refine (WV HV.out (by omega)).mono ?_;rintro e w5 ⟨⟨v5,⟨i1,i2⟩,ins,er,rfl,hown5,hex,hcase⟩,ho5⟩;unfold dS;have hb5:=ho5.got (gB (w:=wp2) (b:=wo.heap.size)) (by simp);have HC6:=hid (HC5.out.kept ho5);have O6:=hid (O5.out.trans ho5 (by simp));have HV6:=hid (HV.out.kept ho5);obtain⟨pq,capq,rfl,hv5⟩:=Own.eH (enc:=fB) (s:=1) dI hown5;have HI6:=hid hv5;clear k m HC5 O5 HV ho5 hown5 hv5;obtain⟨wp3,hwp3⟩:∃ wp3:World,wp3=w5:=⟨_,rfl⟩;subst hwp3;by_cases he:er=0
  rotate_left
  ·have m:=lQ hb5;have k:=m.out.k
   clear hb5;have HEX:=hid hex;clear hcase hex;go_wp2_with (first|((with_reducible first|refine cU ?_|refine wU ?_);clear k m;intro w m k)|((with_reducible refine lE (fun w o g k K hK=>⟨rfl,?_⟩));simp[results,Tryz.results216,go_sem,k];refine hK _ ?_;exact⟨⟨0,0⟩,er,cb,rfl,HRS.out trivial er he HEX.out,⟨P,rfl,HC6.out.off o HRB.out,fun b hb=>.inl hb⟩,O6.out.trans o hrs⟩))
  ·subst he
   obtain⟨hgd,hsel⟩:=hcase rfl;obtain⟨hgc,hc0,hgk,hk0,hkid⟩:=HKG.out ins _ hgd hsel;obtain⟨hi0,hi1,hi2,hi3,hi4⟩:=VB hsel;have HRG2:=hid (HRG.out trivial ins _ hgd hsel);have HGC:=hid hgc;have HGK:=hid hgk;have HKI:=hid hkid;have HIN:=hid hi2;have m:=mY hb5;have k:=m.out.k;clear hb5 hcase hex HRS HRG HKG hgd hsel hgc hgk hkid hi2 hi3;go_wp2_with ((with_reducible first|refine cU ?_|refine wU ?_);clear k m;intro w m k)
   have M6:=hid m;have HC7:=hid (HC6.out.kept m.out.only);have O7:=hid (O6.out.trans m.out.only (by simp));have HV7:=hid (HV6.out.kept m.out.only);have HI7:=hid (HI6.out.kept m.out.only);have hb7:=gB (w:=w) (b:=wo.heap.size);obtain⟨wl,hwl⟩:∃ wl:World,wl=w:=⟨_,rfl⟩;subst hwl;clear k m HC6 O6 HV6 HI6 M6;obtain⟨bl,ol,rfl,hbl2,hcl2⟩:=HV7.out.at (by omega);have HCL:=hid hcl2;clear hcl2;go_loopw [11,51] (fun vo vi wr=>ChI wl l ins vo vi wr) (fun _ vi _=>ins.length-(intOf vi).toNat)
   case atStart=>exact⟨0,Nat.zero_le _,rfl,dZ _ _,Only.refl _ _⟩
   case round =>
    obtain⟨k,hk,rfl,hown,ho⟩:=hrel;have OW:=hid hown;have OO:=hid ho;by_cases hlt:k<ins.length
    ·have hik:=HIN.out _ (List.getElem_mem hlt)
     have HSN:Hid (oO l (ins.take (k+1))=oO l (ins.take k) ++ [l[ins[k].toNat]?.getD default]):=hid (by unfold oO;rw[jB ins hlt,List.map_append];rfl);have hcn:(oO l (ins.take k)).length<=12:=by unfold oO;rw[length_map,List.length_take];omega
     obtain⟨bi,oi,rfl,hbi,hci⟩:=HI7.out.i64 ho hlt;have hlw:=Nat.lt_of_lt_of_le hbi ho.size;generalize ins[k]=x at HSN hik hci;obtain⟨i,rfl⟩:∃ i:Nat,x=(i:Int):=⟨x.toNat,by omega⟩;have hil:i<l.length:=by omega
     have hil2:(i:Int)<(l.length:Int):=by omega
     rw[Int.toNat_natCast,List.getElem?_eq_getElem hil,Option.getD_some] at HSN;have hcd:=fun w' (o:Only [] wl w')=>HCL.out i hil w' o;generalize l[i]=d at HSN hcd;obtain⟨d1,d2,d3,d4,d5⟩:=d;simp only[CdF] at hcd;generalize oO l (ins.take k)=acc at OW HSN hcn;have HX:=hid (fun w' (o:Only [] wr w')=>And.intro (Nat.lt_of_lt_of_le hlw o.size) (And.intro ((o.cell hlw (by simp)).trans hci) (hcd w' (OO.out.aB o))));clear hcd hci hik hown ho hbi hlw;obtain⟨pa,cap2,rfl,-⟩:=Own.eH (enc:=iU) (s:=5) dM OW.out;have HKL:=hid hlt;have hlt2:(k:Int)<(ins.length:Int):=by omega
     have c:=HX.out wr (Only.refl _ wr);have m:=dD wr [];go_wp2_with (at_builtin;refine bD ?_)
     refine aF (G:=fun w0=>Stop (wpList _ _ _ _ _ w0)) ?_;intro w5 hb5 ho5 hs5;have B5:=hid hb5;have O5:=hid (OO.out.aB ho5);have R5:=hid (OW.out.kept ho5);clear hb5 ho5 hs5;refine cK ?_;refine kN (S:=[]) (w0:=wl) rfl _ _ 333 rfl 338 cdZ 5 40 Tryz.underlying333 zL rfl (by decide) iU dM zM acc (.slice pa acc.length cap2) rfl R5.out wr.heap.size ⟨d1,d2,d3,d4,d5⟩ rfl (fun j u hj=>?_) (by simp[maxLen];omega) (by omega) O5.out ?_
     ·rw[aA B5.out,<-hj];simp[iU]
     intro v6 w6 hown6 ho6 _;have W6:=hid hown6;have O6:=hid ho6;clear hown6 ho6;go_wp2;go_roundw
     case rel=>exact⟨_,Nat.succ_le_of_lt HKL.out,by go_num,by rw[HSN.out];exact W6.out,O6.out⟩
     case measure=>first|(simp[intOf];done)|(simp[intOf];omega)
    ·obtain rfl:k=ins.length:=by omega
     rw[List.take_length] at OW;obtain⟨wp5,hwp5⟩:∃ wp5:World,wp5=wr:=⟨_,rfl⟩;subst hwp5;have huk:R6 cb.cf.keep (oO l ins)=uk ins:=by rw[HCF.out.2.2.1,HUK.out]
     obtain⟨pa,cap2,rfl,hvt⟩:=Own.eH (enc:=iU) (s:=5) dM OW.out;have HPR:=hid (fun w' (o:Only [] wp5 w')=>pPruneX (hvt.kept o) HGC.out hc0 cb.cf.keep (by rw[HCF.out.2.2.1];exact HKP.out));rw[huk] at HPR;have hcb9:=(HC7.out.kept ho).cl;unfold mI at hcb9;have hb9:=ho.got hb7 (by simp);have HC9:=hid (HC7.out.kept ho);have O9:=hid (O7.out.trans ho (by simp));generalize uk ins=kp at HPR HGK HKI HRG2 hk0;generalize oO l ins=tc at HPR;clear OW OO HC7 O7 hvt HI7 HCL huk;have m:Mm wp5 [] wp5 _:=⟨((Mem.start wp5 []).ext false hb9 (by simp) (by simp)).ext false hcb9 (by simp;omega) (by simp)⟩;have k:=m.out.k;have HB9:=hid hb9;clear hcb9 hb9 ho;go_wp2_with ((with_reducible first|refine cU ?_|refine wU ?_);clear k m;intro w m k)
     refine (HPR.out _ m.out.only).mono ?_;rintro e w7 ⟨⟨g,gcap,rfl,hgs,hrow⟩,ho7⟩;have O10:=hid (O9.out.trans ho7 (by simp));have HC10:=hid (HC9.out.kept ho7);have hb10:=ho7.got HB9.out (by simp);have HR10:=hid hrow;have hgo:g ∉ P.all:=fun hm=>by have:=HC9.out.lt g hm;omega
     clear k m HC9 O9 ho7 HPR HB9 hrow;obtain⟨wp6,hwp6⟩:∃ wp6:World,wp6=w7:=⟨_,rfl⟩;subst hwp6;have HB10:=hid hb10;have m:=mY hb10;have k:=m.out.k;clear hb10;go_wp2_with ((with_reducible first|refine cU ?_|refine wU ?_);clear k m;intro w m k)
     refine (pMean ((HR10.out.kept m.out.only (by simp)).eH dM rfl) HGK.out hk0).mono ?_;rintro e w8 ⟨rfl,ho8⟩;have O11:=hid (O10.out.trans ho8 (by simp));have HC11:=hid (HC10.out.kept ho8);have hb11:=ho8.got HB10.out (by simp);have HR11:=hid (HR10.out.kept ho8 (by simp));clear k m HC10 O10 ho8 HB10 HR10;obtain⟨wp7,hwp7⟩:∃ wp7:World,wp7=w8:=⟨_,rfl⟩;subst hwp7;have HB11:=hid hb11;have m:=mY hb11;have k:=m.out.k;clear hb11;go_wp2_with ((with_reducible first|refine cU ?_|refine wU ?_);clear k m;intro w m k)
     obtain⟨o0,o1,-⟩:=zD HGK.out hk0;refine (pSteer HC11.out HCF.out.1 (by rw[HCF.out.2.1];exact HSV.out) HN12 (by rw[HCF.out.2.2.1];exact htol) HR11.out hgo HGK.out hk0 (fun k hk=>by have:=(HKI.out k hk).2;have:=HC11.out.len;omega) raw now _ r0 r1 hn0 (by rw[HCF.out.2.2.2];exact hrd) ⟨o0,o1⟩).mono ?_;rintro e w9 ⟨rfl,⟨P',hP,hcl,hpa⟩,ho9⟩;have hb12:=ho9.got HB11.out (fun hm=>by have:=hrb _ hm;omega);have hlw:=aD HB11.out;have HPA:=hid (show ∀ b∈P'.all,b∈P.all\/wo.heap.size<=b from fun b hb=>(hpa b hb).imp_right (fun h=>by omega))
     have HRBQ:=hid (show ∀ b∈P'.all,b ∉ [wo.heap.size] from fun b hb hm=>by
      rw[mem_singleton.1 hm] at hb;rcases hpa _ hb with h|h
      ·have:=hrb _ h;omega
      ·omega)
     have O12:=hid (O11.out.trans ho9 (fun x hx=>.inl hx));generalize iV cb raw now (gU kp) kp=st at HRG2 hcl |-;obtain⟨⟨sa,sv⟩,se,sc⟩:=st;unfold TV;dsimp only at HRG2 hcl |-;have HC12:=hid hcl;have HPP:=hid hP;clear k m HC11 O11 ho9 HB11 HR11 hcl hpa hP;obtain⟨wp8,hwp8⟩:∃ wp8:World,wp8=w9:=⟨_,rfl⟩;subst hwp8;have m:=lQ hb12;have k:=m.out.k;clear hb12;go_wp2_with (first|((with_reducible first|refine cU ?_|refine wU ?_);clear k m;intro w m k)|((with_reducible refine lE (fun w o g k K hK=>⟨rfl,?_⟩));simp[results,Tryz.results216,go_sem,k];refine hK _ ?_;exact⟨⟨sa,sv⟩,se,sc,rfl,HRG2.out,⟨P',HPP.out,HC12.out.off o HRBQ.out,HPA.out⟩,O12.out.trans o hrs⟩))
end
end Go.Proofs.YthbgcpfklmlnjaaGreat
