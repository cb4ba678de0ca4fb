/- Texts of one chain: Mg, Mh, Mi, Mj, Mk. Conditions: those named in each theorem. -/
import Derived.Test.YtppjhbjmfkiejaaGreatFV4
import Derived.Test.YtppjhbjmfkiejaaGreatFV1
namespace Go.Proofs.YtppjhbjmfkiejaaGreat
open List (getElem?_eq_getElem length_filter_le length_map length_take take_of_length_le)
open IntKind (wrap)
set_option maxRecDepth 100000
set_option maxHeartbeats 4000000
section
open Go.RowKit
structure Iv where
 lo:Int
 hi:Int
deriving DecidableEq,Inhabited
def rD (x:Iv):List Value:=[.int .i64 x.lo,.int .i64 x.hi]
def dV (x:Iv):Value:=.agg #[.int .i64 x.lo,.int .i64 x.hi]
theorem iK (x:Iv):(rD x).length=2:=rfl
theorem zU (x:Iv):∀ u∈rD x,u.oneCell'=true:=by
 intro u hu;simp only[rD,List.mem_cons,List.not_mem_nil,or_false] at hu;rcases hu with rfl|rfl<;>rfl
def bU (x:Iv):Bool:=decide (x.lo<=x.hi/\ -8000000000000000000<=x.lo/\x.hi<=8000000000000000000)
def xJ (x:Iv) (t:Int):Bool:=bU x && (decide (x.lo<=t) && decide (t<=x.hi))
def sU (l:List Iv) (t:Int):Nat:=(l.filter fun x=>xJ x t).length
theorem dD (x:Iv) (w:World) :
  Calls Tryz.prog 52 #[dV x] w fun e w'=>e=.returned (.int .i64 (if bU x then 0 else 3))/\Oy [] w w':=by
 obtain⟨lo,hi⟩:=x;unfold bU dV;dsimp only;by_cases h1:lo<=hi
 focus
  have a1:decide (hi<lo)=false:=by simp;omega
  by_cases h2: -8000000000000000000<=lo
  focus
   have a2:decide (lo < -8000000000000000000)=false:=by simp;omega
   by_cases h3:hi<=8000000000000000000
   focus
    have a3:decide (8000000000000000000<hi)=false:=by simp;omega
    rw[show (if decide (lo<=hi/\ -8000000000000000000<=lo/\hi<=8000000000000000000)=true then (0:Int) else 3)=0 from if_pos (decide_eq_true ⟨h1,h2,h3⟩)]
   rotate_left
   focus
    have a3:decide (8000000000000000000<hi)=true:=by simp;omega
    rw[show (if decide (lo<=hi/\ -8000000000000000000<=lo/\hi<=8000000000000000000)=true then (0:Int) else 3)=3 from if_neg (by simp;omega)]
   rotate_left
  rotate_left 2
  focus
   have a2:decide (lo < -8000000000000000000)=true:=by simp;omega
   rw[show (if decide (lo<=hi/\ -8000000000000000000<=lo/\hi<=8000000000000000000)=true then (0:Int) else 3)=3 from if_neg (by simp;omega)]
  rotate_left
 rotate_left 3
 focus
  have a1:decide (hi<lo)=true:=by simp;omega
  rw[show (if decide (lo<=hi/\ -8000000000000000000<=lo/\hi<=8000000000000000000)=true then (0:Int) else 3)=3 from if_neg (by simp;omega)]
 rotate_left
 all_goals
  go_enter Tryz.func52,Tryz.ntmps52
  go_upto_region 1 with (fail)
  refine aG (G:=fun w0=>Code.wp _ _ _ _ w0) ?_;intro w1 hb1 ho1 hs1;have B1:=aA hb1;have O1:=aA ho1;clear hb1 ho1 hs1;have k0:=aC B1.out 0;have k1:=aC B1.out 1;have lk:=aF B1.out;go_wp2;go_ret
  exact⟨rfl,O1.out⟩
theorem pHas (x:Iv) (t:Int) (w:World) :
  Calls Tryz.prog 74 #[dV x,.int .i64 t] w fun e w'=>e=.returned (.bool (xJ x t))/\Oy [] w w':=by
 have HC:=aA (fun w'=>dD x w');have HR:Hid (xJ x t=(bU x && (decide (x.lo<=t) && decide (t<=x.hi)))):=aA rfl;generalize bU x=ok at HC HR;generalize xJ x t=r at HR |-;obtain⟨lo,hi⟩:=x;unfold dV at HC |-;dsimp only at HC HR |-
 cases ok
 focus
  obtain rfl:r=false:=by rw[HR.out];rfl
  clear HR
 rotate_left
 focus
  have HR2:Hid (r=(decide (lo<=t) && decide (t<=hi))):=aA (by rw[HR.out];rfl);clear HR;by_cases h1:lo<=t
  focus
   have a1:decide (lo<=t)=true:=eY h1;obtain⟨r2,hr2⟩:∃ r2,decide (t<=hi)=r2:=⟨_,rfl⟩;obtain rfl:r=r2:=by rw[HR2.out,a1,hr2];rfl
  rotate_left
  focus
   have a1:decide (lo<=t)=false:=dL h1;obtain rfl:r=false:=by rw[HR2.out,a1];rfl
  rotate_left
  all_goals clear HR2
 rotate_left 2
 all_goals
  go_enter Tryz.func74,Tryz.ntmps74
  go_upto_region 1 with (fail)
  refine aG (G:=fun w0=>Code.wp _ _ _ _ w0) ?_;intro w1 hb1 ho1 hs1;have B1:=aA hb1;have O1:=aA ho1;clear hb1 ho1 hs1;have k0:=aC B1.out 0;have k1:=aC B1.out 1;have lk:=aF B1.out;go_wp2_with fail
  refine (HC.out w1).mono ?_;rintro e w2 ⟨rfl,ho2⟩;have O2:=aA (O1.out.aB ho2);have B2:=aA (ho2.got B1.out (by simp));clear ho2 O1 B1 k0 k1 lk;have k0:=aC B2.out 0;have k1:=aC B2.out 1;have lk:=aF B2.out;go_wp2;go_ret
  exact⟨rfl,O2.out⟩
theorem aU.iv {w w':World} {p:Option Addr} {n cap:Nat} {l:List Iv} (hv:aU rD 2 w p n cap l) (ho:Oy [] w w') {k:Nat} (hlt:k<l.length):∃ b off,p=some ⟨b,off,none⟩/\b<w.heap.size /\
  w'.cell? ⟨b,off+k*2,none⟩=some (.int .i64 l[k].lo)/\w'.cell? ⟨b,off+k*2+1,none⟩=some (.int .i64 l[k].hi):=by
 obtain⟨b,off,hp,hb,hc⟩:=hv.cell k l[k] (getElem?_eq_getElem hlt);refine⟨b,off,hp,hb,?_,?_⟩
 ·rw[ho.cell hb (by simp)];exact hc 0 _ rfl
 ·rw[ho.cell hb (by simp)];exact hc 1 _ rfl
def AgI (w:World) (l:List Iv) (t:Int) (vo vi:Value) (wr:World):Prop:=
 ∃ (k:Nat) (ns:List Int),k<=l.length/\vi=.int .i64 k/\ns.length=sU (l.take k) t/\ns.length<=k/\Own fC 3 1 w.heap.size wr vo ns/\Oy [] w wr
def AgR (w0:World) (c:Nat) (e:Ending) (w:World):Prop:=∃ (v:Value) (ns:List Int),e=.returned v/\Own fC 3 1 w0.heap.size w v ns/\ns.length=c
theorem cnt_snoc (l:List Iv) (t:Int) {k:Nat} (hk:k<l.length):sU (l.take (k+1)) t=sU (l.take k) t+(if xJ l[k] t=true then 1 else 0):=by
 unfold sU;rw[List.take_succ_eq_append_getElem hk,List.filter_append,List.length_append];by_cases h:xJ l[k] t=true<;>simp[h]
theorem pAgree {w:World} {p:Option Addr} {n cap:Nat} {l:List Iv} (hv:aU rD 2 w p n cap l) (hn:l.length<=48) (t:Int) :
  Calls Tryz.prog 227 #[.slice p n cap,.int .i64 t] w fun e w'=>AgR w (sU l t) e w'/\Oy [] w w':=by
 have hl:=hv.len;subst hl;have HV:=aA hv;clear hv;have d1:decide (48<(l.length:Int))=false:=by simp;omega
 have d2:decide (48<l.length)=false:=by simp;omega
 go_enter Tryz.func227,Tryz.ntmps227
 go_wp2;go_loopw [5,13] (fun vo vi wr=>AgI w l t vo vi wr) (fun _ vi _=>l.length-(intOf vi).toNat)
 case atStart=>exact⟨0,[],Nat.zero_le _,rfl,rfl,by simp,bR _ _,aR _ _⟩
 case round =>
  obtain⟨k,ns,hk,rfl,hns,hnk,hown,ho⟩:=hrel;have HNS:=aA hns;have OW:=aA hown;have OO:=aA ho;clear hns hown ho;by_cases hlt:k<l.length
  ·obtain⟨bk,off,hp,hb,c0,c1⟩:=HV.out.iv OO.out hlt
   subst hp;have hle:=OO.out.size;have hb':bk<wr.heap.size:=by omega
   have HSN:=aA (cnt_snoc l t hlt);generalize l[k]=x at c0 c1 HSN;have HH:=aA (fun w'=>pHas x t w');generalize xJ x t=hx at HSN HH;obtain⟨lo,hi⟩:=x;unfold dV at HH;dsimp only at c0 c1 HH;go_wp2_with fail
   refine aG (G:=fun w0=>Calls _ _ _ w0 _) ?_;intro w1 hb1 ho1 hs1;refine (HH.out w1).mono ?_;rintro r w2 ⟨rfl,ho2⟩;have hoo:=(aR [] wr).aB ho1 |>.aB ho2
   have O2:=aA (OO.out.aB hoo);have W2:=aA (OW.out.kept hoo);clear hb1 ho1 hs1 ho2 hoo c0 c1 OO OW HH
   cases hx with
   | false =>
    have HC:Hid (ns.length=sU (l.take (k+1)) t):=aA (by rw[HSN.out,HNS.out];simp);go_wp2;go_roundw
    case rel=>exact⟨k+1,ns,by omega,by go_num,HC.out,by omega,W2.out,O2.out⟩
    case measure=>first|(simp[intOf];done)|(simp[intOf];omega)
   | true =>
    have HC:Hid ((ns ++ [(k:Int)]).length=sU (l.take (k+1)) t):=aA (by rw[HSN.out,List.length_append,HNS.out];simp);obtain⟨pp,cap',rfl,_⟩:=Own.dI (enc:=fC) (s:=1) dM W2.out;go_wp2_with (at_builtin;refine aW ?_)
    refine aG (G:=fun w0=>Stop (wpList _ _ _ _ _ w0)) ?_;intro w5 hb5 ho5 hs5;have B5:=aA hb5;have O5:=aA (O2.out.aB ho5);have R5:=aA (W2.out.kept ho5);clear hb5 ho5 hs5;refine bH ?_;refine bK (w0:=w) rfl _ _ 52 rfl 3 (.int .i64 0) 1 8 Tryz.underlying52 (by kernel_rfl) rfl (by decide) fC dM nT ns _ rfl R5.out w2.heap.size (k:Int) rfl (fun j u hj=>?_) (by simp[maxLen];omega) (by omega) O5.out ?_
    ·rw[aC B5.out,<-hj];simp[fC]
    intro v6 w6 hown6 ho6 _;have W6:=aA hown6;have O6:=aA ho6;clear hown6 ho6;go_wp2;go_roundw
    case rel=>exact⟨k+1,ns ++ [(k:Int)],by omega,by go_num,HC.out,by simp;omega,W6.out,O6.out⟩
    case measure=>first|(simp[intOf];done)|(simp[intOf];omega)
  ·have HC:Hid (ns.length=sU l t):=aA (by have:=HNS.out;rwa [take_of_length_le (by omega)] at this)
   go_wp2;go_ret
   exact⟨⟨_,ns,rfl,OW.out,HC.out⟩,OO.out⟩
theorem pCount {w:World} {p:Option Addr} {n cap:Nat} {l:List Iv} (hv:aU rD 2 w p n cap l) (hn:l.length<=48) (t:Int) :
  Calls Tryz.prog 222 #[.slice p n cap,.int .i64 t] w fun e w'=>e=.returned (.int .i64 (sU l t))/\Oy [] w w':=by
 have HA:=aA (pAgree hv hn t);clear hv hn;go_enter Tryz.func222,Tryz.ntmps222
 go_wp2_with fail
 refine HA.out.mono ?_;rintro e w1 ⟨⟨v,ns,rfl,hown,hc⟩,ho⟩;have HC:=aA hc;have O1:=aA ho;obtain⟨pp,cap',rfl,_⟩:=Own.dI (enc:=fC) (s:=1) dM hown;clear hc ho hown;go_wp2;go_ret
 exact⟨by rw[HC.out];rfl,O1.out⟩
def VaI (w:World) (l:List Iv) (vo vi:Value) (wr:World):Prop:=
 ∃ k:Nat,k<=l.length/\vi=.int .i64 k/\Own rD 39 2 w.heap.size wr vo ((l.take k).filter bU)/\Oy [] w wr
def VaR (w0:World) (l:List Iv) (e:Ending) (w:World):Prop:=∃ v:Value,e=.returned v/\Own rD 39 2 w0.heap.size w v l
theorem BU {w:World} {p:Option Addr} {n cap:Nat} {l:List Iv} (hv:aU rD 2 w p n cap l) (hn:l.length<=48) :
  Calls Tryz.prog 218 #[.slice p n cap] w fun e w'=>VaR w (l.filter bU) e w'/\Oy [] w w':=by
 have hl:=hv.len;subst hl;have HV:=aA hv;clear hv;have d1:decide (48<(l.length:Int))=false:=by simp;omega
 have d2:decide (48<l.length)=false:=by simp;omega
 go_enter Tryz.func218,Tryz.ntmps218
 go_wp2;go_loopw [3,11] (fun vo vi wr=>VaI w l vo vi wr) (fun _ vi _=>l.length-(intOf vi).toNat)
 case atStart=>exact⟨0,Nat.zero_le _,rfl,bR _ _,aR _ _⟩
 case round =>
  obtain⟨k,hk,rfl,hown,ho⟩:=hrel;have OW:=aA hown;have OO:=aA ho;clear hown ho;by_cases hlt:k<l.length
  ·obtain⟨bk,off,hp,hb,c0,c1⟩:=HV.out.iv OO.out hlt
   subst hp;have hle:=OO.out.size;have hb':bk<wr.heap.size:=by omega
   have HSN:Hid ((l.take (k+1)).filter bU=(l.take k).filter bU ++ (if bU l[k]=true then [l[k]] else [])):=aA (by
    rw[List.take_succ_eq_append_getElem hlt,List.filter_append];by_cases h:bU l[k]=true<;>simp[h])
   have hfl:((l.take k).filter bU).length<=k:=Nat.le_trans (length_filter_le _ _) (by rw[length_take];omega);generalize (l.take k).filter bU=acc at OW HSN hfl;generalize l[k]=x at c0 c1 HSN;have HH:=aA (fun w'=>dD x w');generalize bU x=hx at HSN HH;obtain⟨lo,hi⟩:=x;unfold dV at HH;dsimp only at c0 c1 HH;go_wp2_with fail
   refine aG (G:=fun w0=>Calls _ _ _ w0 _) ?_;intro w1 hb1 ho1 hs1;refine (HH.out w1).mono ?_;rintro r w2 ⟨rfl,ho2⟩;have hoo:=(aR [] wr).aB ho1 |>.aB ho2
   have O2:=aA (OO.out.aB hoo);have W2:=aA (OW.out.kept hoo);have B2:=aA (ho2.got hb1 (by simp));clear hb1 ho1 hs1 ho2 hoo c0 c1 OO OW HH
   cases hx with
   | false =>
    have HC:Hid ((l.take (k+1)).filter bU=acc):=aA (by rw[HSN.out];simp);go_wp2;go_roundw
    case rel=>exact⟨k+1,by omega,by go_num,by rw[HC.out];exact W2.out,O2.out⟩
    case measure=>first|(simp[intOf];done)|(simp[intOf];omega)
   | true =>
    have HC:Hid ((l.take (k+1)).filter bU=acc ++ [⟨lo,hi⟩]):=aA (by rw[HSN.out];simp);obtain⟨pp,cap',rfl,_⟩:=Own.dI (enc:=rD) (s:=2) iK W2.out;have k0:=aC B2.out 0;have k1:=aC B2.out 1;have lk:=aF B2.out;go_wp2_with (at_builtin;refine aW ?_)
    refine aG (G:=fun w0=>Stop (wpList _ _ _ _ _ w0)) ?_;intro w5 hb5 ho5 hs5;have B5:=aA hb5;have O5:=aA (O2.out.aB ho5);have R5:=aA (W2.out.kept ho5);clear hb5 ho5 hs5 k0 k1 lk;refine bH ?_;refine bK (w0:=w) rfl _ _ 348 rfl 39 (.agg #[.int .i64 0,.int .i64 0]) 2 16 Tryz.underlying348 (by kernel_rfl) rfl (by decide) rD iK zU acc _ rfl R5.out w2.heap.size ⟨lo,hi⟩ rfl (fun j u hj=>?_) (by simp[maxLen];omega) (by omega) O5.out ?_
    ·rw[aC B5.out,<-hj];simp[rD]
    intro v6 w6 hown6 ho6 _;have W6:=aA hown6;have O6:=aA ho6;clear hown6 ho6;go_wp2;go_roundw
    case rel=>exact⟨k+1,by omega,by go_num,by rw[HC.out];exact W6.out,O6.out⟩
    case measure=>first|(simp[intOf];done)|(simp[intOf];omega)
  ·have HC:Hid ((l.take k).filter bU=l.filter bU):=aA (by rw[take_of_length_le (by omega)])
   rw[HC.out] at OW;go_wp2;go_ret
   exact⟨⟨_,rfl,OW.out⟩,OO.out⟩
end
section
open Go.RowKit
theorem eH {P:Program} {f:FuncId} {args:Array Value} {w:World} {v:Value} (h:∀ w',Oy [] w w'->Calls P f args w' fun e w''=>e=.returned v/\Oy [] w' w'') :
  ∀ w',(∃ x,w'=plus w x)->Calls P f args w' fun e w''=>e=.returned v/\∃ x,w''=plus w x:=
 gL fun w' hw'=>(h w' (aN hw')).mono fun _ _ ⟨he,ho⟩=>⟨he,ho.xC⟩
theorem cK {P:Program} {ops:Array Oper} {C:World->Prop} {Q:Act->Prop} {a:Act} {o:Oper} {rest:List Oper} (hg:Region.wanted o (yielded ops a.tmps)=true) (f:FuncId) (args:Array Value)
  (hrun:∀ w,(execOp a.eval o).run P w=.ok (.enter f args) w) (v:Value) (hcall:∀ w',C w'->Calls P f args w' fun e w''=>e=.returned v/\C w'')
  (h:wpQuiet P ops C Q rest (a.put o.dst v)):wpQuiet P ops C Q (o::rest) a:=by
 refine wpQuiet_step fun K hK=>?_;rw[hg];simp only[if_true];refine⟨v,fun w' hw'=>?_,hK _ h⟩;unfold Oper.quietAt;rw[hrun w'];exact⟨rfl,hcall w' hw'⟩
theorem Own.wH {α:Type} {enc:α->List Value} {e:TypeId} {s B:Nat} {w:World} {v:Value} {l:List α} (h:Own enc e s B w v l):∀ x∈v.ownBlock.toList,B<=x:=by
 intro x hx;rcases h with ⟨rfl,_⟩|⟨g,cc,rfl,hB,_⟩
 ·simp[Value.ownBlock] at hx
 ·simp[Value.ownBlock] at hx;omega
theorem Own.base {α:Type} {enc:α->List Value} {e:TypeId} {s B B':Nat} {w:World} {v:Value} {l:List α} (h:Own enc e s B w v l) (hB:B'<=B):Own enc e s B' w v l:=by
 rcases h with h|⟨g,cc,h1,h2,h3⟩
 ·exact .inl h
 ·exact .inr ⟨g,cc,h1,by omega,h3⟩
def nW (f:Iv->Int) (pk:Int->Bool) (l:List Iv):List Int:=((l.filter bU).map f).filter pk
def vD (l:List Int):List Int:=l.mergeSort fun x y=>decide (x<=y)
def VP (l:List Iv) (need:Int) (t:Int):Bool:=decide (need<=(sU l t:Int))
theorem QV {w:World} {p:Option Addr} {n cap b1 b2:Nat} {l:List Iv} {need:Int} (hv:aU rD 2 w p n cap l) (hn:l.length<=48) (h1:w.heap[b1]? = some (.cells #[.slice p n cap] 348 (0,0))) (h2:w.heap[b2]? = some (.cells #[.int .i64 need] 3 (0,0))) (t:Int) :
  Calls Tryz.prog 221 #[.int .i64 t,.pointer (some ⟨b1,0,none⟩),.pointer (some ⟨b2,0,none⟩)] w fun e w'=>e=.returned (.bool (VP l need t))/\Oy [] w w':=by
 have HC:=aA (fun w' (ho:Oy [] w w')=>pCount (hv.kept ho) hn t);have B1:=aA h1;have B2:=aA h2;have HP:Hid (VP l need t=decide (need<=(sU l t:Int))):=aA rfl;generalize VP l need t=r at HP |-;generalize sU l t=c at HC HP;have k1:=aC h1 0;have k2:=aC h2 0;have l1:=aF h1;have l2:=aF h2;clear hv h1 h2;obtain⟨rb,hrb⟩:∃ rb,decide (need<=(c:Int))=rb:=⟨_,rfl⟩;obtain rfl:r=rb:=by rw[HP.out,hrb]
 clear HP;go_enter Tryz.func221,Tryz.ntmps221
 go_wp2_with fail
 refine aP [0,1,2,3,4] [5] (by kernel_rfl) (by kernel_rfl) ?_;simp only[bV];iterate 2 (refine wpQuiet_step (fun K hK=>?_);go_simp;refine hK _ ?_;clear hK K)
 refine cK (by kernel_rfl) 222 #[.slice p n cap,.int .i64 t] (fun _=>by kernel_rfl) (.int .i64 c) (eH fun w' ho'=>HC.out w' ho') ?_;iterate 2 (refine wpQuiet_step (fun K hK=>?_);go_simp;refine hK _ ?_;clear hK K)
 refine wpQuiet_nil ?_;intro w1 hw1;have O1:=aA (aN hw1);clear hw1;go_wp2;go_ret
 exact⟨rfl,O1.out⟩
theorem p_lower (x:Iv) (w:World):Calls Tryz.prog 224 #[dV x] w fun e w'=>e=.returned (.int .i64 x.lo)/\Oy [] w w':=by
 obtain⟨lo,hi⟩:=x;unfold dV;dsimp only;go_enter Tryz.func224,Tryz.ntmps224
 go_upto_region 1 with (fail)
 refine aG (G:=fun w0=>Code.wp _ _ _ _ w0) ?_;intro w1 hb1 ho1 hs1;have B1:=aA hb1;have O1:=aA ho1;clear hb1 ho1 hs1;have k0:=aC B1.out 0;have k1:=aC B1.out 1;have lk:=aF B1.out;go_wp2;go_ret
 exact⟨rfl,O1.out⟩
theorem p_upper (x:Iv) (w:World):Calls Tryz.prog 225 #[dV x] w fun e w'=>e=.returned (.int .i64 x.hi)/\Oy [] w w':=by
 obtain⟨lo,hi⟩:=x;unfold dV;dsimp only;go_enter Tryz.func225,Tryz.ntmps225
 go_upto_region 1 with (fail)
 refine aG (G:=fun w0=>Code.wp _ _ _ _ w0) ?_;intro w1 hb1 ho1 hs1;have B1:=aA hb1;have O1:=aA ho1;clear hb1 ho1 hs1;have k0:=aC B1.out 0;have k1:=aC B1.out 1;have lk:=aF B1.out;go_wp2;go_ret
 exact⟨rfl,O1.out⟩
def PeI (w:World) (f:Iv->Int) (pk:Int->Bool) (l:List Iv) (vo vi:Value) (wr:World):Prop:=
 ∃ k:Nat,k<=l.length/\vi=.int .i64 k/\Own fC 3 1 w.heap.size wr vo (((l.take k).map f).filter pk)/\Oy [] w wr
def PeR (w0:World) (l:List Int) (e:Ending) (w:World):Prop:=∃ v:Value,e=.returned v/\Own fC 3 1 w0.heap.size w v l
theorem KF {w:World} {p:Option Addr} {n cap b1 b2:Nat} {l:List Iv} {pk:Int->Bool} (hv:aU rD 2 w p n cap l) (hn:l.length<=48)
  (hpk:∀ t w',Oy [] w w'->Calls Tryz.prog 221 #[.int .i64 t,.pointer (some ⟨b1,0,none⟩),.pointer (some ⟨b2,0,none⟩)] w' fun e w''=>e=.returned (.bool (pk t))/\Oy [] w' w'') :
  Calls Tryz.prog 223 #[.slice p n cap,.func (.func 224) #[] #[],.func (.func 221) #[] #[.pointer (some ⟨b1,0,none⟩),.pointer (some ⟨b2,0,none⟩)]] w fun e w'=>PeR w (vD (nW Iv.lo pk l)) e w'/\Oy [] w w':=by
 have HA:=aA (BU hv hn);have HPK:=aA hpk;have hfl:(l.filter bU).length<=48:=Nat.le_trans (length_filter_le _ _) hn;have HE:Hid (nW Iv.lo pk l=((l.filter bU).map Iv.lo).filter pk):=aA rfl;generalize nW Iv.lo pk l=es at HE |-;generalize l.filter bU=vs at HA HE hfl;clear hv hn hpk;go_enter Tryz.func223,Tryz.ntmps223
 go_wp2_with fail
 refine HA.out.mono ?_;rintro e w1 ⟨⟨v,rfl,hown⟩,ho⟩;obtain⟨pv,cv,rfl,hvr⟩:=Own.dI (enc:=rD) (s:=2) iK hown;have HV:=aA hvr;have O1:=aA ho;clear ho hown hvr HA;go_wp2_with fail
 go_loopw [7,14] (fun vo vi wr=>PeI w1 Iv.lo pk vs vo vi wr) (fun _ vi _=>vs.length-(intOf vi).toNat)
 case atStart=>exact⟨0,Nat.zero_le _,rfl,bR _ _,aR _ _⟩
 case round =>
  obtain⟨k,hk,rfl,hown,ho⟩:=hrel;have OW:=aA hown;have OO:=aA ho;have OA:=aA (O1.out.aB ho);clear hown ho;by_cases hlt:k<vs.length
  ·obtain⟨bk,off,hp,hb,c0,c1⟩:=HV.out.iv OO.out hlt
   subst hp;have hle:=OO.out.size;have hb':bk<wr.heap.size:=by omega
   have HSN:Hid (((vs.take (k+1)).map Iv.lo).filter pk=((vs.take k).map Iv.lo).filter pk ++ (if pk vs[k].lo=true then [vs[k].lo] else [])):=aA (by
    rw[List.take_succ_eq_append_getElem hlt,List.map_append,List.filter_append];by_cases h:pk vs[k].lo=true<;>simp[h])
   have hfl2:(((vs.take k).map Iv.lo).filter pk).length<=k:=Nat.le_trans (length_filter_le _ _) (by rw[length_map,length_take];omega);generalize ((vs.take k).map Iv.lo).filter pk=acc at OW HSN hfl2;generalize vs[k]=x at c0 c1 HSN;have HH:=aA (fun w'=>p_lower x w');obtain⟨lo,hi⟩:=x;unfold dV at HH;dsimp only at c0 c1 HH HSN;have HPT:=aA (HPK.out lo);generalize pk lo=hx at HSN HPT;go_wp2_with fail
   refine aG (G:=fun w0=>Calls _ _ _ w0 _) ?_;intro w2 hb1 ho1 hs1;refine (HH.out w2).mono ?_;rintro r w3 ⟨rfl,ho2⟩;have hoo:=(aR [] wr).aB ho1 |>.aB ho2
   have O3:=aA (OO.out.aB hoo);have A3:=aA (OA.out.aB hoo);have W3:=aA (OW.out.kept hoo);clear hb1 ho1 hs1 ho2 hoo c0 c1 OO OW HH OA;go_wp2_with fail
   refine (HPT.out w3 A3.out).mono ?_;rintro r w4 ⟨rfl,ho2⟩;have O4:=aA (O3.out.aB ho2);have W4:=aA (W3.out.kept ho2);clear ho2 O3 A3 W3 HPT
   cases hx with
   | false =>
    have HC:Hid (((vs.take (k+1)).map Iv.lo).filter pk=acc):=aA (by rw[HSN.out];simp);go_wp2;go_roundw
    case rel=>exact⟨k+1,by omega,by go_num,by rw[HC.out];exact W4.out,O4.out⟩
    case measure=>first|(simp[intOf];done)|(simp[intOf];omega)
   | true =>
    have HC:Hid (((vs.take (k+1)).map Iv.lo).filter pk=acc ++ [lo]):=aA (by rw[HSN.out];simp);obtain⟨pp,cap',rfl,_⟩:=Own.dI (enc:=fC) (s:=1) dM W4.out;go_wp2_with (at_builtin;refine aW ?_)
    refine aG (G:=fun w0=>Stop (wpList _ _ _ _ _ w0)) ?_;intro w5 hb5 ho5 hs5;have B5:=aA hb5;have O5:=aA (O4.out.aB ho5);have R5:=aA (W4.out.kept ho5);clear hb5 ho5 hs5;refine bH ?_;refine bK (w0:=w1) rfl _ _ 52 rfl 3 (.int .i64 0) 1 8 Tryz.underlying52 (by kernel_rfl) rfl (by decide) fC dM nT acc _ rfl R5.out w4.heap.size lo rfl (fun j u hj=>?_) (by simp[maxLen];omega) (by omega) O5.out ?_
    ·rw[aC B5.out,<-hj];simp[fC]
    intro v6 w6 hown6 ho6 _;have W6:=aA hown6;have O6:=aA ho6;clear hown6 ho6;go_wp2;go_roundw
    case rel=>exact⟨k+1,by omega,by go_num,by rw[HC.out];exact W6.out,O6.out⟩
    case measure=>first|(simp[intOf];done)|(simp[intOf];omega)
  ·have HC:Hid (((vs.take k).map Iv.lo).filter pk=es):=aA (by rw[HE.out,take_of_length_le (by omega)])
   have hel:es.length<=48:=by rw[HE.out];exact Nat.le_trans (length_filter_le _ _) (by rw[length_map];exact hfl)
   rw[HC.out] at OW;have HS:=aA (BG OW.out (by omega));go_wp2_with fail
   refine HS.out.mono ?_;rintro e w2 ⟨rfl,hown2,ho2⟩;have hob:=OW.out.wH;have O2:=aA (OA.out.trans ho2 (fun x hx=>.inr (Nat.le_trans O1.out.size (hob x hx))));have W2:=aA (hown2.base O1.out.size);clear hown2 ho2 hob HS OW OO OA;go_wp2;go_ret
   exact⟨⟨_,rfl,W2.out⟩,O2.out⟩
theorem KE {w:World} {p:Option Addr} {n cap b1 b2:Nat} {l:List Iv} {pk:Int->Bool} (hv:aU rD 2 w p n cap l) (hn:l.length<=48)
  (hpk:∀ t w',Oy [] w w'->Calls Tryz.prog 221 #[.int .i64 t,.pointer (some ⟨b1,0,none⟩),.pointer (some ⟨b2,0,none⟩)] w' fun e w''=>e=.returned (.bool (pk t))/\Oy [] w' w'') :
  Calls Tryz.prog 223 #[.slice p n cap,.func (.func 225) #[] #[],.func (.func 221) #[] #[.pointer (some ⟨b1,0,none⟩),.pointer (some ⟨b2,0,none⟩)]] w fun e w'=>PeR w (vD (nW Iv.hi pk l)) e w'/\Oy [] w w':=by
 have HA:=aA (BU hv hn);have HPK:=aA hpk;have hfl:(l.filter bU).length<=48:=Nat.le_trans (length_filter_le _ _) hn;have HE:Hid (nW Iv.hi pk l=((l.filter bU).map Iv.hi).filter pk):=aA rfl;generalize nW Iv.hi pk l=es at HE |-;generalize l.filter bU=vs at HA HE hfl;clear hv hn hpk;go_enter Tryz.func223,Tryz.ntmps223
 go_wp2_with fail
 refine HA.out.mono ?_;rintro e w1 ⟨⟨v,rfl,hown⟩,ho⟩;obtain⟨pv,cv,rfl,hvr⟩:=Own.dI (enc:=rD) (s:=2) iK hown;have HV:=aA hvr;have O1:=aA ho;clear ho hown hvr HA;go_wp2_with fail
 go_loopw [7,14] (fun vo vi wr=>PeI w1 Iv.hi pk vs vo vi wr) (fun _ vi _=>vs.length-(intOf vi).toNat)
 case atStart=>exact⟨0,Nat.zero_le _,rfl,bR _ _,aR _ _⟩
 case round =>
  obtain⟨k,hk,rfl,hown,ho⟩:=hrel;have OW:=aA hown;have OO:=aA ho;have OA:=aA (O1.out.aB ho);clear hown ho;by_cases hlt:k<vs.length
  ·obtain⟨bk,off,hp,hb,c0,c1⟩:=HV.out.iv OO.out hlt
   subst hp;have hle:=OO.out.size;have hb':bk<wr.heap.size:=by omega
   have HSN:Hid (((vs.take (k+1)).map Iv.hi).filter pk=((vs.take k).map Iv.hi).filter pk ++ (if pk vs[k].hi=true then [vs[k].hi] else [])):=aA (by
    rw[List.take_succ_eq_append_getElem hlt,List.map_append,List.filter_append];by_cases h:pk vs[k].hi=true<;>simp[h])
   have hfl2:(((vs.take k).map Iv.hi).filter pk).length<=k:=Nat.le_trans (length_filter_le _ _) (by rw[length_map,length_take];omega);generalize ((vs.take k).map Iv.hi).filter pk=acc at OW HSN hfl2;generalize vs[k]=x at c0 c1 HSN;have HH:=aA (fun w'=>p_upper x w');obtain⟨lo,hi⟩:=x;unfold dV at HH;dsimp only at c0 c1 HH HSN;have HPT:=aA (HPK.out hi);generalize pk hi=hx at HSN HPT;go_wp2_with fail
   refine aG (G:=fun w0=>Calls _ _ _ w0 _) ?_;intro w2 hb1 ho1 hs1;refine (HH.out w2).mono ?_;rintro r w3 ⟨rfl,ho2⟩;have hoo:=(aR [] wr).aB ho1 |>.aB ho2
   have O3:=aA (OO.out.aB hoo);have A3:=aA (OA.out.aB hoo);have W3:=aA (OW.out.kept hoo);clear hb1 ho1 hs1 ho2 hoo c0 c1 OO OW HH OA;go_wp2_with fail
   refine (HPT.out w3 A3.out).mono ?_;rintro r w4 ⟨rfl,ho2⟩;have O4:=aA (O3.out.aB ho2);have W4:=aA (W3.out.kept ho2);clear ho2 O3 A3 W3 HPT
   cases hx with
   | false =>
    have HC:Hid (((vs.take (k+1)).map Iv.hi).filter pk=acc):=aA (by rw[HSN.out];simp);go_wp2;go_roundw
    case rel=>exact⟨k+1,by omega,by go_num,by rw[HC.out];exact W4.out,O4.out⟩
    case measure=>first|(simp[intOf];done)|(simp[intOf];omega)
   | true =>
    have HC:Hid (((vs.take (k+1)).map Iv.hi).filter pk=acc ++ [hi]):=aA (by rw[HSN.out];simp);obtain⟨pp,cap',rfl,_⟩:=Own.dI (enc:=fC) (s:=1) dM W4.out;go_wp2_with (at_builtin;refine aW ?_)
    refine aG (G:=fun w0=>Stop (wpList _ _ _ _ _ w0)) ?_;intro w5 hb5 ho5 hs5;have B5:=aA hb5;have O5:=aA (O4.out.aB ho5);have R5:=aA (W4.out.kept ho5);clear hb5 ho5 hs5;refine bH ?_;refine bK (w0:=w1) rfl _ _ 52 rfl 3 (.int .i64 0) 1 8 Tryz.underlying52 (by kernel_rfl) rfl (by decide) fC dM nT acc _ rfl R5.out w4.heap.size hi rfl (fun j u hj=>?_) (by simp[maxLen];omega) (by omega) O5.out ?_
    ·rw[aC B5.out,<-hj];simp[fC]
    intro v6 w6 hown6 ho6 _;have W6:=aA hown6;have O6:=aA ho6;clear hown6 ho6;go_wp2;go_roundw
    case rel=>exact⟨k+1,by omega,by go_num,by rw[HC.out];exact W6.out,O6.out⟩
    case measure=>first|(simp[intOf];done)|(simp[intOf];omega)
  ·have HC:Hid (((vs.take k).map Iv.hi).filter pk=es):=aA (by rw[HE.out,take_of_length_le (by omega)])
   have hel:es.length<=48:=by rw[HE.out];exact Nat.le_trans (length_filter_le _ _) (by rw[length_map];exact hfl)
   rw[HC.out] at OW;have HS:=aA (BG OW.out (by omega));go_wp2_with fail
   refine HS.out.mono ?_;rintro e w2 ⟨rfl,hown2,ho2⟩;have hob:=OW.out.wH;have O2:=aA (OA.out.trans ho2 (fun x hx=>.inr (Nat.le_trans O1.out.size (hob x hx))));have W2:=aA (hown2.base O1.out.size);clear hown2 ho2 hob HS OW OO OA;go_wp2;go_ret
   exact⟨⟨_,rfl,W2.out⟩,O2.out⟩
end
section
open Go.RowKit
def rF (l:List Iv) (need:Int):Option Iv:=if need<1 then none else
 match (vD (nW Iv.lo (VP l need) l)).head?,(vD (nW Iv.hi (VP l need) l)).getLast? with
 | some a,some b=>some ⟨a,b⟩
 | _,_=>none
def kK:Option Iv->Value
 | some x=>.tuple #[dV x,.bool true]
 | none=>.tuple #[dV ⟨0,0⟩,.bool false]
theorem pHull {w:World} {p:Option Addr} {n cap:Nat} {l:List Iv} (hv:aU rD 2 w p n cap l) (hn:l.length<=48) (need:Int) :
  Calls Tryz.prog 219 #[.slice p n cap,.int .i64 need] w fun e w'=>e=.returned (kK (rF l need))/\Oy [] w w':=by
 have HV:=aA hv;clear hv;obtain⟨res,hres⟩:∃ res,res=rF l need:=⟨_,rfl⟩;rw[<-hres];have HR:=aA hres;clear hres;go_enter Tryz.func219,Tryz.ntmps219
 go_upto_region 1 with (fail)
 refine kZ (G:=fun w0=>Code.wp _ _ _ _ w0) (R:=fun w1=>w1.heap[w.heap.size]? = some (.cells #[.slice p n cap] 348 (0,0))/\w1.heap[w.heap.size+1]? = some (.cells #[.int .i64 need] 3 (0,0))/\w1.heap[w.heap.size+2]? = some (.cells #[.int .i64 0,.int .i64 0] 39 (0,0))/\Oy [] w w1) ?_ ?_
 ·have k0:=bG w (.cells #[.slice p n cap] 348)
  have k1:=bG (w.alloc (.cells #[.slice p n cap] 348)) (.cells #[.int .i64 need] 3);have k2:=bG ((w.alloc (.cells #[.slice p n cap] 348)).alloc (.cells #[.int .i64 need] 3)) (.cells #[.int .i64 0,.int .i64 0] 39);simp only[World.size_alloc] at k0 k1 k2;exact⟨alloc_old (alloc_old k0),alloc_old k1,k2,(((aR [] w).alloc _).alloc _).alloc _⟩
 rintro w1 ⟨h1,h2,h3,ho1⟩;have B1:=aA h1;have B2:=aA h2;have B3:=aA h3;have O1:=aA ho1;have HS:=aA ho1.size;obtain⟨b1,hb1⟩:∃ b,w.heap.size=b:=⟨_,rfl⟩;obtain⟨b2,hb2⟩:∃ b,w.heap.size+1=b:=⟨_,rfl⟩;obtain⟨b3,hb3⟩:∃ b,w.heap.size+2=b:=⟨_,rfl⟩;have HN3:Hid (w.heap.size<=b3/\b1≠b3/\b2≠b3):=aA (by omega);rw[hb1] at B1;rw[hb2] at B2;rw[hb3] at B3;rw[show w.heap.size+1+1=b3 from hb3,hb2,hb1];clear h1 h2 h3 ho1 hb1 hb2 hb3;have k1:=aC B1.out 0;have k2:=aC B2.out 0;have l1:=aF B1.out;have l2:=aF B2.out;have k3:=aC B3.out 0;have k4:=aC B3.out 1;have l3:=aF B3.out;have z3:=aM B3.out 0;have z4:=aM B3.out 1;by_cases hneed:need<1
 ·obtain rfl:res=none:=by rw[HR.out];unfold rF;rw[if_pos hneed]
  have a1:decide (need<1)=true:=eY hneed;clear HR;go_wp2;have HD:=aH (o:=1) (.int .i64 0) (aH (o:=0) (.int .i64 0) B3.out);have e0:=aC HD 0;have e1:=aC HD 1;have le:=aF HD;refine bodyPost_ret (v:=kK none) (by simp[results,Tryz.results219,go_sem,e0,e1,kK,dV]) rfl ⟨rfl,?_⟩;exact (O1.out.setCell (.inr HN3.out.1) _).setCell (.inr HN3.out.1) _
 have a1:decide (need<1)=false:=dL hneed
 have HR2:Hid (res=match (vD (nW Iv.lo (VP l need) l)).head?,(vD (nW Iv.hi (VP l need) l)).getLast? with
  | some a,some b=>some ⟨a,b⟩
  | _,_=>none):=aA (by rw[HR.out];unfold rF;rw[if_neg hneed])
 have HL:=aA (fun w' (ho:Oy [] w1 w')=>KF (pk:=VP l need) ((HV.out.kept O1.out).kept ho) hn (fun t w'' ho'=>QV (((HV.out.kept O1.out).kept ho).kept ho') hn (ho'.got (ho.got B1.out (by simp)) (by simp)) (ho'.got (ho.got B2.out (by simp)) (by simp)) t));have HU:=aA (fun w' (ho:Oy [] w1 w')=>KE (pk:=VP l need) ((HV.out.kept O1.out).kept ho) hn (fun t w'' ho'=>QV (((HV.out.kept O1.out).kept ho).kept ho') hn (ho'.got (ho.got B1.out (by simp)) (by simp)) (ho'.got (ho.got B2.out (by simp)) (by simp)) t));generalize vD (nW Iv.lo (VP l need) l)=S1 at HR2 HL;generalize vD (nW Iv.hi (VP l need) l)=S2 at HR2 HU;clear HR;go_wp2_with fail
 refine dG [0,1,3,4] [] (OnlyC ([]:List Nat) w1) (by kernel_rfl) (by kernel_rfl) ?_;simp only[bV];iterate 4 (refine aJ (fun K hK=>?_);go_simp;refine hK _ ?_;clear hK K)
 refine aK ?_;refine Rest.by (X:=Value × Value) (fun y a=>(((a.put (some 15) y.1).put (some 18) y.2).put (some 7) y.1).put (some 8) y.2) (fun y w'=>Own fC 3 1 w1.heap.size w' y.1 S1/\Own fC 3 1 w1.heap.size w' y.2 S2/\Oy [] w1 w') ?_ ?_
 ·rintro⟨y1,y2⟩ w3 ⟨hR1,hR2,ho3⟩
  simp only[Act.put,List.setIfInBounds_toArray,List.set_cons_succ,List.set_cons_zero];obtain⟨q1,c1,rfl,hv1⟩:=Own.dI (enc:=fC) (s:=1) dM hR1;obtain⟨q2,c2,rfl,hv2⟩:=Own.dI (enc:=fC) (s:=1) dM hR2;have V1:=aA hv1;have V2:=aA hv2;have O3:=aA ho3;have OW:=aA (O1.out.aB ho3);have D3:=aA (ho3.got B3.out (by simp));clear hR1 hR2 ho3 hv1 hv2 k1 k2 k3 k4 l1 l2 l3 z3 z4 HL HU;have k3:=aC D3.out 0;have k4:=aC D3.out 1;have l3:=aF D3.out;have z3:=aM D3.out 0;have z4:=aM D3.out 1;by_cases h1:S1=[]
  ·obtain rfl:res=none:=by rw[HR2.out,h1];rfl
   subst h1;clear HR2;go_wp2;have HD:=aH (o:=1) (.int .i64 0) (aH (o:=0) (.int .i64 0) D3.out);have e0:=aC HD 0;have e1:=aC HD 1;have le:=aF HD;refine bodyPost_ret (v:=kK none) (by simp[results,Tryz.results219,go_sem,e0,e1,kK,dV]) rfl ⟨rfl,?_⟩;exact (OW.out.setCell (.inr HN3.out.1) _).setCell (.inr HN3.out.1) _
  ·have n1:0<S1.length:=List.length_pos_iff.2 h1
   by_cases h2:S2=[]
   ·obtain rfl:res=none:=by rw[HR2.out,h2];cases S1<;>rfl
    have n1':((S1.length:Int) == 0)=false:=by rw[beq_eq_false_iff_ne];omega
    subst h2;clear HR2;go_wp2;have HD:=aH (o:=1) (.int .i64 0) (aH (o:=0) (.int .i64 0) D3.out);have e0:=aC HD 0;have e1:=aC HD 1;have le:=aF HD;refine bodyPost_ret (v:=kK none) (by simp[results,Tryz.results219,go_sem,e0,e1,kK,dV]) rfl ⟨rfl,?_⟩;exact (OW.out.setCell (.inr HN3.out.1) _).setCell (.inr HN3.out.1) _
   ·have n2:0<S2.length:=List.length_pos_iff.2 h2
    have n1':((S1.length:Int) == 0)=false:=by rw[beq_eq_false_iff_ne];omega
    have n2':((S2.length:Int) == 0)=false:=by rw[beq_eq_false_iff_ne];omega
    obtain⟨x,hx⟩:∃ x,S1[0]=x:=⟨_,rfl⟩;obtain⟨j,hj⟩:∃ j,S2.length-1=j:=⟨_,rfl⟩;have hjl:j<S2.length:=by omega
    have hj2:(S2.length:Int)-1=(j:Int):=by omega
    obtain⟨y,hy⟩:∃ y,S2[j]=y:=⟨_,rfl⟩
    obtain rfl:res=some ⟨x,y⟩:=by
     rw[HR2.out,List.head?_eq_getElem?,getElem?_eq_getElem n1,hx,List.getLast?_eq_getElem?,hj,getElem?_eq_getElem hjl,hy]
    obtain⟨g1,o1,hp1,hg1,hc1⟩:=V1.out.cell 0 x (by rw[getElem?_eq_getElem n1,hx]);obtain⟨g2,o2,hp2,hg2,hc2⟩:=V2.out.cell j y (by rw[getElem?_eq_getElem hjl,hy]);subst hp1 hp2;have m1:=hc1 0 _ rfl;have m2:=hc2 0 _ rfl;simp only[Nat.add_zero,Nat.mul_one] at m1 m2
    have hjb:(j:Int)<=9223372036854775807:=by
     have h5:=V2.out.le;have h6:=V2.out.cm;simp only[maxLen] at h6;omega
    have hjw:wrap .i64 (j:Int)=(j:Int):=by rw[IntKind.wrap_i64];omega
    clear HR2 hc1 hc2 h1 h2 hx hy hj;go_wp2_with fail
    refine aP [0,1,2,3,4,5,6,7,8,9] [10,11] (by kernel_rfl) (by kernel_rfl) ?_;simp only[bV];iterate 10 (refine wpQuiet_step (fun K hK=>?_);go_simp;refine hK _ ?_;clear hK K)
    refine wpQuiet_nil ?_;intro w4 hw4;have O4:=aA (aN hw4);have E4:=aA (O4.out.got D3.out (by simp));have P4:=aA (OW.out.aB O4.out);clear hw4 k3 k4 l3 z3 z4 m1 m2;have k3:=aC E4.out 0;have k4:=aC E4.out 1;have l3:=aF E4.out;have z3:=aM E4.out 0;have z4:=aM E4.out 1;go_wp2;have HD:=aH (o:=1) (.int .i64 y) (aH (o:=0) (.int .i64 x) E4.out);have e0:=aC HD 0;have e1:=aC HD 1;have le:=aF HD;refine bodyPost_ret (v:=kK (some ⟨x,y⟩)) (by simp[results,Tryz.results219,go_sem,e0,e1,kK,dV]) rfl ⟨rfl,?_⟩;exact (P4.out.setCell (.inr HN3.out.1) _).setCell (.inr HN3.out.1) _
 ·refine aL [2] (by kernel_rfl) (by simp) (.inr (bC (aR [] w1).drew)) ?_
  simp only[eD];refine aD rfl ?_;go_wp2_with fail
  refine (HL.out _ (aR [] w1).drew).mono ?_;rintro e w2 ⟨⟨v2,rfl,hown2⟩,ho2⟩;have O2:=aA ((aR [] w1).drew.aB ho2);have W2:=aA (hown2.base (aR [] w1).drew.size);clear hown2 ho2;go_wp2;simp only[bA];refine aL [5] (by kernel_rfl) (by simp) (.inr (bC O2.out)) ?_;simp only[eD];refine aD rfl ?_;go_wp2_with fail
  refine (HU.out _ O2.out).mono ?_;rintro e w3 ⟨⟨v3,rfl,hown3⟩,ho3⟩;have O3:=aA (O2.out.aB ho3);have W3:=aA (hown3.base O2.out.size);have V3:=aA (W2.out.kept ho3);clear hown3 ho3;go_wp2;simp only[bA];refine aL [6] (by kernel_rfl) (by simp) (.inr (bC O3.out)) ?_;simp only[eD];refine aD rfl ?_;go_wp2;simp only[bA];refine aL [7] (by kernel_rfl) (by simp) (.inr (bC O3.out)) ?_;simp only[eD];refine aD rfl ?_;go_wp2;simp only[bA];refine dX (by kernel_rfl) (.inr (bC O3.out)) ⟨(v2,v3),?_,V3.out,W3.out,O3.out⟩;simp[Act.put]
end
section
open Go.RowKit
def pV (c:Cd):Iv:=⟨c.off-c.dist,c.off+c.dist⟩
def uX (fit:Cd->Bool):List Cd->Nat->List Int
 | [],_=>[]
 | c::r,i=>if fit c=true then (i:Int)::uX fit r (i+1) else uX fit r (i+1)
theorem J8 (fit:Cd->Bool) (c:Cd):∀ (l:List Cd) (i:Nat),uX fit (l ++ [c]) i=uX fit l i ++ (if fit c=true then [((i+l.length:Nat):Int)] else [])
 | [],i=>by
  by_cases h:fit c=true<;>simp[uX,h]
 | x::r,i=>by
  rw[List.cons_append];unfold uX;rw[J8 fit c r (i+1),show i+1+r.length=i+(x::r).length by simp;omega];by_cases h:fit x=true
  ·rw[if_pos h,if_pos h];rfl
  ·rw[if_neg h,if_neg h]
theorem zN (fit:Cd->Bool):∀ (l:List Cd) (i:Nat),(uX fit l i).length<=l.length
 | [],i=>Nat.le_refl _
 | x::r,i=>by
  unfold uX;have:=zN fit r (i+1);by_cases h:fit x=true
  ·rw[if_pos h];simpa using this
  ·rw[if_neg h];simp;omega
def NU (h:Iv) (c:Cd):Bool:=decide (h.lo<=c.off) && decide (c.off<=h.hi)
theorem pSpan (c:Cd) (hc:CO c=true) (w:World):Calls Tryz.prog 251 #[yJ c] w fun e w'=>e=.returned (dV (pV c))/\Oy [] w w':=by
 have hbd:=iM hc;obtain⟨id,of,di,ji,st⟩:=c;unfold yJ pV dV;dsimp only at hbd |-;obtain⟨_,_,b1,b2,b3,b4,_⟩:=hbd;clear hc;go_enter Tryz.func251,Tryz.ntmps251
 go_upto_region 1 with (fail)
 refine kZ (G:=fun w0=>Code.wp _ _ _ _ w0) (R:=fun w1=>w1.heap[w.heap.size]? = some (.cells #[.int .i64 id,.int .i64 of,.int .i64 di,.int .i64 ji,.int .i64 st] 382 (0,0))/\w1.heap[w.heap.size+1]? = some (.cells #[.int .i64 0,.int .i64 0] 39 (0,0))/\Oy [] w w1) ?_ ?_
 ·have k0:=bG w (.cells #[.int .i64 id,.int .i64 of,.int .i64 di,.int .i64 ji,.int .i64 st] 382)
  have k1:=bG (w.alloc (.cells #[.int .i64 id,.int .i64 of,.int .i64 di,.int .i64 ji,.int .i64 st] 382)) (.cells #[.int .i64 0,.int .i64 0] 39);simp only[World.size_alloc] at k1;exact⟨alloc_old k0,k1,((aR [] w).alloc _).alloc _⟩
 rintro w1 ⟨h1,h2,ho1⟩;have B1:=aA h1;have B2:=aA h2;have O1:=aA ho1;obtain⟨b2,hb2⟩:∃ b,w.heap.size+1=b:=⟨_,rfl⟩;have HN:Hid (w.heap.size<=b2):=aA (by omega);rw[hb2] at B2;rw[hb2];clear h1 h2 ho1 hb2;have k1:=aC B1.out 1;have k2:=aC B1.out 2;have l1:=aF B1.out;have k3:=aC B2.out 0;have k4:=aC B2.out 1;have l3:=aF B2.out;have z3:=aM B2.out 0;have z4:=aM B2.out 1;go_wp2;have HD:=aH (o:=1) (.int .i64 (of+di)) (aH (o:=0) (.int .i64 (of-di)) B2.out);have e0:=aC HD 0;have e1:=aC HD 1;have le:=aF HD;refine bodyPost_ret (v:=.agg #[.int .i64 (of-di),.int .i64 (of+di)]) (by simp[results,Tryz.results251,go_sem,e0,e1]) rfl ⟨rfl,?_⟩;exact (O1.out.setCell (.inr HN.out) _).setCell (.inr HN.out) _
theorem pInside {w:World} {b:Nat} {h:Iv} (hb:w.heap[b]? = some (.cells #[.int .i64 h.lo,.int .i64 h.hi] 39 (0,0))) (c:Cd) :
  Calls Tryz.prog 253 #[yJ c,.pointer (some ⟨b,0,none⟩)] w fun e w'=>e=.returned (.bool (NU h c))/\Oy [] w w':=by
 obtain⟨lo,hi⟩:=h;obtain⟨id,of,di,ji,st⟩:=c;have BB:=aA hb;have HR:Hid (NU ⟨lo,hi⟩ ⟨id,of,di,ji,st⟩=(decide (lo<=of) && decide (of<=hi))):=aA rfl;generalize NU ⟨lo,hi⟩ ⟨id,of,di,ji,st⟩=r at HR |-;unfold yJ;dsimp only at BB |-;clear hb;by_cases h1:lo<=of
 focus
  have a1:decide (lo<=of)=true:=eY h1;obtain⟨r2,hr2⟩:∃ r2,decide (of<=hi)=r2:=⟨_,rfl⟩;obtain rfl:r=r2:=by rw[HR.out,a1,hr2];rfl
 rotate_left
 focus
  have a1:decide (lo<=of)=false:=dL h1;obtain rfl:r=false:=by rw[HR.out,a1];rfl
 rotate_left
 all_goals
  clear HR;go_enter Tryz.func253,Tryz.ntmps253
  go_upto_region 1 with (fail)
  refine aG (G:=fun w0=>Code.wp _ _ _ _ w0) ?_;intro w1 hb1 ho1 hs1;have B1:=aA hb1;have O1:=aA ho1;have C1:=aA (ho1.got BB.out (by simp));clear hb1 ho1 hs1;have k1:=aC B1.out 1;have lk:=aF B1.out;have m0:=aC C1.out 0;have m1:=aC C1.out 1;have lm:=aF C1.out;go_wp2;go_ret
  exact⟨rfl,O1.out⟩
def PkI (w:World) (fit:Cd->Bool) (l:List Cd) (vo vi:Value) (wr:World):Prop:=
 ∃ k:Nat,k<=l.length/\vi=.int .i64 k/\Own fC 3 1 w.heap.size wr vo (uX fit (l.take k) 0)/\Oy [] w wr
theorem pPick {w:World} {p:Option Addr} {n cap b:Nat} {l:List Cd} {fit:Cd->Bool} (hv:aU iZ 5 w p n cap l) (hn:l.length<=1000)
  (hpk:∀ c w',Oy [] w w'->Calls Tryz.prog 253 #[yJ c,.pointer (some ⟨b,0,none⟩)] w' fun e w''=>e=.returned (.bool (fit c))/\Oy [] w' w'') :
  Calls Tryz.prog 252 #[.slice p n cap,.func (.func 253) #[] #[.pointer (some ⟨b,0,none⟩)]] w fun e w'=>PeR w (uX fit l 0) e w'/\Oy [] w w':=by
 have hl:=hv.len;subst hl;have HV:=aA hv;have HPK:=aA hpk;clear hv hpk;go_enter Tryz.func252,Tryz.ntmps252
 go_wp2;go_loopw [5,10] (fun vo vi wr=>PkI w fit l vo vi wr) (fun _ vi _=>l.length-(intOf vi).toNat)
 case atStart=>exact⟨0,Nat.zero_le _,rfl,bR _ _,aR _ _⟩
 case round =>
  obtain⟨k,hk,rfl,hown,ho⟩:=hrel;have OW:=aA hown;have OO:=aA ho;clear hown ho;by_cases hlt:k<l.length
  ·obtain⟨bk,off,hp,hb,c0,c1,c2,c3,c4⟩:=HV.out.cd OO.out hlt
   subst hp;have hle:=OO.out.size;have hb':bk<wr.heap.size:=by omega
   have HSN:Hid (uX fit (l.take (k+1)) 0=uX fit (l.take k) 0 ++ (if fit l[k]=true then [(k:Int)] else [])):=aA (by
    rw[List.take_succ_eq_append_getElem hlt,J8];have:0+(l.take k).length=k:=by rw[length_take];omega
    rw[this])
   have hfl2:(uX fit (l.take k) 0).length<=k:=Nat.le_trans (zN _ _ _) (by rw[length_take];omega);generalize uX fit (l.take k) 0=acc at OW HSN hfl2;generalize l[k]=x at c0 c1 c2 c3 c4 HSN;have HH:=aA (HPK.out x);generalize fit x=hx at HSN HH;obtain⟨id,of,di,ji,st⟩:=x;unfold yJ at HH;dsimp only at c0 c1 c2 c3 c4 HH HSN;go_wp2_with fail
   refine aG (G:=fun w0=>Calls _ _ _ w0 _) ?_;intro w2 hb1 ho1 hs1;refine (HH.out w2 (OO.out.aB ho1)).mono ?_;rintro r w4 ⟨rfl,ho2⟩;have hoo:=(aR [] wr).aB ho1 |>.aB ho2
   have O4:=aA (OO.out.aB hoo);have W4:=aA (OW.out.kept hoo);clear hb1 ho1 hs1 ho2 hoo c0 c1 c2 c3 c4 OO OW HH
   cases hx with
   | false =>
    have HC:Hid (uX fit (l.take (k+1)) 0=acc):=aA (by rw[HSN.out];simp);go_wp2;go_roundw
    case rel=>exact⟨k+1,by omega,by go_num,by rw[HC.out];exact W4.out,O4.out⟩
    case measure=>first|(simp[intOf];done)|(simp[intOf];omega)
   | true =>
    have HC:Hid (uX fit (l.take (k+1)) 0=acc ++ [(k:Int)]):=aA (by rw[HSN.out];simp);obtain⟨pp,cap',rfl,_⟩:=Own.dI (enc:=fC) (s:=1) dM W4.out;go_wp2_with (at_builtin;refine aW ?_)
    refine aG (G:=fun w0=>Stop (wpList _ _ _ _ _ w0)) ?_;intro w5 hb5 ho5 hs5;have B5:=aA hb5;have O5:=aA (O4.out.aB ho5);have R5:=aA (W4.out.kept ho5);clear hb5 ho5 hs5;refine bH ?_;refine bK (w0:=w) rfl _ _ 52 rfl 3 (.int .i64 0) 1 8 Tryz.underlying52 (by kernel_rfl) rfl (by decide) fC dM nT acc _ rfl R5.out w4.heap.size (k:Int) rfl (fun j u hj=>?_) (by simp[maxLen];omega) (by omega) O5.out ?_
    ·rw[aC B5.out,<-hj];simp[fC]
    intro v6 w6 hown6 ho6 _;have W6:=aA hown6;have O6:=aA ho6;clear hown6 ho6;go_wp2;go_roundw
    case rel=>exact⟨k+1,by omega,by go_num,by rw[HC.out];exact W6.out,O6.out⟩
    case measure=>first|(simp[intOf];done)|(simp[intOf];omega)
  ·have HC:Hid (uX fit (l.take k) 0=uX fit l 0):=aA (by rw[take_of_length_le (by omega)])
   rw[HC.out] at OW;go_wp2;go_ret
   exact⟨⟨_,rfl,OW.out⟩,OO.out⟩
end
section
open Go.RowKit
def EP (l:List Cd) (a:Nat):Option (List Int × Iv):=match rF (l.map pV) ((l.length:Int)-a) with
 | none=>none
 | some h=>if (l.length:Int)-((uX (NU h) l 0).length:Int)<=a then some (uX (NU h) l 0,h) else none
def BH (l:List Cd):Nat->Nat->Option (List Int × Iv)
 | 0,_=>none
 | f+1,a=>if 2*a<l.length then (match EP l a with
  | some x=>some x
  | none=>BH l f (a+1)) else none
def sel (l:List Cd):Option (List Int × Iv):=BH l (l.length+1) 0
def SpI (w:World) (l:List Cd) (vo vi:Value) (wr:World):Prop:=
 ∃ k:Nat,k<=l.length/\vi=.int .i64 k/\Own rD 39 2 w.heap.size wr vo ((l.take k).map pV)/\Oy [] w wr
def SeI (w:World) (l:List Cd) (va:Value) (wr:World):Prop:=
 ∃ (a f:Nat),va=.int .i64 a/\a<=l.length/\f+a=l.length+1/\sel l=BH l f a/\Oy [] w wr
end
end Go.Proofs.YtppjhbjmfkiejaaGreat
