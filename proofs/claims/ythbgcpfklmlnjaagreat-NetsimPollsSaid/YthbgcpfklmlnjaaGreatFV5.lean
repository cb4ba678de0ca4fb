/- Texts of one chain: Mg, Mh, Mi, Mj, Mk. Conditions: those named in each theorem. -/
import Derived.Test.YthbgcpfklmlnjaaGreatFV4
import Derived.Test.YthbgcpfklmlnjaaGreatFV1
namespace Go.Proofs.YthbgcpfklmlnjaaGreat
open List (getElem?_eq_getElem length_filter_le length_map length_take map_cons map_nil mem_cons not_mem_nil take_of_length_le)
open Go.Lib (hid)
set_option maxRecDepth 100000
set_option maxHeartbeats 4000000
section
open Go.RowKit
structure Iv where
 lo:Int
 hi:Int
deriving DecidableEq,Inhabited
def qN (x:Iv):List Value:=[.int .i64 x.lo,.int .i64 x.hi]
def dS (x:Iv):Value:=.agg #[.int .i64 x.lo,.int .i64 x.hi]
theorem iF (x:Iv):(qN x).length=2:=rfl
theorem zH (x:Iv):∀ u∈qN x,u.oneCell'=true:=by
 intro u hu;simp only[qN,mem_cons,not_mem_nil,or_false] at hu;rcases hu with rfl|rfl<;>rfl
def bW (x:Iv):Bool:=decide (x.lo<=x.hi/\ -8000000000000000000<=x.lo/\x.hi<=8000000000000000000)
def GN (x:Iv) (t:Int):Bool:=bW x && (decide (x.lo<=t) && decide (t<=x.hi))
def rU (l:List Iv) (t:Int):Nat:=(l.filter fun x=>GN x t).length
theorem dH (x:Iv) (w:World) :
  Calls Tryz.prog 165 #[dS x] w fun e w'=>e=.returned (.int .i64 (if bW x then 0 else 3))/\Only [] w w':=by
 obtain⟨lo,hi⟩:=x;unfold bW dS;dsimp only;by_cases h1:lo<=hi
 focus
  have a1:decide (hi<lo)=false:=by simp;omega
  by_cases h2: -8000000000000000000<=lo
  focus
   have a2:decide (lo < -8000000000000000000)=false:=by simp;omega
   by_cases h3:hi<=8000000000000000000
   focus
    have a3:decide (8000000000000000000<hi)=false:=by simp;omega
    rw[show (if decide (lo<=hi/\ -8000000000000000000<=lo/\hi<=8000000000000000000)=true then (0:Int) else 3)=0 from if_pos (decide_eq_true ⟨h1,h2,h3⟩)]
   rotate_left
   focus
    have a3:decide (8000000000000000000<hi)=true:=by simp;omega
    rw[show (if decide (lo<=hi/\ -8000000000000000000<=lo/\hi<=8000000000000000000)=true then (0:Int) else 3)=3 from if_neg (by simp;omega)]
   rotate_left
  rotate_left 2
  focus
   have a2:decide (lo < -8000000000000000000)=true:=by simp;omega
   rw[show (if decide (lo<=hi/\ -8000000000000000000<=lo/\hi<=8000000000000000000)=true then (0:Int) else 3)=3 from if_neg (by simp;omega)]
  rotate_left
 rotate_left 3
 focus
  have a1:decide (hi<lo)=true:=by simp;omega
  rw[show (if decide (lo<=hi/\ -8000000000000000000<=lo/\hi<=8000000000000000000)=true then (0:Int) else 3)=3 from if_neg (by simp;omega)]
 rotate_left
 all_goals
  go_enter Tryz.func165,Tryz.ntmps165
  go_upto_region 1 with (fail)
  refine aF (G:=fun w0=>Code.wp _ _ _ _ w0) ?_;intro w1 hb1 ho1 hs1;have B1:=hid hb1;have O1:=hid ho1;clear hb1 ho1 hs1;have k0:=aA B1.out 0;have k1:=aA B1.out 1;have lk:=aD B1.out;go_wp2;go_ret
  exact⟨rfl,O1.out⟩
theorem pHas (x:Iv) (t:Int) (w:World) :
  Calls Tryz.prog 193 #[dS x,.int .i64 t] w fun e w'=>e=.returned (.bool (GN x t))/\Only [] w w':=by
 have HC:=hid (fun w'=>dH x w');have HR:Hid (GN x t=(bW x && (decide (x.lo<=t) && decide (t<=x.hi)))):=hid rfl;generalize bW x=ok at HC HR;generalize GN x t=r at HR |-;obtain⟨lo,hi⟩:=x;unfold dS at HC |-;dsimp only at HC HR |-
 cases ok
 focus
  obtain rfl:r=false:=by rw[HR.out];rfl
  clear HR
 rotate_left
 focus
  have HR2:Hid (r=(decide (lo<=t) && decide (t<=hi))):=hid (by rw[HR.out];rfl);clear HR;by_cases h1:lo<=t
  focus
   have a1:decide (lo<=t)=true:=dF h1;obtain⟨r2,hr2⟩:∃ r2,decide (t<=hi)=r2:=⟨_,rfl⟩;obtain rfl:r=r2:=by rw[HR2.out,a1,hr2];rfl
  rotate_left
  focus
   have a1:decide (lo<=t)=false:=bR h1;obtain rfl:r=false:=by rw[HR2.out,a1];rfl
  rotate_left
  all_goals clear HR2
 rotate_left 2
 all_goals
  go_enter Tryz.func193,Tryz.ntmps193
  go_upto_region 1 with (fail)
  refine aF (G:=fun w0=>Code.wp _ _ _ _ w0) ?_;intro w1 hb1 ho1 hs1;have B1:=hid hb1;have O1:=hid ho1;clear hb1 ho1 hs1;have k0:=aA B1.out 0;have k1:=aA B1.out 1;have lk:=aD B1.out;go_wp2_with fail
  refine (HC.out w1).mono ?_;rintro e w2 ⟨rfl,ho2⟩;have O2:=hid (O1.out.aB ho2);have B2:=hid (ho2.got B1.out (by simp));clear ho2 O1 B1 k0 k1 lk;have k0:=aA B2.out 0;have k1:=aA B2.out 1;have lk:=aD B2.out;go_wp2;go_ret
  exact⟨rfl,O2.out⟩
theorem aS.iv {w w':World} {p:Option Addr} {n cap:Nat} {l:List Iv} (hv:aS qN 2 w p n cap l) (ho:Only [] w w') {k:Nat} (hlt:k<l.length):∃ b off,p=some ⟨b,off,none⟩/\b<w.heap.size /\
  w'.cell? ⟨b,off+k*2,none⟩=some (.int .i64 l[k].lo)/\w'.cell? ⟨b,off+k*2+1,none⟩=some (.int .i64 l[k].hi):=by
 obtain⟨b,off,hp,hb,hc⟩:=hv.cell k l[k] (getElem?_eq_getElem hlt);refine⟨b,off,hp,hb,?_,?_⟩
 ·rw[ho.cell hb (by simp)];exact hc 0 _ rfl
 ·rw[ho.cell hb (by simp)];exact hc 1 _ rfl
def AgI (w:World) (l:List Iv) (t:Int) (vo vi:Value) (wr:World):Prop:=
 ∃ (k:Nat) (ns:List Int),k<=l.length/\vi=.int .i64 k/\ns.length=rU (l.take k) t/\ns.length<=k/\Own fB 3 1 w.heap.size wr vo ns/\Only [] w wr
def AgR (w0:World) (c:Nat) (e:Ending) (w:World):Prop:=∃ (v:Value) (ns:List Int),e=.returned v/\Own fB 3 1 w0.heap.size w v ns/\ns.length=c
theorem ZJ (l:List Iv) (t:Int) {k:Nat} (hk:k<l.length):rU (l.take (k+1)) t=rU (l.take k) t+(if GN l[k] t=true then 1 else 0):=by
 unfold rU;rw[List.take_succ_eq_append_getElem hk,List.filter_append,List.length_append];by_cases h:GN l[k] t=true<;>simp[h]
theorem pAgree {w:World} {p:Option Addr} {n cap:Nat} {l:List Iv} (hv:aS qN 2 w p n cap l) (hn:l.length<=48) (t:Int) :
  Calls Tryz.prog 191 #[.slice p n cap,.int .i64 t] w fun e w'=>AgR w (rU l t) e w'/\Only [] w w':=by
 have hl:=hv.len;subst hl;have HV:=hid hv;clear hv;have d1:decide (48<(l.length:Int))=false:=by simp;omega
 have d2:decide (48<l.length)=false:=by simp;omega
 go_enter Tryz.func191,Tryz.ntmps191
 go_wp2;go_loopw [5,13] (fun vo vi wr=>AgI w l t vo vi wr) (fun _ vi _=>l.length-(intOf vi).toNat)
 case atStart=>exact⟨0,[],Nat.zero_le _,rfl,rfl,by simp,dZ _ _,Only.refl _ _⟩
 case round =>
  obtain⟨k,ns,hk,rfl,hns,hnk,hown,ho⟩:=hrel;have HNS:=hid hns;have OW:=hid hown;have OO:=hid ho;clear hns hown ho;by_cases hlt:k<l.length
  ·obtain⟨bk,off,hp,hb,c0,c1⟩:=HV.out.iv OO.out hlt
   subst hp;have hle:=OO.out.size;have hb':bk<wr.heap.size:=by omega
   have HSN:=hid (ZJ l t hlt);generalize l[k]=x at c0 c1 HSN;have HH:=hid (fun w'=>pHas x t w');generalize GN x t=hx at HSN HH;obtain⟨lo,hi⟩:=x;unfold dS at HH;dsimp only at c0 c1 HH;go_wp2_with fail
   refine aF (G:=fun w0=>Calls _ _ _ w0 _) ?_;intro w1 hb1 ho1 hs1;refine (HH.out w1).mono ?_;rintro r w2 ⟨rfl,ho2⟩;have hoo:=(Only.refl [] wr).aB ho1 |>.aB ho2
   have O2:=hid (OO.out.aB hoo);have W2:=hid (OW.out.kept hoo);clear hb1 ho1 hs1 ho2 hoo c0 c1 OO OW HH
   cases hx with
   | false =>
    have HC:Hid (ns.length=rU (l.take (k+1)) t):=hid (by rw[HSN.out,HNS.out];simp);go_wp2;go_roundw
    case rel=>exact⟨k+1,ns,by omega,by go_num,HC.out,by omega,W2.out,O2.out⟩
    case measure=>first|(simp[intOf];done)|(simp[intOf];omega)
   | true =>
    have HC:Hid ((ns ++ [(k:Int)]).length=rU (l.take (k+1)) t):=hid (by rw[HSN.out,List.length_append,HNS.out];simp);obtain⟨pp,cap',rfl,_⟩:=Own.eH (enc:=fB) (s:=1) dI W2.out;go_wp2_with (at_builtin;refine bD ?_)
    refine aF (G:=fun w0=>Stop (wpList _ _ _ _ _ w0)) ?_;intro w5 hb5 ho5 hs5;have B5:=hid hb5;have O5:=hid (O2.out.aB ho5);have R5:=hid (W2.out.kept ho5);clear hb5 ho5 hs5;refine cK ?_;refine bK (w0:=w) rfl _ _ 42 rfl 3 (.int .i64 0) 1 8 Tryz.underlying42 (by kernel_rfl) rfl (by decide) fB dI nO ns _ rfl R5.out w2.heap.size (k:Int) rfl (fun j u hj=>?_) (by simp[maxLen];omega) (by omega) O5.out ?_
    ·rw[aA B5.out,<-hj];simp[fB]
    intro v6 w6 hown6 ho6 _;have W6:=hid hown6;have O6:=hid ho6;clear hown6 ho6;go_wp2;go_roundw
    case rel=>exact⟨k+1,ns ++ [(k:Int)],by omega,by go_num,HC.out,by simp;omega,W6.out,O6.out⟩
    case measure=>first|(simp[intOf];done)|(simp[intOf];omega)
  ·have HC:Hid (ns.length=rU l t):=hid (by have:=HNS.out;rwa [take_of_length_le (by omega)] at this)
   go_wp2;go_ret
   exact⟨⟨_,ns,rfl,OW.out,HC.out⟩,OO.out⟩
theorem pCount {w:World} {p:Option Addr} {n cap:Nat} {l:List Iv} (hv:aS qN 2 w p n cap l) (hn:l.length<=48) (t:Int) :
  Calls Tryz.prog 186 #[.slice p n cap,.int .i64 t] w fun e w'=>e=.returned (.int .i64 (rU l t))/\Only [] w w':=by
 have HA:=hid (pAgree hv hn t);clear hv hn;go_enter Tryz.func186,Tryz.ntmps186
 go_wp2_with fail
 refine HA.out.mono ?_;rintro e w1 ⟨⟨v,ns,rfl,hown,hc⟩,ho⟩;have HC:=hid hc;have O1:=hid ho;obtain⟨pp,cap',rfl,_⟩:=Own.eH (enc:=fB) (s:=1) dI hown;clear hc ho hown;go_wp2;go_ret
 exact⟨by rw[HC.out];rfl,O1.out⟩
def VaI (w:World) (l:List Iv) (vo vi:Value) (wr:World):Prop:=
 ∃ k:Nat,k<=l.length/\vi=.int .i64 k/\Own qN 33 2 w.heap.size wr vo ((l.take k).filter bW)/\Only [] w wr
def VaR (w0:World) (l:List Iv) (e:Ending) (w:World):Prop:=∃ v:Value,e=.returned v/\Own qN 33 2 w0.heap.size w v l
theorem A9 {w:World} {p:Option Addr} {n cap:Nat} {l:List Iv} (hv:aS qN 2 w p n cap l) (hn:l.length<=48) :
  Calls Tryz.prog 181 #[.slice p n cap] w fun e w'=>VaR w (l.filter bW) e w'/\Only [] w w':=by
 have hl:=hv.len;subst hl;have HV:=hid hv;clear hv;have d1:decide (48<(l.length:Int))=false:=by simp;omega
 have d2:decide (48<l.length)=false:=by simp;omega
 go_enter Tryz.func181,Tryz.ntmps181
 go_wp2;go_loopw [3,11] (fun vo vi wr=>VaI w l vo vi wr) (fun _ vi _=>l.length-(intOf vi).toNat)
 case atStart=>exact⟨0,Nat.zero_le _,rfl,dZ _ _,Only.refl _ _⟩
 case round =>
  obtain⟨k,hk,rfl,hown,ho⟩:=hrel;have OW:=hid hown;have OO:=hid ho;clear hown ho;by_cases hlt:k<l.length
  ·obtain⟨bk,off,hp,hb,c0,c1⟩:=HV.out.iv OO.out hlt
   subst hp;have hle:=OO.out.size;have hb':bk<wr.heap.size:=by omega
   have HSN:Hid ((l.take (k+1)).filter bW=(l.take k).filter bW ++ (if bW l[k]=true then [l[k]] else [])):=hid (by
    rw[List.take_succ_eq_append_getElem hlt,List.filter_append];by_cases h:bW l[k]=true<;>simp[h])
   have hfl:((l.take k).filter bW).length<=k:=Nat.le_trans (length_filter_le _ _) (by rw[length_take];omega);generalize (l.take k).filter bW=acc at OW HSN hfl;generalize l[k]=x at c0 c1 HSN;have HH:=hid (fun w'=>dH x w');generalize bW x=hx at HSN HH;obtain⟨lo,hi⟩:=x;unfold dS at HH;dsimp only at c0 c1 HH;go_wp2_with fail
   refine aF (G:=fun w0=>Calls _ _ _ w0 _) ?_;intro w1 hb1 ho1 hs1;refine (HH.out w1).mono ?_;rintro r w2 ⟨rfl,ho2⟩;have hoo:=(Only.refl [] wr).aB ho1 |>.aB ho2
   have O2:=hid (OO.out.aB hoo);have W2:=hid (OW.out.kept hoo);have B2:=hid (ho2.got hb1 (by simp));clear hb1 ho1 hs1 ho2 hoo c0 c1 OO OW HH
   cases hx with
   | false =>
    have HC:Hid ((l.take (k+1)).filter bW=acc):=hid (by rw[HSN.out];simp);go_wp2;go_roundw
    case rel=>exact⟨k+1,by omega,by go_num,by rw[HC.out];exact W2.out,O2.out⟩
    case measure=>first|(simp[intOf];done)|(simp[intOf];omega)
   | true =>
    have HC:Hid ((l.take (k+1)).filter bW=acc ++ [⟨lo,hi⟩]):=hid (by rw[HSN.out];simp);obtain⟨pp,cap',rfl,_⟩:=Own.eH (enc:=qN) (s:=2) iF W2.out;have k0:=aA B2.out 0;have k1:=aA B2.out 1;have lk:=aD B2.out;go_wp2_with (at_builtin;refine bD ?_)
    refine aF (G:=fun w0=>Stop (wpList _ _ _ _ _ w0)) ?_;intro w5 hb5 ho5 hs5;have B5:=hid hb5;have O5:=hid (O2.out.aB ho5);have R5:=hid (W2.out.kept ho5);clear hb5 ho5 hs5 k0 k1 lk;refine cK ?_;refine bK (w0:=w) rfl _ _ 281 rfl 33 (.agg #[.int .i64 0,.int .i64 0]) 2 16 Tryz.underlying281 (by kernel_rfl) rfl (by decide) qN iF zH acc _ rfl R5.out w2.heap.size ⟨lo,hi⟩ rfl (fun j u hj=>?_) (by simp[maxLen];omega) (by omega) O5.out ?_
    ·rw[aA B5.out,<-hj];simp[qN]
    intro v6 w6 hown6 ho6 _;have W6:=hid hown6;have O6:=hid ho6;clear hown6 ho6;go_wp2;go_roundw
    case rel=>exact⟨k+1,by omega,by go_num,by rw[HC.out];exact W6.out,O6.out⟩
    case measure=>first|(simp[intOf];done)|(simp[intOf];omega)
  ·have HC:Hid ((l.take k).filter bW=l.filter bW):=hid (by rw[take_of_length_le (by omega)])
   rw[HC.out] at OW;go_wp2;go_ret
   exact⟨⟨_,rfl,OW.out⟩,OO.out⟩
end
section
open Go.RowKit
theorem bM {P:Program} {f:FuncId} {args:Array Value} {w:World} {v:Value} (h:∀ w',Only [] w w'->Calls P f args w' fun e w''=>e=.returned v/\Only [] w' w'') :
  ∀ w',(∃ x,w'=plus w x)->Calls P f args w' fun e w''=>e=.returned v/\∃ x,w''=plus w x:=
 gG fun w' hw'=>(h w' (aI hw')).mono fun _ _ ⟨he,ho⟩=>⟨he,ho.wF⟩
theorem aX {P:Program} {ops:Array Oper} {C:World->Prop} {Q:Act->Prop} {a:Act} {o:Oper} {rest:List Oper} (hg:Region.wanted o (yielded ops a.tmps)=true) (f:FuncId) (args:Array Value)
  (hrun:∀ w,(execOp a.eval o).run P w=.ok (.enter f args) w) (v:Value) (hcall:∀ w',C w'->Calls P f args w' fun e w''=>e=.returned v/\C w'')
  (h:wpQuiet P ops C Q rest (a.put o.dst v)):wpQuiet P ops C Q (o::rest) a:=by
 refine wpQuiet_step fun K hK=>?_;rw[hg];simp only[if_true];refine⟨v,fun w' hw'=>?_,hK _ h⟩;unfold Oper.quietAt;rw[hrun w'];exact⟨rfl,hcall w' hw'⟩
theorem Own.vP {α:Type} {enc:α->List Value} {e:TypeId} {s B:Nat} {w:World} {v:Value} {l:List α} (h:Own enc e s B w v l):∀ x∈v.ownBlock.toList,B<=x:=by
 intro x hx;rcases h with ⟨rfl,_⟩|⟨g,cc,rfl,hB,_⟩
 ·simp[Value.ownBlock] at hx
 ·simp[Value.ownBlock] at hx;omega
theorem Own.base {α:Type} {enc:α->List Value} {e:TypeId} {s B B':Nat} {w:World} {v:Value} {l:List α} (h:Own enc e s B w v l) (hB:B'<=B):Own enc e s B' w v l:=by
 rcases h with h|⟨g,cc,h1,h2,h3⟩
 ·exact .inl h
 ·exact .inr ⟨g,cc,h1,by omega,h3⟩
def nR (f:Iv->Int) (pk:Int->Bool) (l:List Iv):List Int:=((l.filter bW).map f).filter pk
def uI (l:List Int):List Int:=l.mergeSort fun x y=>decide (x<=y)
def UC (l:List Iv) (need:Int) (t:Int):Bool:=decide (need<=(rU l t:Int))
theorem PS {w:World} {p:Option Addr} {n cap b1 b2:Nat} {l:List Iv} {need:Int} (hv:aS qN 2 w p n cap l) (hn:l.length<=48) (h1:w.heap[b1]? = some (.cells #[.slice p n cap] 281 (0,0))) (h2:w.heap[b2]? = some (.cells #[.int .i64 need] 3 (0,0))) (t:Int) :
  Calls Tryz.prog 185 #[.int .i64 t,.pointer (some ⟨b1,0,none⟩),.pointer (some ⟨b2,0,none⟩)] w fun e w'=>e=.returned (.bool (UC l need t))/\Only [] w w':=by
 have HC:=hid (fun w' (ho:Only [] w w')=>pCount (hv.kept ho) hn t);have B1:=hid h1;have B2:=hid h2;have HP:Hid (UC l need t=decide (need<=(rU l t:Int))):=hid rfl;generalize UC l need t=r at HP |-;generalize rU l t=c at HC HP;have k1:=aA h1 0;have k2:=aA h2 0;have l1:=aD h1;have l2:=aD h2;clear hv h1 h2;obtain⟨rb,hrb⟩:∃ rb,decide (need<=(c:Int))=rb:=⟨_,rfl⟩;obtain rfl:r=rb:=by rw[HP.out,hrb]
 clear HP;go_enter Tryz.func185,Tryz.ntmps185
 go_wp2_with fail
 refine aL [0,1,2,3,4] [5] (by kernel_rfl) (by kernel_rfl) ?_;simp only[pick,map_cons,map_nil,List.getD_cons_succ,List.getD_cons_zero];iterate 2 (refine wpQuiet_step (fun K hK=>?_);go_simp;refine hK _ ?_;clear hK K)
 refine aX (by kernel_rfl) 186 #[.slice p n cap,.int .i64 t] (fun _=>by kernel_rfl) (.int .i64 c) (bM fun w' ho'=>HC.out w' ho') ?_;iterate 2 (refine wpQuiet_step (fun K hK=>?_);go_simp;refine hK _ ?_;clear hK K)
 refine wpQuiet_nil ?_;intro w1 hw1;have O1:=hid (aI hw1);clear hw1;go_wp2;go_ret
 exact⟨rfl,O1.out⟩
theorem p_lower (x:Iv) (w:World):Calls Tryz.prog 188 #[dS x] w fun e w'=>e=.returned (.int .i64 x.lo)/\Only [] w w':=by
 obtain⟨lo,hi⟩:=x;unfold dS;dsimp only;go_enter Tryz.func188,Tryz.ntmps188
 go_upto_region 1 with (fail)
 refine aF (G:=fun w0=>Code.wp _ _ _ _ w0) ?_;intro w1 hb1 ho1 hs1;have B1:=hid hb1;have O1:=hid ho1;clear hb1 ho1 hs1;have k0:=aA B1.out 0;have k1:=aA B1.out 1;have lk:=aD B1.out;go_wp2;go_ret
 exact⟨rfl,O1.out⟩
theorem p_upper (x:Iv) (w:World):Calls Tryz.prog 189 #[dS x] w fun e w'=>e=.returned (.int .i64 x.hi)/\Only [] w w':=by
 obtain⟨lo,hi⟩:=x;unfold dS;dsimp only;go_enter Tryz.func189,Tryz.ntmps189
 go_upto_region 1 with (fail)
 refine aF (G:=fun w0=>Code.wp _ _ _ _ w0) ?_;intro w1 hb1 ho1 hs1;have B1:=hid hb1;have O1:=hid ho1;clear hb1 ho1 hs1;have k0:=aA B1.out 0;have k1:=aA B1.out 1;have lk:=aD B1.out;go_wp2;go_ret
 exact⟨rfl,O1.out⟩
def PeI (w:World) (f:Iv->Int) (pk:Int->Bool) (l:List Iv) (vo vi:Value) (wr:World):Prop:=
 ∃ k:Nat,k<=l.length/\vi=.int .i64 k/\Own fB 3 1 w.heap.size wr vo (((l.take k).map f).filter pk)/\Only [] w wr
def PeR (w0:World) (l:List Int) (e:Ending) (w:World):Prop:=∃ v:Value,e=.returned v/\Own fB 3 1 w0.heap.size w v l
theorem JL {w:World} {p:Option Addr} {n cap b1 b2:Nat} {l:List Iv} {pk:Int->Bool} (hv:aS qN 2 w p n cap l) (hn:l.length<=48)
  (hpk:∀ t w',Only [] w w'->Calls Tryz.prog 185 #[.int .i64 t,.pointer (some ⟨b1,0,none⟩),.pointer (some ⟨b2,0,none⟩)] w' fun e w''=>e=.returned (.bool (pk t))/\Only [] w' w'') :
  Calls Tryz.prog 187 #[.slice p n cap,.func (.func 188) #[] #[],.func (.func 185) #[] #[.pointer (some ⟨b1,0,none⟩),.pointer (some ⟨b2,0,none⟩)]] w fun e w'=>PeR w (uI (nR Iv.lo pk l)) e w'/\Only [] w w':=by
 have HA:=hid (A9 hv hn);have HPK:=hid hpk;have hfl:(l.filter bW).length<=48:=Nat.le_trans (length_filter_le _ _) hn;have HE:Hid (nR Iv.lo pk l=((l.filter bW).map Iv.lo).filter pk):=hid rfl;generalize nR Iv.lo pk l=es at HE |-;generalize l.filter bW=vs at HA HE hfl;clear hv hn hpk;go_enter Tryz.func187,Tryz.ntmps187
 go_wp2_with fail
 refine HA.out.mono ?_;rintro e w1 ⟨⟨v,rfl,hown⟩,ho⟩;obtain⟨pv,cv,rfl,hvr⟩:=Own.eH (enc:=qN) (s:=2) iF hown;have HV:=hid hvr;have O1:=hid ho;clear ho hown hvr HA;go_wp2_with fail
 go_loopw [7,14] (fun vo vi wr=>PeI w1 Iv.lo pk vs vo vi wr) (fun _ vi _=>vs.length-(intOf vi).toNat)
 case atStart=>exact⟨0,Nat.zero_le _,rfl,dZ _ _,Only.refl _ _⟩
 case round =>
  obtain⟨k,hk,rfl,hown,ho⟩:=hrel;have OW:=hid hown;have OO:=hid ho;have OA:=hid (O1.out.aB ho);clear hown ho;by_cases hlt:k<vs.length
  ·obtain⟨bk,off,hp,hb,c0,c1⟩:=HV.out.iv OO.out hlt
   subst hp;have hle:=OO.out.size;have hb':bk<wr.heap.size:=by omega
   have HSN:Hid (((vs.take (k+1)).map Iv.lo).filter pk=((vs.take k).map Iv.lo).filter pk ++ (if pk vs[k].lo=true then [vs[k].lo] else [])):=hid (by
    rw[List.take_succ_eq_append_getElem hlt,List.map_append,List.filter_append];by_cases h:pk vs[k].lo=true<;>simp[h])
   have hfl2:(((vs.take k).map Iv.lo).filter pk).length<=k:=Nat.le_trans (length_filter_le _ _) (by rw[length_map,length_take];omega);generalize ((vs.take k).map Iv.lo).filter pk=acc at OW HSN hfl2;generalize vs[k]=x at c0 c1 HSN;have HH:=hid (fun w'=>p_lower x w');obtain⟨lo,hi⟩:=x;unfold dS at HH;dsimp only at c0 c1 HH HSN;have HPT:=hid (HPK.out lo);generalize pk lo=hx at HSN HPT;go_wp2_with fail
   refine aF (G:=fun w0=>Calls _ _ _ w0 _) ?_;intro w2 hb1 ho1 hs1;refine (HH.out w2).mono ?_;rintro r w3 ⟨rfl,ho2⟩;have hoo:=(Only.refl [] wr).aB ho1 |>.aB ho2
   have O3:=hid (OO.out.aB hoo);have A3:=hid (OA.out.aB hoo);have W3:=hid (OW.out.kept hoo);clear hb1 ho1 hs1 ho2 hoo c0 c1 OO OW HH OA;go_wp2_with fail
   refine (HPT.out w3 A3.out).mono ?_;rintro r w4 ⟨rfl,ho2⟩;have O4:=hid (O3.out.aB ho2);have W4:=hid (W3.out.kept ho2);clear ho2 O3 A3 W3 HPT
   cases hx with
   | false =>
    have HC:Hid (((vs.take (k+1)).map Iv.lo).filter pk=acc):=hid (by rw[HSN.out];simp);go_wp2;go_roundw
    case rel=>exact⟨k+1,by omega,by go_num,by rw[HC.out];exact W4.out,O4.out⟩
    case measure=>first|(simp[intOf];done)|(simp[intOf];omega)
   | true =>
    have HC:Hid (((vs.take (k+1)).map Iv.lo).filter pk=acc ++ [lo]):=hid (by rw[HSN.out];simp);obtain⟨pp,cap',rfl,_⟩:=Own.eH (enc:=fB) (s:=1) dI W4.out;go_wp2_with (at_builtin;refine bD ?_)
    refine aF (G:=fun w0=>Stop (wpList _ _ _ _ _ w0)) ?_;intro w5 hb5 ho5 hs5;have B5:=hid hb5;have O5:=hid (O4.out.aB ho5);have R5:=hid (W4.out.kept ho5);clear hb5 ho5 hs5;refine cK ?_;refine bK (w0:=w1) rfl _ _ 42 rfl 3 (.int .i64 0) 1 8 Tryz.underlying42 (by kernel_rfl) rfl (by decide) fB dI nO acc _ rfl R5.out w4.heap.size lo rfl (fun j u hj=>?_) (by simp[maxLen];omega) (by omega) O5.out ?_
    ·rw[aA B5.out,<-hj];simp[fB]
    intro v6 w6 hown6 ho6 _;have W6:=hid hown6;have O6:=hid ho6;clear hown6 ho6;go_wp2;go_roundw
    case rel=>exact⟨k+1,by omega,by go_num,by rw[HC.out];exact W6.out,O6.out⟩
    case measure=>first|(simp[intOf];done)|(simp[intOf];omega)
  ·have HC:Hid (((vs.take k).map Iv.lo).filter pk=es):=hid (by rw[HE.out,take_of_length_le (by omega)])
   have hel:es.length<=48:=by rw[HE.out];exact Nat.le_trans (length_filter_le _ _) (by rw[length_map];exact hfl)
   rw[HC.out] at OW;have HS:=hid (I5 OW.out (by omega));go_wp2_with fail
   refine HS.out.mono ?_;rintro e w2 ⟨rfl,hown2,ho2⟩;have hob:=OW.out.vP;have O2:=hid (OA.out.trans ho2 (fun x hx=>.inr (Nat.le_trans O1.out.size (hob x hx))));have W2:=hid (hown2.base O1.out.size);clear hown2 ho2 hob HS OW OO OA;go_wp2;go_ret
   exact⟨⟨_,rfl,W2.out⟩,O2.out⟩
theorem JK {w:World} {p:Option Addr} {n cap b1 b2:Nat} {l:List Iv} {pk:Int->Bool} (hv:aS qN 2 w p n cap l) (hn:l.length<=48)
  (hpk:∀ t w',Only [] w w'->Calls Tryz.prog 185 #[.int .i64 t,.pointer (some ⟨b1,0,none⟩),.pointer (some ⟨b2,0,none⟩)] w' fun e w''=>e=.returned (.bool (pk t))/\Only [] w' w'') :
  Calls Tryz.prog 187 #[.slice p n cap,.func (.func 189) #[] #[],.func (.func 185) #[] #[.pointer (some ⟨b1,0,none⟩),.pointer (some ⟨b2,0,none⟩)]] w fun e w'=>PeR w (uI (nR Iv.hi pk l)) e w'/\Only [] w w':=by
 have HA:=hid (A9 hv hn);have HPK:=hid hpk;have hfl:(l.filter bW).length<=48:=Nat.le_trans (length_filter_le _ _) hn;have HE:Hid (nR Iv.hi pk l=((l.filter bW).map Iv.hi).filter pk):=hid rfl;generalize nR Iv.hi pk l=es at HE |-;generalize l.filter bW=vs at HA HE hfl;clear hv hn hpk;go_enter Tryz.func187,Tryz.ntmps187
 go_wp2_with fail
 refine HA.out.mono ?_;rintro e w1 ⟨⟨v,rfl,hown⟩,ho⟩;obtain⟨pv,cv,rfl,hvr⟩:=Own.eH (enc:=qN) (s:=2) iF hown;have HV:=hid hvr;have O1:=hid ho;clear ho hown hvr HA;go_wp2_with fail
 go_loopw [7,14] (fun vo vi wr=>PeI w1 Iv.hi pk vs vo vi wr) (fun _ vi _=>vs.length-(intOf vi).toNat)
 case atStart=>exact⟨0,Nat.zero_le _,rfl,dZ _ _,Only.refl _ _⟩
 case round =>
  obtain⟨k,hk,rfl,hown,ho⟩:=hrel;have OW:=hid hown;have OO:=hid ho;have OA:=hid (O1.out.aB ho);clear hown ho;by_cases hlt:k<vs.length
  ·obtain⟨bk,off,hp,hb,c0,c1⟩:=HV.out.iv OO.out hlt
   subst hp;have hle:=OO.out.size;have hb':bk<wr.heap.size:=by omega
   have HSN:Hid (((vs.take (k+1)).map Iv.hi).filter pk=((vs.take k).map Iv.hi).filter pk ++ (if pk vs[k].hi=true then [vs[k].hi] else [])):=hid (by
    rw[List.take_succ_eq_append_getElem hlt,List.map_append,List.filter_append];by_cases h:pk vs[k].hi=true<;>simp[h])
   have hfl2:(((vs.take k).map Iv.hi).filter pk).length<=k:=Nat.le_trans (length_filter_le _ _) (by rw[length_map,length_take];omega);generalize ((vs.take k).map Iv.hi).filter pk=acc at OW HSN hfl2;generalize vs[k]=x at c0 c1 HSN;have HH:=hid (fun w'=>p_upper x w');obtain⟨lo,hi⟩:=x;unfold dS at HH;dsimp only at c0 c1 HH HSN;have HPT:=hid (HPK.out hi);generalize pk hi=hx at HSN HPT;go_wp2_with fail
   refine aF (G:=fun w0=>Calls _ _ _ w0 _) ?_;intro w2 hb1 ho1 hs1;refine (HH.out w2).mono ?_;rintro r w3 ⟨rfl,ho2⟩;have hoo:=(Only.refl [] wr).aB ho1 |>.aB ho2
   have O3:=hid (OO.out.aB hoo);have A3:=hid (OA.out.aB hoo);have W3:=hid (OW.out.kept hoo);clear hb1 ho1 hs1 ho2 hoo c0 c1 OO OW HH OA;go_wp2_with fail
   refine (HPT.out w3 A3.out).mono ?_;rintro r w4 ⟨rfl,ho2⟩;have O4:=hid (O3.out.aB ho2);have W4:=hid (W3.out.kept ho2);clear ho2 O3 A3 W3 HPT
   cases hx with
   | false =>
    have HC:Hid (((vs.take (k+1)).map Iv.hi).filter pk=acc):=hid (by rw[HSN.out];simp);go_wp2;go_roundw
    case rel=>exact⟨k+1,by omega,by go_num,by rw[HC.out];exact W4.out,O4.out⟩
    case measure=>first|(simp[intOf];done)|(simp[intOf];omega)
   | true =>
    have HC:Hid (((vs.take (k+1)).map Iv.hi).filter pk=acc ++ [hi]):=hid (by rw[HSN.out];simp);obtain⟨pp,cap',rfl,_⟩:=Own.eH (enc:=fB) (s:=1) dI W4.out;go_wp2_with (at_builtin;refine bD ?_)
    refine aF (G:=fun w0=>Stop (wpList _ _ _ _ _ w0)) ?_;intro w5 hb5 ho5 hs5;have B5:=hid hb5;have O5:=hid (O4.out.aB ho5);have R5:=hid (W4.out.kept ho5);clear hb5 ho5 hs5;refine cK ?_;refine bK (w0:=w1) rfl _ _ 42 rfl 3 (.int .i64 0) 1 8 Tryz.underlying42 (by kernel_rfl) rfl (by decide) fB dI nO acc _ rfl R5.out w4.heap.size hi rfl (fun j u hj=>?_) (by simp[maxLen];omega) (by omega) O5.out ?_
    ·rw[aA B5.out,<-hj];simp[fB]
    intro v6 w6 hown6 ho6 _;have W6:=hid hown6;have O6:=hid ho6;clear hown6 ho6;go_wp2;go_roundw
    case rel=>exact⟨k+1,by omega,by go_num,by rw[HC.out];exact W6.out,O6.out⟩
    case measure=>first|(simp[intOf];done)|(simp[intOf];omega)
  ·have HC:Hid (((vs.take k).map Iv.hi).filter pk=es):=hid (by rw[HE.out,take_of_length_le (by omega)])
   have hel:es.length<=48:=by rw[HE.out];exact Nat.le_trans (length_filter_le _ _) (by rw[length_map];exact hfl)
   rw[HC.out] at OW;have HS:=hid (I5 OW.out (by omega));go_wp2_with fail
   refine HS.out.mono ?_;rintro e w2 ⟨rfl,hown2,ho2⟩;have hob:=OW.out.vP;have O2:=hid (OA.out.trans ho2 (fun x hx=>.inr (Nat.le_trans O1.out.size (hob x hx))));have W2:=hid (hown2.base O1.out.size);clear hown2 ho2 hob HS OW OO OA;go_wp2;go_ret
   exact⟨⟨_,rfl,W2.out⟩,O2.out⟩
end
section
open Go.RowKit
def qO (l:List Iv) (need:Int):Option Iv:=if need<1 then none else
 match (uI (nR Iv.lo (UC l need) l)).head?,(uI (nR Iv.hi (UC l need) l)).getLast? with
 | some a,some b=>some ⟨a,b⟩
 | _,_=>none
def kC:Option Iv->Value
 | some x=>.tuple #[dS x,.bool true]
 | none=>.tuple #[dS ⟨0,0⟩,.bool false]
theorem pHull {w:World} {p:Option Addr} {n cap:Nat} {l:List Iv} (hv:aS qN 2 w p n cap l) (hn:l.length<=48) (need:Int) :
  Calls Tryz.prog 182 #[.slice p n cap,.int .i64 need] w fun e w'=>e=.returned (kC (qO l need))/\Only [] w w':=by
 have HV:=hid hv;clear hv;obtain⟨res,hres⟩:∃ res,res=qO l need:=⟨_,rfl⟩;rw[<-hres];have HR:=hid hres;clear hres;go_enter Tryz.func182,Tryz.ntmps182
 go_upto_region 1 with (fail)
 refine kP (G:=fun w0=>Code.wp _ _ _ _ w0) (R:=fun w1=>w1.heap[w.heap.size]? = some (.cells #[.slice p n cap] 281 (0,0))/\w1.heap[w.heap.size+1]? = some (.cells #[.int .i64 need] 3 (0,0))/\w1.heap[w.heap.size+2]? = some (.cells #[.int .i64 0,.int .i64 0] 33 (0,0))/\Only [] w w1) ?_ ?_
 ·have k0:=bA w (.cells #[.slice p n cap] 281)
  have k1:=bA (w.alloc (.cells #[.slice p n cap] 281)) (.cells #[.int .i64 need] 3);have k2:=bA ((w.alloc (.cells #[.slice p n cap] 281)).alloc (.cells #[.int .i64 need] 3)) (.cells #[.int .i64 0,.int .i64 0] 33);simp only[World.size_alloc] at k0 k1 k2;exact⟨alloc_old (alloc_old k0),alloc_old k1,k2,(((Only.refl [] w).alloc _).alloc _).alloc _⟩
 rintro w1 ⟨h1,h2,h3,ho1⟩;have B1:=hid h1;have B2:=hid h2;have B3:=hid h3;have O1:=hid ho1;have HS:=hid ho1.size;obtain⟨b1,hb1⟩:∃ b,w.heap.size=b:=⟨_,rfl⟩;obtain⟨b2,hb2⟩:∃ b,w.heap.size+1=b:=⟨_,rfl⟩;obtain⟨b3,hb3⟩:∃ b,w.heap.size+2=b:=⟨_,rfl⟩;have HN3:Hid (w.heap.size<=b3/\b1≠b3/\b2≠b3):=hid (by omega);rw[hb1] at B1;rw[hb2] at B2;rw[hb3] at B3;rw[show w.heap.size+1+1=b3 from hb3,hb2,hb1];clear h1 h2 h3 ho1 hb1 hb2 hb3;have k1:=aA B1.out 0;have k2:=aA B2.out 0;have l1:=aD B1.out;have l2:=aD B2.out;have k3:=aA B3.out 0;have k4:=aA B3.out 1;have l3:=aD B3.out;have z3:=aM B3.out 0;have z4:=aM B3.out 1;by_cases hneed:need<1
 ·obtain rfl:res=none:=by rw[HR.out];unfold qO;rw[if_pos hneed]
  have a1:decide (need<1)=true:=dF hneed;clear HR;go_wp2;have HD:=aG (o:=1) (.int .i64 0) (aG (o:=0) (.int .i64 0) B3.out);have e0:=aA HD 0;have e1:=aA HD 1;have le:=aD HD;refine bodyPost_ret (v:=kC none) (by simp[results,Tryz.results182,go_sem,e0,e1,kC,dS]) rfl ⟨rfl,?_⟩;exact (O1.out.setCell (.inr HN3.out.1) _).setCell (.inr HN3.out.1) _
 have a1:decide (need<1)=false:=bR hneed
 have HR2:Hid (res=match (uI (nR Iv.lo (UC l need) l)).head?,(uI (nR Iv.hi (UC l need) l)).getLast? with
  | some a,some b=>some ⟨a,b⟩
  | _,_=>none):=hid (by rw[HR.out];unfold qO;rw[if_neg hneed])
 have HL:=hid (fun w' (ho:Only [] w1 w')=>JL (pk:=UC l need) ((HV.out.kept O1.out).kept ho) hn (fun t w'' ho'=>PS (((HV.out.kept O1.out).kept ho).kept ho') hn (ho'.got (ho.got B1.out (by simp)) (by simp)) (ho'.got (ho.got B2.out (by simp)) (by simp)) t));have HU:=hid (fun w' (ho:Only [] w1 w')=>JK (pk:=UC l need) ((HV.out.kept O1.out).kept ho) hn (fun t w'' ho'=>PS (((HV.out.kept O1.out).kept ho).kept ho') hn (ho'.got (ho.got B1.out (by simp)) (by simp)) (ho'.got (ho.got B2.out (by simp)) (by simp)) t));generalize uI (nR Iv.lo (UC l need) l)=S1 at HR2 HL;generalize uI (nR Iv.hi (UC l need) l)=S2 at HR2 HU;clear HR;go_wp2_with fail
 refine dA [0,1,3,4] [] (OnlyC ([]:List Nat) w1) (by kernel_rfl) (by kernel_rfl) ?_;simp only[pick,map_cons,map_nil,List.getD_cons_succ,List.getD_cons_zero];iterate 4 (refine aJ (fun K hK=>?_);go_simp;refine hK _ ?_;clear hK K)
 refine aN ?_;refine Rest.by (X:=Value × Value) (fun y a=>(((a.put (some 15) y.1).put (some 18) y.2).put (some 7) y.1).put (some 8) y.2) (fun y w'=>Own fB 3 1 w1.heap.size w' y.1 S1/\Own fB 3 1 w1.heap.size w' y.2 S2/\Only [] w1 w') ?_ ?_
 ·rintro⟨y1,y2⟩ w3 ⟨hR1,hR2,ho3⟩
  simp only[Act.put,List.setIfInBounds_toArray,List.set_cons_succ,List.set_cons_zero];obtain⟨q1,c1,rfl,hv1⟩:=Own.eH (enc:=fB) (s:=1) dI hR1;obtain⟨q2,c2,rfl,hv2⟩:=Own.eH (enc:=fB) (s:=1) dI hR2;have V1:=hid hv1;have V2:=hid hv2;have O3:=hid ho3;have OW:=hid (O1.out.aB ho3);have D3:=hid (ho3.got B3.out (by simp));clear hR1 hR2 ho3 hv1 hv2 k1 k2 k3 k4 l1 l2 l3 z3 z4 HL HU;have k3:=aA D3.out 0;have k4:=aA D3.out 1;have l3:=aD D3.out;have z3:=aM D3.out 0;have z4:=aM D3.out 1;by_cases h1:S1=[]
  ·obtain rfl:res=none:=by rw[HR2.out,h1];rfl
   subst h1;clear HR2;go_wp2;have HD:=aG (o:=1) (.int .i64 0) (aG (o:=0) (.int .i64 0) D3.out);have e0:=aA HD 0;have e1:=aA HD 1;have le:=aD HD;refine bodyPost_ret (v:=kC none) (by simp[results,Tryz.results182,go_sem,e0,e1,kC,dS]) rfl ⟨rfl,?_⟩;exact (OW.out.setCell (.inr HN3.out.1) _).setCell (.inr HN3.out.1) _
  ·have n1:0<S1.length:=List.length_pos_iff.2 h1
   by_cases h2:S2=[]
   ·obtain rfl:res=none:=by rw[HR2.out,h2];cases S1<;>rfl
    have n1':((S1.length:Int) == 0)=false:=by rw[beq_eq_false_iff_ne];omega
    subst h2;clear HR2;go_wp2;have HD:=aG (o:=1) (.int .i64 0) (aG (o:=0) (.int .i64 0) D3.out);have e0:=aA HD 0;have e1:=aA HD 1;have le:=aD HD;refine bodyPost_ret (v:=kC none) (by simp[results,Tryz.results182,go_sem,e0,e1,kC,dS]) rfl ⟨rfl,?_⟩;exact (OW.out.setCell (.inr HN3.out.1) _).setCell (.inr HN3.out.1) _
   ·have n2:0<S2.length:=List.length_pos_iff.2 h2
    have n1':((S1.length:Int) == 0)=false:=by rw[beq_eq_false_iff_ne];omega
    have n2':((S2.length:Int) == 0)=false:=by rw[beq_eq_false_iff_ne];omega
    obtain⟨x,hx⟩:∃ x,S1[0]=x:=⟨_,rfl⟩;obtain⟨j,hj⟩:∃ j,S2.length-1=j:=⟨_,rfl⟩;have hjl:j<S2.length:=by omega
    have hj2:(S2.length:Int)-1=(j:Int):=by omega
    obtain⟨y,hy⟩:∃ y,S2[j]=y:=⟨_,rfl⟩
    obtain rfl:res=some ⟨x,y⟩:=by
     rw[HR2.out,List.head?_eq_getElem?,getElem?_eq_getElem n1,hx,List.getLast?_eq_getElem?,hj,getElem?_eq_getElem hjl,hy]
    obtain⟨g1,o1,hp1,hg1,hc1⟩:=V1.out.cell 0 x (by rw[getElem?_eq_getElem n1,hx]);obtain⟨g2,o2,hp2,hg2,hc2⟩:=V2.out.cell j y (by rw[getElem?_eq_getElem hjl,hy]);subst hp1 hp2;have m1:=hc1 0 _ rfl;have m2:=hc2 0 _ rfl;simp only[Nat.add_zero,Nat.mul_one] at m1 m2
    have hjb:(j:Int)<=9223372036854775807:=by
     have h5:=V2.out.le;have h6:=V2.out.cm;simp only[maxLen] at h6;omega
    have hjw:IntKind.i64.wrap (j:Int)=(j:Int):=by rw[IntKind.wrap_i64];omega
    clear HR2 hc1 hc2 h1 h2 hx hy hj;go_wp2_with fail
    refine aL [0,1,2,3,4,5,6,7,8,9] [10,11] (by kernel_rfl) (by kernel_rfl) ?_;simp only[pick,map_cons,map_nil,List.getD_cons_succ,List.getD_cons_zero];iterate 10 (refine wpQuiet_step (fun K hK=>?_);go_simp;refine hK _ ?_;clear hK K)
    refine wpQuiet_nil ?_;intro w4 hw4;have O4:=hid (aI hw4);have E4:=hid (O4.out.got D3.out (by simp));have P4:=hid (OW.out.aB O4.out);clear hw4 k3 k4 l3 z3 z4 m1 m2;have k3:=aA E4.out 0;have k4:=aA E4.out 1;have l3:=aD E4.out;have z3:=aM E4.out 0;have z4:=aM E4.out 1;go_wp2;have HD:=aG (o:=1) (.int .i64 y) (aG (o:=0) (.int .i64 x) E4.out);have e0:=aA HD 0;have e1:=aA HD 1;have le:=aD HD;refine bodyPost_ret (v:=kC (some ⟨x,y⟩)) (by simp[results,Tryz.results182,go_sem,e0,e1,kC,dS]) rfl ⟨rfl,?_⟩;exact (P4.out.setCell (.inr HN3.out.1) _).setCell (.inr HN3.out.1) _
 ·refine aK [2] (by kernel_rfl) (by simp) (.inr (aZ (Only.refl [] w1).drew)) ?_
  simp only[mem_cons,not_mem_nil,or_false,forall_eq];refine aC rfl ?_;go_wp2_with fail
  refine (HL.out _ (Only.refl [] w1).drew).mono ?_;rintro e w2 ⟨⟨v2,rfl,hown2⟩,ho2⟩;have O2:=hid ((Only.refl [] w1).drew.aB ho2);have W2:=hid (hown2.base (Only.refl [] w1).drew.size);clear hown2 ho2;go_wp2;simp only[bG];refine aK [5] (by kernel_rfl) (by simp) (.inr (aZ O2.out)) ?_;simp only[mem_cons,not_mem_nil,or_false,forall_eq];refine aC rfl ?_;go_wp2_with fail
  refine (HU.out _ O2.out).mono ?_;rintro e w3 ⟨⟨v3,rfl,hown3⟩,ho3⟩;have O3:=hid (O2.out.aB ho3);have W3:=hid (hown3.base O2.out.size);have V3:=hid (W2.out.kept ho3);clear hown3 ho3;go_wp2;simp only[bG];refine aK [6] (by kernel_rfl) (by simp) (.inr (aZ O3.out)) ?_;simp only[mem_cons,not_mem_nil,or_false,forall_eq];refine aC rfl ?_;go_wp2;simp only[bG];refine aK [7] (by kernel_rfl) (by simp) (.inr (aZ O3.out)) ?_;simp only[mem_cons,not_mem_nil,or_false,forall_eq];refine aC rfl ?_;go_wp2;simp only[bG];refine dV (by kernel_rfl) (.inr (aZ O3.out)) ⟨(v2,v3),?_,V3.out,W3.out,O3.out⟩;simp[Act.put]
end
section
open Go.RowKit
def pE (c:Cd):Iv:=⟨c.off-c.dist,c.off+c.dist⟩
def tX (fit:Cd->Bool):List Cd->Nat->List Int
 | [],_=>[]
 | c::r,i=>if fit c=true then (i:Int)::tX fit r (i+1) else tX fit r (i+1)
theorem JG (fit:Cd->Bool) (c:Cd):∀ (l:List Cd) (i:Nat),tX fit (l ++ [c]) i=tX fit l i ++ (if fit c=true then [((i+l.length:Nat):Int)] else [])
 | [],i=>by
  by_cases h:fit c=true<;>simp[tX,h]
 | x::r,i=>by
  rw[List.cons_append];unfold tX;rw[JG fit c r (i+1),show i+1+r.length=i+(x::r).length by simp;omega];by_cases h:fit x=true
  ·rw[if_pos h,if_pos h];rfl
  ·rw[if_neg h,if_neg h]
theorem yZ (fit:Cd->Bool):∀ (l:List Cd) (i:Nat),(tX fit l i).length<=l.length
 | [],i=>Nat.le_refl _
 | x::r,i=>by
  unfold tX;have:=yZ fit r (i+1);by_cases h:fit x=true
  ·rw[if_pos h];simpa using this
  ·rw[if_neg h];simp;omega
def MP (h:Iv) (c:Cd):Bool:=decide (h.lo<=c.off) && decide (c.off<=h.hi)
theorem pSpan (c:Cd) (hc:BI c=true) (w:World):Calls Tryz.prog 236 #[xL c] w fun e w'=>e=.returned (dS (pE c))/\Only [] w w':=by
 have hbd:=iG hc;obtain⟨id,of,di,ji,st⟩:=c;unfold xL pE dS;dsimp only at hbd |-;obtain⟨_,_,b1,b2,b3,b4,_⟩:=hbd;clear hc;go_enter Tryz.func236,Tryz.ntmps236
 go_upto_region 1 with (fail)
 refine kP (G:=fun w0=>Code.wp _ _ _ _ w0) (R:=fun w1=>w1.heap[w.heap.size]? = some (.cells #[.int .i64 id,.int .i64 of,.int .i64 di,.int .i64 ji,.int .i64 st] 338 (0,0))/\w1.heap[w.heap.size+1]? = some (.cells #[.int .i64 0,.int .i64 0] 33 (0,0))/\Only [] w w1) ?_ ?_
 ·have k0:=bA w (.cells #[.int .i64 id,.int .i64 of,.int .i64 di,.int .i64 ji,.int .i64 st] 338)
  have k1:=bA (w.alloc (.cells #[.int .i64 id,.int .i64 of,.int .i64 di,.int .i64 ji,.int .i64 st] 338)) (.cells #[.int .i64 0,.int .i64 0] 33);simp only[World.size_alloc] at k1;exact⟨alloc_old k0,k1,((Only.refl [] w).alloc _).alloc _⟩
 rintro w1 ⟨h1,h2,ho1⟩;have B1:=hid h1;have B2:=hid h2;have O1:=hid ho1;obtain⟨b2,hb2⟩:∃ b,w.heap.size+1=b:=⟨_,rfl⟩;have HN:Hid (w.heap.size<=b2):=hid (by omega);rw[hb2] at B2;rw[hb2];clear h1 h2 ho1 hb2;have k1:=aA B1.out 1;have k2:=aA B1.out 2;have l1:=aD B1.out;have k3:=aA B2.out 0;have k4:=aA B2.out 1;have l3:=aD B2.out;have z3:=aM B2.out 0;have z4:=aM B2.out 1;go_wp2;have HD:=aG (o:=1) (.int .i64 (of+di)) (aG (o:=0) (.int .i64 (of-di)) B2.out);have e0:=aA HD 0;have e1:=aA HD 1;have le:=aD HD;refine bodyPost_ret (v:=.agg #[.int .i64 (of-di),.int .i64 (of+di)]) (by simp[results,Tryz.results236,go_sem,e0,e1]) rfl ⟨rfl,?_⟩;exact (O1.out.setCell (.inr HN.out) _).setCell (.inr HN.out) _
theorem pInside {w:World} {b:Nat} {h:Iv} (hb:w.heap[b]? = some (.cells #[.int .i64 h.lo,.int .i64 h.hi] 33 (0,0))) (c:Cd) :
  Calls Tryz.prog 238 #[xL c,.pointer (some ⟨b,0,none⟩)] w fun e w'=>e=.returned (.bool (MP h c))/\Only [] w w':=by
 obtain⟨lo,hi⟩:=h;obtain⟨id,of,di,ji,st⟩:=c;have BB:=hid hb;have HR:Hid (MP ⟨lo,hi⟩ ⟨id,of,di,ji,st⟩=(decide (lo<=of) && decide (of<=hi))):=hid rfl;generalize MP ⟨lo,hi⟩ ⟨id,of,di,ji,st⟩=r at HR |-;unfold xL;dsimp only at BB |-;clear hb;by_cases h1:lo<=of
 focus
  have a1:decide (lo<=of)=true:=dF h1;obtain⟨r2,hr2⟩:∃ r2,decide (of<=hi)=r2:=⟨_,rfl⟩;obtain rfl:r=r2:=by rw[HR.out,a1,hr2];rfl
 rotate_left
 focus
  have a1:decide (lo<=of)=false:=bR h1;obtain rfl:r=false:=by rw[HR.out,a1];rfl
 rotate_left
 all_goals
  clear HR;go_enter Tryz.func238,Tryz.ntmps238
  go_upto_region 1 with (fail)
  refine aF (G:=fun w0=>Code.wp _ _ _ _ w0) ?_;intro w1 hb1 ho1 hs1;have B1:=hid hb1;have O1:=hid ho1;have C1:=hid (ho1.got BB.out (by simp));clear hb1 ho1 hs1;have k1:=aA B1.out 1;have lk:=aD B1.out;have m0:=aA C1.out 0;have m1:=aA C1.out 1;have lm:=aD C1.out;go_wp2;go_ret
  exact⟨rfl,O1.out⟩
def PkI (w:World) (fit:Cd->Bool) (l:List Cd) (vo vi:Value) (wr:World):Prop:=
 ∃ k:Nat,k<=l.length/\vi=.int .i64 k/\Own fB 3 1 w.heap.size wr vo (tX fit (l.take k) 0)/\Only [] w wr
theorem pPick {w:World} {p:Option Addr} {n cap b:Nat} {l:List Cd} {fit:Cd->Bool} (hv:aS iU 5 w p n cap l) (hn:l.length<=1000)
  (hpk:∀ c w',Only [] w w'->Calls Tryz.prog 238 #[xL c,.pointer (some ⟨b,0,none⟩)] w' fun e w''=>e=.returned (.bool (fit c))/\Only [] w' w'') :
  Calls Tryz.prog 237 #[.slice p n cap,.func (.func 238) #[] #[.pointer (some ⟨b,0,none⟩)]] w fun e w'=>PeR w (tX fit l 0) e w'/\Only [] w w':=by
 have hl:=hv.len;subst hl;have HV:=hid hv;have HPK:=hid hpk;clear hv hpk;go_enter Tryz.func237,Tryz.ntmps237
 go_wp2;go_loopw [5,10] (fun vo vi wr=>PkI w fit l vo vi wr) (fun _ vi _=>l.length-(intOf vi).toNat)
 case atStart=>exact⟨0,Nat.zero_le _,rfl,dZ _ _,Only.refl _ _⟩
 case round =>
  obtain⟨k,hk,rfl,hown,ho⟩:=hrel;have OW:=hid hown;have OO:=hid ho;clear hown ho;by_cases hlt:k<l.length
  ·obtain⟨bk,off,hp,hb,c0,c1,c2,c3,c4⟩:=HV.out.cd OO.out hlt
   subst hp;have hle:=OO.out.size;have hb':bk<wr.heap.size:=by omega
   have HSN:Hid (tX fit (l.take (k+1)) 0=tX fit (l.take k) 0 ++ (if fit l[k]=true then [(k:Int)] else [])):=hid (by
    rw[List.take_succ_eq_append_getElem hlt,JG];have:0+(l.take k).length=k:=by rw[length_take];omega
    rw[this])
   have hfl2:(tX fit (l.take k) 0).length<=k:=Nat.le_trans (yZ _ _ _) (by rw[length_take];omega);generalize tX fit (l.take k) 0=acc at OW HSN hfl2;generalize l[k]=x at c0 c1 c2 c3 c4 HSN;have HH:=hid (HPK.out x);generalize fit x=hx at HSN HH;obtain⟨id,of,di,ji,st⟩:=x;unfold xL at HH;dsimp only at c0 c1 c2 c3 c4 HH HSN;go_wp2_with fail
   refine aF (G:=fun w0=>Calls _ _ _ w0 _) ?_;intro w2 hb1 ho1 hs1;refine (HH.out w2 (OO.out.aB ho1)).mono ?_;rintro r w4 ⟨rfl,ho2⟩;have hoo:=(Only.refl [] wr).aB ho1 |>.aB ho2
   have O4:=hid (OO.out.aB hoo);have W4:=hid (OW.out.kept hoo);clear hb1 ho1 hs1 ho2 hoo c0 c1 c2 c3 c4 OO OW HH
   cases hx with
   | false =>
    have HC:Hid (tX fit (l.take (k+1)) 0=acc):=hid (by rw[HSN.out];simp);go_wp2;go_roundw
    case rel=>exact⟨k+1,by omega,by go_num,by rw[HC.out];exact W4.out,O4.out⟩
    case measure=>first|(simp[intOf];done)|(simp[intOf];omega)
   | true =>
    have HC:Hid (tX fit (l.take (k+1)) 0=acc ++ [(k:Int)]):=hid (by rw[HSN.out];simp);obtain⟨pp,cap',rfl,_⟩:=Own.eH (enc:=fB) (s:=1) dI W4.out;go_wp2_with (at_builtin;refine bD ?_)
    refine aF (G:=fun w0=>Stop (wpList _ _ _ _ _ w0)) ?_;intro w5 hb5 ho5 hs5;have B5:=hid hb5;have O5:=hid (O4.out.aB ho5);have R5:=hid (W4.out.kept ho5);clear hb5 ho5 hs5;refine cK ?_;refine bK (w0:=w) rfl _ _ 42 rfl 3 (.int .i64 0) 1 8 Tryz.underlying42 (by kernel_rfl) rfl (by decide) fB dI nO acc _ rfl R5.out w4.heap.size (k:Int) rfl (fun j u hj=>?_) (by simp[maxLen];omega) (by omega) O5.out ?_
    ·rw[aA B5.out,<-hj];simp[fB]
    intro v6 w6 hown6 ho6 _;have W6:=hid hown6;have O6:=hid ho6;clear hown6 ho6;go_wp2;go_roundw
    case rel=>exact⟨k+1,by omega,by go_num,by rw[HC.out];exact W6.out,O6.out⟩
    case measure=>first|(simp[intOf];done)|(simp[intOf];omega)
  ·have HC:Hid (tX fit (l.take k) 0=tX fit l 0):=hid (by rw[take_of_length_le (by omega)])
   rw[HC.out] at OW;go_wp2;go_ret
   exact⟨⟨_,rfl,OW.out⟩,OO.out⟩
end
section
open Go.RowKit
def D5 (l:List Cd) (a:Nat):Option (List Int × Iv):=match qO (l.map pE) ((l.length:Int)-a) with
 | none=>none
 | some h=>if (l.length:Int)-((tX (MP h) l 0).length:Int)<=a then some (tX (MP h) l 0,h) else none
def AJ (l:List Cd):Nat->Nat->Option (List Int × Iv)
 | 0,_=>none
 | f+1,a=>if 2*a<l.length then (match D5 l a with
  | some x=>some x
  | none=>AJ l f (a+1)) else none
def sel (l:List Cd):Option (List Int × Iv):=AJ l (l.length+1) 0
def SpI (w:World) (l:List Cd) (vo vi:Value) (wr:World):Prop:=
 ∃ k:Nat,k<=l.length/\vi=.int .i64 k/\Own qN 33 2 w.heap.size wr vo ((l.take k).map pE)/\Only [] w wr
def SeI (w:World) (l:List Cd) (va:Value) (wr:World):Prop:=
 ∃ (a f:Nat),va=.int .i64 a/\a<=l.length/\f+a=l.length+1/\sel l=AJ l f a/\Only [] w wr
end
end Go.Proofs.YthbgcpfklmlnjaaGreat
