/- Id Ie If Ig Ih Ii Ij Ik Im In0 -/
import Derived.Test.YtppjhbjmfkiejaaGreatFOm
import Derived.Test.YtppjhbjmfkiejaaGreatShelf
namespace Go.Proofs.YtppjhbjmfkiejaaGreat
set_option linter.all false
open IntKind (wrap_i64)
set_option maxRecDepth 100000
set_option maxHeartbeats 8000000
open Go.RowKit Go.Sort
open IntKind (wrap)
structure RecOk (un:Int) (x:iD):Prop where
 a0:0<=x.at_
 a1:x.at_<=un
 c0: -4503599627370496<=x.clk
 c1:x.clk<=4503599627370496
 iv:bU ⟨x.lo,x.hi⟩=true
def alC (H L la hi lo:Int) (rs:Bool) (sn nt r1 r2 r3:Int):List Value:=[.int .i64 H,.int .i64 L,.int .i64 1,.int .i64 1,.int .i64 0,.int .i64 la,.int .i64 hi,.int .i64 lo,.bool rs,.int .i64 sn,.int .i64 nt,.int .i64 r1,.int .i64 r2,.int .i64 r3]
theorem QU (n:Int) (b:Bool) (w:World) :
  Calls Tryz.prog 57 #[.int .i64 n,.bool b] w fun e w'=>e=.returned (.int .i64 (if b=true then wrap .i64 (n+1) else 0))/\Oy [] w w':=by
 obtain⟨q,hq⟩:∃ q,wrap .i64 (n+1)=q:=⟨_,rfl⟩;rw[hq]
 cases b
 all_goals
  simp only[Bool.false_eq_true,if_true,if_false];have m:=bJ w [];have k:=m.zK;go_enter Tryz.func57,Tryz.ntmps57
  go_wp2_with (first|((with_reducible refine wU ?_);clear k m;intro w m k)|((with_reducible refine lE (fun w o g k K hK=>⟨rfl,?_⟩));simp[results,Tryz.results57,go_sem];refine hK _ ?_;exact⟨rfl,o⟩))
theorem vP {w:World} {b:Nat} (h:w.heap[b]? = some (.cells #[.bool true] 4 (0,0))) (n lo hi:Int) (h0:lo<=n) (h1:n<=hi) :
  Calls Tryz.prog 56 #[.int .i64 n,.int .i64 lo,.int .i64 hi,.pointer (some ⟨b,0,none⟩)] w fun e w'=>e=.returned (.tuple #[])/\w'.heap[b]? = some (.cells #[.bool true] 4 (0,0))/\Oy [b] w w':=by
 have d0:decide (lo<=n)=true:=eY h0;have d1:decide (n<=hi)=true:=eY h1;have m:=kV h;have k:=m.zK;clear h h0 h1;go_enter Tryz.func56,Tryz.ntmps56
 go_wp2_with (first|((with_reducible first|refine cU ?_|refine wU ?_);clear k m;intro w m k)|((with_reducible refine lN ?_ ?_ (fun w o g=>?_));(. rfl);(. rfl);exact⟨rfl,Has.h w g,o⟩))
theorem KJ (H L:Int) (h0: -8000000000000000000<=H/\H<=8000000000000000000) (h1: -8000000000000000000<=L/\L<=8000000000000000000) (h2:L<=H) (w:World) :
  Calls Tryz.prog 34 #[.agg #[.int .i64 H,.int .i64 L,.int .i64 1,.int .i64 1,.int .i64 0]] w fun e w'=>e=.returned (.int .i64 0)/\Oy [] w w':=by
 have hmf:∀ (fn:Fn) (first cap:Array Value) (w:World),(Instr.makeFunc fn first cap).run Tryz.prog w=.ok (.func fn first cap) w:=fun _ _ _ _=>rfl;have d0:decide (H<L)=false:=dL (by omega);have HB:=aA (And.intro h0 h1);clear h0 h1 h2;have m:=bJ w [];have k:=m.zK;go_enter Tryz.func34,Tryz.ntmps34
 go_wp2_with (first|((with_reducible first|refine cP (vP gB _ _ _ HB.out.1.1 HB.out.1.2) ?_|refine cP (vP gB _ _ _ HB.out.2.1 HB.out.2.2) ?_|refine cP (vP gB 1 1 1000 (by decide) (by decide)) ?_|refine cP (vP gB 0 0 1125899906842624 (by decide) (by decide)) ?_|refine cU ?_|refine wU ?_);clear k m;intro w m k)|((with_reducible refine lE (fun w o g k K hK=>⟨rfl,?_⟩));simp[results,Tryz.results34,go_sem];refine hK _ ?_;exact⟨rfl,o⟩))
theorem pFeedA {w:World} {b:Nat} {H L la hi lo sn nt r1 r2 r3:Int} (h:w.heap[b]? = some (.cells (alC H L la 0 lo false sn nt r1 r2 r3).toArray 151 (0,0))) (at_ v:Int) (a0:0<=at_) (a1:at_<=1125899906842624) (a2:la<=at_) (v0:H<v) (v1:L<=v) :
  Calls Tryz.prog 36 #[.pointer (some ⟨b,0,none⟩),.int .i64 at_,.int .i64 v] w fun e w'=>e=.returned (.tuple #[.int .i64 1,.int .i64 0])/\w'.heap[b]? = some (.cells (alC H L at_ 0 0 true at_ at_ (wrap .i64 (r1+1)) r2 r3).toArray 151 (0,0))/\Oy [b] w w':=by
 unfold alC at *;obtain⟨q1,hq1⟩:∃ q,wrap .i64 (r1+1)=q:=⟨_,rfl⟩;rw[hq1];have d0:decide (at_<0)=false:=dL (by omega);have d1:decide ((1125899906842624:Int)<at_)=false:=dL (by omega);have d2:decide (at_<la)=false:=dL (by omega);have d3:decide (H<v)=true:=decide_eq_true v0;have d4:decide (v<L)=false:=dL (by omega);have e1:wrap .i64 ((0:Int)+1)=1:=by decide
 have HX1:=aA (fun w'=>QU 0 true w');have HX2:=aA (fun w'=>QU lo false w');simp only[Bool.false_eq_true,if_true,if_false] at HX1 HX2;rw[e1] at HX1;have m:=kV h;have k:=m.zK;clear h a0 a1 a2 v0 v1;go_enter Tryz.func36,Tryz.ntmps36
 go_wp2_with (first|((with_reducible refine iY (id:=8) [0,1,2,3,4,5,6,7,8,9,10,11,12,13,14] [15] ?_);simp only[bV];(repeat' (first|go_big_quiet_step (with_reducible first|exact gX (HX1.out _)|exact gX (HX2.out _))|(refine wpQuiet_step (fun K hK=>?_);go_simp;(first|(refine hK _ ?_;clear hK K)|(split<;>(refine hK _ ?_;clear hK K))))));all_goals (refine wpQuiet_nil ?_;clear k m;intro w m k))|((with_reducible refine iY (id:=9) [0,1,2,3,4,5,6,7,8,9,10,11,12,13,14] [15] ?_);simp only[bV];(repeat' (first|go_big_quiet_step (with_reducible first|exact gX (HX1.out _)|exact gX (HX2.out _))|(refine wpQuiet_step (fun K hK=>?_);go_simp;(first|(refine hK _ ?_;clear hK K)|(split<;>(refine hK _ ?_;clear hK K))))));all_goals (refine wpQuiet_nil ?_;clear k m;intro w m k))|((with_reducible refine iY (id:=10) [0,1,2,3,4,5,6,7,8,9,10,11,12,13,14,15,16,17] [] ?_);simp only[bV];(repeat' (first|go_big_quiet_step (with_reducible first|exact gX (HX1.out _)|exact gX (HX2.out _))|(refine wpQuiet_step (fun K hK=>?_);go_simp;(first|(refine hK _ ?_;clear hK K)|(split<;>(refine hK _ ?_;clear hK K))))));all_goals (refine wpQuiet_nil ?_;clear k m;intro w m k))|((with_reducible refine iY (id:=15) [0,1,2,3,4,5,6,7,8,9,10,11,12,13,14,15,16] [] ?_);simp only[bV];(repeat' (first|go_big_quiet_step (with_reducible first|exact gX (HX1.out _)|exact gX (HX2.out _))|(refine wpQuiet_step (fun K hK=>?_);go_simp;(first|(refine hK _ ?_;clear hK K)|(split<;>(refine hK _ ?_;clear hK K))))));all_goals (refine wpQuiet_nil ?_;clear k m;intro w m k))|((with_reducible refine iY (id:=20) [0,1,2,3,4,5,6,7,8,9,10,11,12,13,14,15,16,17,18,19,20,21,22,23,24,25,26,27] [] ?_);simp only[bV];(repeat' (first|go_big_quiet_step (with_reducible first|exact gX (HX1.out _)|exact gX (HX2.out _))|(refine wpQuiet_step (fun K hK=>?_);go_simp;(first|(refine hK _ ?_;clear hK K)|(split<;>(refine hK _ ?_;clear hK K))))));all_goals (refine wpQuiet_nil ?_;clear k m;intro w m k))|((with_reducible first|refine cU ?_|refine wU ?_);clear k m;intro w m k)|((with_reducible refine lE (fun w o g k K hK=>⟨rfl,?_⟩));simp[results,Tryz.results36,go_sem];refine hK _ ?_;exact⟨rfl,Has.h w g,o⟩))
theorem pAlNew (H L:Int) (h0: -8000000000000000000<=H/\H<=8000000000000000000) (h1: -8000000000000000000<=L/\L<=8000000000000000000) (h2:L<=H) (w:World) :
  Calls Tryz.prog 35 #[.agg #[.int .i64 H,.int .i64 L,.int .i64 1,.int .i64 1,.int .i64 0]] w fun e w'=>(∃ b,e=.returned (.pointer (some ⟨b,0,none⟩))/\w.heap.size<=b/\w'.heap[b]? = some (.cells (alC H L 0 0 0 false 0 0 0 0 0).toArray 151 (0,0)))/\Oy [] w w':=by
 have HC:=aA (fun w'=>KJ H L h0 h1 h2 w');clear h0 h1 h2;obtain⟨wo,rfl⟩:∃ wo:World,wo=w:=⟨_,rfl⟩;have m:=bJ wo [];have k:=m.zK;go_enter Tryz.func35,Tryz.ntmps35
 go_wp2_with (first|((with_reducible first|refine cM (HC.out _) ?_|refine wU ?_);clear k m;intro w m k)|((with_reducible refine lE (fun w o g k K hK=>⟨rfl,?_⟩));simp[results,Tryz.results35,go_sem];refine hK _ ?_;exact⟨⟨_,rfl,by omega,Has.h w g⟩,o⟩))
structure Ntc where
 a:Int
 k:Int
 v:Int
def ntC (x:Ntc):List Value:=[.int .i64 x.a,.int .i64 x.k,.int .i64 x.v]
theorem Q0 (x:Ntc):(ntC x).length=3:=rfl
theorem ntC_one (x:Ntc):∀ u∈ntC x,u.oneCell'=true:=by simp[ntC,Value.oneCell']
section
def boC (b:Bool):List Value:=[.bool b]
theorem sM (b:Bool):(boC b).length=1:=rfl
def PE (wr:List Bool) (s:Int):Bool:=if 0<=s/\s<(wr.length:Int) then wr.getD s.toNat true else true
def EJ (wr:List Bool) (l:List Int):Nat:=(l.filter (PE wr)).length
def N9 (l:List Int) (wr:List Bool):Bool:=decide (0<EJ wr l) && decide ((l.length:Int)<=2*(EJ wr l:Int))
theorem TW {w:World} {l:List Int} {p q:Option Addr} {cp cq:Nat} {bs:List Bool} (ha:aU wN 1 w p l.length cp l) (hb:aU boC 1 w q bs.length cq bs) (hl:l.length<=1000000) (hbl:bs.length<=1000000) :
  Calls Tryz.prog 49 #[.slice p l.length cp,.slice q bs.length cq] w fun e w'=>e=.returned (.bool (N9 l bs))/\Oy [] w w':=by
 have HA:=aA ha;have HB:=aA hb;clear ha hb;obtain⟨wo,rfl⟩:∃ wo:World,wo=w:=⟨_,rfl⟩;have m:=bJ wo [];have k:=m.zK;go_enter Tryz.func49,Tryz.ntmps49
 go_wp2_with ((with_reducible first|refine cU ?_|refine wU ?_);clear k m;intro w m k)
 clear k m;go_loopw [5,10] (fun va vi wr=>∃ i:Nat,i<=l.length/\vi=.int .i64 i/\va=.int .i64 (EJ bs (l.take i):Nat)/\Oy [] wo wr) (fun va vi _=>l.length-(intOf vi).toNat)
 case atStart=>exact⟨0,Nat.zero_le _,rfl,rfl,aR _ _⟩
 case round =>
  obtain⟨i,hi,rfl,rfl,ho⟩:=hrel;have OO:=aA ho;clear ho;by_cases hlt:i<l.length
  ·have hlt2:decide ((i:Int)<(l.length:Int))=true:=eY (by omega)
   have hlt3:(i:Int)<(l.length:Int):=by omega
   have ei:wrap .i64 ((i:Int)+1)=((i+1:Nat):Int):=by rw[wrap_i64];omega
   obtain⟨bk,off,rfl,-⟩:=HA.out.it (aR [] wo) hlt;obtain⟨x,hx⟩:∃ x,l.getD i 0=x:=⟨_,rfl⟩;have hlx:l[i]=x:=by rw[<-hx,List.getD_eq_getElem?_getD,List.getElem?_eq_getElem hlt];rfl
   have HX0:=aA (show ∀ w',Oy [] wr w'->bk<w'.heap.size/\w'.cell? ⟨bk,off+i,none⟩=some (.int .i64 x) from fun w' o=>by
    obtain⟨b',o',e,q1,q2⟩:=HA.out.it (OO.out.aB o) hlt
    cases e
    rw[hx] at q1;exact⟨q2,q1⟩)
   have HT:=aA (show EJ bs (l.take (i+1))=EJ bs (l.take i)+(if PE bs x=true then 1 else 0) by
    unfold EJ;rw[eO l hlt,List.filter_append,List.length_append,hlx];congr 1
    cases h:PE bs x<;>simp[h])
   have hcl:EJ bs (l.take i)<=i:=Nat.le_trans (List.length_filter_le ..) (by rw[List.length_take];omega);generalize EJ bs (l.take i)=cn at HT hcl;have ec:wrap .i64 ((cn:Int)+1)=((cn+1:Nat):Int):=by rw[wrap_i64];omega
   clear hx hlx;by_cases h0:0<=x
   focus
    have d0:decide (x<0)=false:=dL (by omega);by_cases h1:x<(bs.length:Int)
    focus
     have d1:decide ((bs.length:Int)<=x)=false:=dL (by omega);obtain⟨j,rfl⟩:=Int.eq_ofNat_of_zero_le h0;have hj:j<bs.length:=by omega
     obtain⟨b2,o2,hq,-,hc2⟩:=HB.out.cell j bs[j] (List.getElem?_eq_getElem hj);subst hq;have hbd:PE bs (j:Int)=bs[j]:=by unfold PE;rw[if_pos ⟨h0,h1⟩,Int.toNat_natCast,List.getD_eq_getElem?_getD,List.getElem?_eq_getElem hj];rfl
     rw[hbd] at HT
     have HX:=aA (show ∀ w',Oy [] wr w'->(bk<w'.heap.size/\w'.cell? ⟨bk,off+i,none⟩=some (.int .i64 (j:Int)))/\b2<w'.heap.size/\w'.cell? ⟨b2,o2+j,none⟩=some (.bool bs[j]) from fun w' o=>by
      refine⟨HX0.out w' o,?_⟩;obtain⟨b3,o3,e3,k3,k4⟩:=(HB.out.kept (OO.out.aB o)).cell j bs[j] (List.getElem?_eq_getElem hj)
      cases e3
      exact⟨k3,by have:=k4 0 _ rfl;rwa [Nat.mul_one,Nat.add_zero] at this⟩)
     clear hbd hc2 HX0
     cases hv:bs[j]
     all_goals
      rw[hv] at HX HT;simp only[Bool.false_eq_true,if_true,if_false,Nat.add_zero] at HT;have m:=bJ wr [];have k:=m.zK;have c:=HX.out wr (aR _ _);go_wp2_with (first|((with_reducible first|refine cU ?_|refine wU ?_);clear k m c;intro w m k;have c:=HX.out w m.zO)|(go_roundw;(case rel=>exact⟨i+1,by omega,by go_num,congrArg (Value.int .i64) (by have:=HT.out;omega),OO.out.trans gO (by simp)⟩);(case measure=>first|(simp[intOf];done)|(simp[intOf];omega))))
    rotate_left
    have d1:decide ((bs.length:Int)<=x)=true:=eY (by omega)
   rotate_left
   focus
    have d0:decide (x<0)=true:=eY (by omega)
   rotate_left
   all_goals
    rw[show PE bs x=true by unfold PE;rw[if_neg (by omega)],if_pos rfl] at HT;have HX:=HX0;have m:=bJ wr [];have k:=m.zK;have c:=HX.out wr (aR _ _);go_wp2_with (first|((with_reducible first|refine cU ?_|refine wU ?_);clear k m c;intro w m k;have c:=HX.out w m.zO)|(go_roundw;(case rel=>exact⟨i+1,by omega,by go_num,congrArg (Value.int .i64) (by have:=HT.out;omega),OO.out.trans gO (by simp)⟩);(case measure=>first|(simp[intOf];done)|(simp[intOf];omega))))
  ·obtain rfl:i=l.length:=by omega
   have hlt2:decide ((l.length:Int)<(l.length:Int))=false:=by simp
   rw[List.take_length];obtain⟨res,HE⟩:∃ r,Hid (N9 l bs=r):=⟨_,aA rfl⟩;have hE:=HE.out;unfold N9 at hE;have hcl:EJ bs l<=l.length:=List.length_filter_le ..;generalize EJ bs l=cn at hE hcl |-;have e2:wrap .i64 (2*(cn:Int))=2*(cn:Int):=by rw[wrap_i64];omega
   have m:=bJ wr [];have k:=m.zK;by_cases h0:0<cn
   focus
    have d0:decide ((0:Int)<(cn:Int))=true:=eY (by omega);rw[eY h0,Bool.true_and] at hE
   rotate_left
   focus
    have d0:decide ((0:Int)<(cn:Int))=false:=dL (by omega);rw[dL h0,Bool.false_and] at hE
   rotate_left
   all_goals
    replace HE:=aA (hE.trans HE.out.symm);clear hE;go_wp2_with (first|((with_reducible first|refine cU ?_|refine wU ?_);clear k m;intro w m k)|((with_reducible refine lE (fun w o g k K hK=>⟨rfl,?_⟩));simp[results,Tryz.results49,go_sem];refine hK _ ?_;exact⟨by rw[<-HE.out],OO.out.aB o⟩))
end
section
theorem pFew59 {w:World} (s:dW) (h1:aU ndC 7 w s.pn s.nd.length s.cn s.nd) (h2:aU lkC 9 w s.pl s.lk.length s.cl s.lk) :
  Calls Tryz.prog 14 #[fT s] w fun e w'=>∃ b,e=.returned (.bool b)/\(b=true->VN s)/\Oy [] w w':=by
 have HSN:=aA h1;have HSL:=aA h2;clear h1 h2;have HP:Hid ((s.nd.length<=60/\s.lk.length<=100/\s.ft.length<=100)->SgP s.nd.length s->ChP s.lk.length s->VN s):=aA (fun h h1 h2=>⟨h.1,h.2.1,h.2.2,h1,h2⟩);unfold fT;obtain⟨wo,rfl⟩:∃ wo:World,wo=w:=⟨_,rfl⟩;have m:=bJ wo [];have k:=m.zK;by_cases g1:60<s.nd.length
 ·have d1:decide (60<(s.nd.length:Int))=true:=eY (by omega)
  go_enter Tryz.func14,Tryz.ntmps14
  go_wp2_with (first|((with_reducible first|refine cU ?_|refine wU ?_);clear k m;intro w m k)|((with_reducible refine lE (fun w o g k K hK=>⟨rfl,?_⟩));simp[results,Tryz.results14,go_sem];refine hK _ ?_;exact⟨_,rfl,nofun,o⟩))
 have d1:decide (60<(s.nd.length:Int))=false:=dL (by omega);by_cases g2:100<s.lk.length
 ·have d2:decide (100<(s.lk.length:Int))=true:=eY (by omega)
  go_enter Tryz.func14,Tryz.ntmps14
  go_wp2_with (first|((with_reducible first|refine cU ?_|refine wU ?_);clear k m;intro w m k)|((with_reducible refine lE (fun w o g k K hK=>⟨rfl,?_⟩));simp[results,Tryz.results14,go_sem];refine hK _ ?_;exact⟨_,rfl,nofun,o⟩))
 have d2:decide (100<(s.lk.length:Int))=false:=dL (by omega);by_cases g3:100<s.ft.length
 ·have d3:decide (100<(s.ft.length:Int))=true:=eY (by omega)
  go_enter Tryz.func14,Tryz.ntmps14
  go_wp2_with (first|((with_reducible first|refine cU ?_|refine wU ?_);clear k m;intro w m k)|((with_reducible refine lE (fun w o g k K hK=>⟨rfl,?_⟩));simp[results,Tryz.results14,go_sem];refine hK _ ?_;exact⟨_,rfl,nofun,o⟩))
 have d3:decide (100<(s.ft.length:Int))=false:=dL (by omega);go_enter Tryz.func14,Tryz.ntmps14
 go_wp2_with ((with_reducible first|refine cU ?_|refine wU ?_);clear k m;intro w m k)
 have OB:=aA m.zO;have hbx:=gB (w:=w) (b:=wo.heap.size);generalize wo.heap.size=bs at hbx |-;have HBX:=aA hbx;clear k m hbx;obtain⟨wl,rfl⟩:∃ wl:World,wl=w:=⟨_,rfl⟩;go_loopw [26] (fun vi wr=>∃ i:Nat,i<=s.nd.length/\vi=.int .i64 i/\SgP i s/\Oy [] wl wr) (fun vi _=>s.nd.length-(intOf vi).toNat)
 case atStart=>exact⟨0,Nat.zero_le _,rfl,fun i hi=>absurd hi (by omega),aR _ _⟩
 case round =>
  obtain⟨i,hi,rfl,hsp,ho⟩:=hrel;have OO:=aA ho;have hb:=ho.got HBX.out (by simp);by_cases hlt:i<s.nd.length
  ·have hlt2:(i:Int)<(s.nd.length:Int):=by omega
   obtain⟨bk,off,hpn,-⟩:=HSN.out.nd (aR [] wo) hlt
   have HX:=aA (show ∀ w',Oy [] wr w'->bk<w'.heap.size/\w'.cell? ⟨bk,off+i*7,none⟩=some (.int .i64 (s.nd.getD i bD).n.ph)/\w'.cell? ⟨bk,off+i*7+1,none⟩=some (.slice (s.nd.getD i bD).ps (s.nd.getD i bD).n.sg.length (s.nd.getD i bD).cs)/\w'.cell? ⟨bk,off+i*7+2,none⟩=some (.int .i64 (s.nd.getD i bD).n.tol)/\w'.cell? ⟨bk,off+i*7+3,none⟩=some (.bool (s.nd.getD i bD).n.rf)/\w'.cell? ⟨bk,off+i*7+4,none⟩=some (.int .i64 (s.nd.getD i bD).n.er)/\w'.cell? ⟨bk,off+i*7+5,none⟩=some (.int .i64 (s.nd.getD i bD).n.st)/\w'.cell? ⟨bk,off+i*7+6,none⟩=some (.slice (s.nd.getD i bD).pv (s.nd.getD i bD).n.sv.length (s.nd.getD i bD).cv) from fun w' o=>by
    obtain⟨b',o',e,c1,c2,c3,c4,c5,c6,c7,c8⟩:=HSN.out.nd ((OB.out.aB OO.out).aB o) hlt;rw[hpn] at e
    cases e
    exact⟨c1,c2,c3,c4,c5,c6,c7,c8⟩)
   rw[hpn];rw[hpn] at hb;have ei:wrap .i64 ((i:Int)+1)=((i+1:Nat):Int):=by rw[wrap_i64];omega
   have hsl:=hlt;have HUP:=aA (fun h1 h2=>SgP.up (n:=i) hsp h1 h2);clear hsp;generalize s.nd.getD i bD=nd at HX HUP;obtain⟨⟨x1,x2,x3,x4,x5,x6,x7⟩,ps,cs,pv,cv⟩:=nd;dsimp only at HX HUP;have m:=iX hb;have k:=m.zK;have c:=HX.out wr (aR _ _);clear hb ho;by_cases h1:100<x2.length
   ·have e1:decide (100<(x2.length:Int))=true:=eY (by omega)
    go_wp2_with (first|((with_reducible first|refine cU ?_|refine wU ?_);clear k m c;intro w m k;have c:=HX.out w m.zO)|((with_reducible refine lE (fun w o g k K hK=>⟨rfl,?_⟩));simp[results,Tryz.results14,go_sem];refine hK _ ?_;exact⟨_,rfl,nofun,(OB.out.aB OO.out).aB o⟩))
   have e1:decide (100<(x2.length:Int))=false:=dL (by omega);by_cases h2:100<x7.length
   ·have e2:decide (100<(x7.length:Int))=true:=eY (by omega)
    go_wp2_with (first|((with_reducible first|refine cU ?_|refine wU ?_);clear k m c;intro w m k;have c:=HX.out w m.zO)|((with_reducible refine lE (fun w o g k K hK=>⟨rfl,?_⟩));simp[results,Tryz.results14,go_sem];refine hK _ ?_;exact⟨_,rfl,nofun,(OB.out.aB OO.out).aB o⟩))
   ·have e2:decide (100<(x7.length:Int))=false:=dL (by omega)
    go_wp2_with (first|((with_reducible first|refine cU ?_|refine wU ?_);clear k m c;intro w m k;have c:=HX.out w m.zO)|(go_roundw;(case rel=>exact⟨i+1,by omega,by go_num,HUP.out (by omega) (by omega),OO.out.trans gO (by simp)⟩);(case measure=>first|(simp[intOf];done)|(simp[intOf];omega))))
  ·obtain rfl:i=s.nd.length:=by omega
   have HSG:=aA hsp;clear hsp;have hlt2:decide ((s.nd.length:Int)<(s.nd.length:Int))=false:=by simp
   have HB2:=aA hb;have OB2:=aA (OB.out.aB OO.out);have m:=iX hb;have k:=m.zK;clear hb ho;go_wp2_with ((with_reducible first|refine cU ?_|refine wU ?_);clear k m;intro w m k)
   clear k m;obtain⟨wm,rfl⟩:∃ wm:World,wm=wr:=⟨_,rfl⟩;go_loopw [45] (fun vi wr=>∃ i:Nat,i<=s.lk.length/\vi=.int .i64 i/\ChP i s/\Oy [] wm wr) (fun vi _=>s.lk.length-(intOf vi).toNat)
   case atStart=>exact⟨0,Nat.zero_le _,rfl,fun i hi=>absurd hi (by omega),aR _ _⟩
   case round =>
    obtain⟨i,hi,rfl,hsp,ho⟩:=hrel;have O3:=aA ho;have hb:=ho.got HB2.out (by simp);by_cases hlt:i<s.lk.length
    ·have hlt3:(i:Int)<(s.lk.length:Int):=by omega
     obtain⟨bk,off,hpl,-⟩:=HSL.out.lk (aR [] wo) hlt
     have HX:=aA (show ∀ w',Oy [] wr w'->bk<w'.heap.size/\w'.cell? ⟨bk,off+i*9,none⟩=some (.int .i64 (s.lk.getD i jI).l.A)/\w'.cell? ⟨bk,off+i*9+1,none⟩=some (.int .i64 (s.lk.getD i jI).l.B)/\w'.cell? ⟨bk,off+i*9+2,none⟩=some (.int .i64 (s.lk.getD i jI).l.d0)/\w'.cell? ⟨bk,off+i*9+3,none⟩=some (.int .i64 (s.lk.getD i jI).l.d1)/\w'.cell? ⟨bk,off+i*9+4,none⟩=some (.int .i64 (s.lk.getD i jI).l.v0)/\w'.cell? ⟨bk,off+i*9+5,none⟩=some (.int .i64 (s.lk.getD i jI).l.v1)/\w'.cell? ⟨bk,off+i*9+6,none⟩=some (.int .i64 (s.lk.getD i jI).l.lo)/\w'.cell? ⟨bk,off+i*9+7,none⟩=some (.int .u64 (s.lk.getD i jI).l.sd)/\w'.cell? ⟨bk,off+i*9+8,none⟩=some (.slice (s.lk.getD i jI).p (s.lk.getD i jI).l.ch.length (s.lk.getD i jI).c) from fun w' o=>by
      obtain⟨b',o',e,c1,c2,c3,c4,c5,c6,c7,c8,c9,c10⟩:=HSL.out.lk ((OB2.out.aB O3.out).aB o) hlt;rw[hpl] at e
      cases e
      exact⟨c1,c2,c3,c4,c5,c6,c7,c8,c9,c10⟩)
     rw[hpl];rw[hpl] at hb;have ei:wrap .i64 ((i:Int)+1)=((i+1:Nat):Int):=by rw[wrap_i64];omega
     have hsl:=hlt;have HUP:=aA (fun h1=>ChP.up (n:=i) hsp h1);clear hsp;generalize s.lk.getD i jI=nd at HX HUP;obtain⟨⟨x1,x2,x3,x4,x5,x6,x7,x8,x9⟩,ps,cs⟩:=nd;dsimp only at HX HUP;have m:=iX hb;have k:=m.zK;have c:=HX.out wr (aR _ _);clear hb ho;by_cases h1:100<x9.length
     ·have e1:decide (100<(x9.length:Int))=true:=eY (by omega)
      go_wp2_with (first|((with_reducible first|refine cU ?_|refine wU ?_);clear k m c;intro w m k;have c:=HX.out w m.zO)|((with_reducible refine lE (fun w o g k K hK=>⟨rfl,?_⟩));simp[results,Tryz.results14,go_sem];refine hK _ ?_;exact⟨_,rfl,nofun,(OB2.out.aB O3.out).aB o⟩))
     ·have e1:decide (100<(x9.length:Int))=false:=dL (by omega)
      go_wp2_with (first|((with_reducible first|refine cU ?_|refine wU ?_);clear k m c;intro w m k;have c:=HX.out w m.zO)|(go_roundw;(case rel=>exact⟨i+1,by omega,by go_num,HUP.out (by omega),O3.out.trans gO (by simp)⟩);(case measure=>first|(simp[intOf];done)|(simp[intOf];omega))))
    ·obtain rfl:i=s.lk.length:=by omega
     have HFP:=aA (HP.out ⟨by omega,by omega,by omega⟩ HSG.out hsp);clear hsp;have hlt3:decide ((s.lk.length:Int)<(s.lk.length:Int))=false:=by simp
     have m:=iX hb;have k:=m.zK;clear hb ho;go_wp2_with (first|((with_reducible first|refine cU ?_|refine wU ?_);clear k m;intro w m k)|((with_reducible refine lE (fun w o g k K hK=>⟨rfl,?_⟩));simp[results,Tryz.results14,go_sem];refine hK _ ?_;exact⟨_,rfl,fun _=>HFP.out,(OB2.out.aB O3.out).aB o⟩))
theorem pConf59  (w:World) :
  Calls Tryz.prog 28 #[] w fun e w'=>e=.returned (JB C9)/\Oy [] w w':=by
 unfold JB C9;dsimp only;have m:=bJ w [];have k:=m.zK;go_enter Tryz.func28,Tryz.ntmps28
 go_wp2_with (first|((with_reducible refine wU ?_);clear k m;intro w m k)|((with_reducible refine lE (fun w o g k K hK=>⟨rfl,?_⟩));simp[results,Tryz.results28,go_sem,k];refine hK _ ?_;exact⟨rfl,o⟩))
theorem G6 (w:World) :
  Calls Tryz.prog 27 #[] w fun e w'=>∃ s:dW,e=.returned (fT s)/\s.Ok w'/\s.sc=eX/\Oy [] w w':=by
 have m:=bJ w [];have k:=m.zK;go_enter Tryz.func27,Tryz.ntmps27
 go_wp2_with (first|((with_reducible first|refine cU ?_|refine wU ?_);clear k m;intro w m k)|((with_reducible refine lE (fun w o g k K hK=>⟨rfl,?_⟩));simp[results,Tryz.results27,go_sem,k];refine hK _ ?_;exact pair_at g o))
end

theorem pair_ex {s:dW} (h:s.sc=eX):∃ x0 x1,s.nd=[x0,x1]/\s.ft=[]/\x0.n=⟨0,[⟨0,0⟩],0,true,100,0,[]⟩/\x1.n=⟨0,[⟨0,0⟩],0,false,0,0,[0]⟩:=by
 obtain⟨nd,lk,ft,un,sd,pn,cn,pl,cl,pf,cf⟩:=s;unfold dW.sc eX at h;dsimp only at h |-;injection h with h1 h2 h3 h4 h5
 subst h3;rcases nd with _|⟨x0,_|⟨x1,_|⟨x2,r⟩⟩⟩
 ·cases h1
 ·simp at h1
 ·simp only[List.map_cons,List.map_nil,List.cons.injEq,and_true] at h1
  exact⟨x0,x1,rfl,rfl,h1.1,h1.2⟩
 ·simp at h1
def slC (x:Option Addr × Nat × Nat):List Value:=[.slice x.1 x.2.1 x.2.2]
theorem GI (x:Option Addr × Nat × Nat):(slC x).length=1:=rfl


structure Fnd where
 k:Int
 n:Int
 i:Int
def NZ (x:Fnd):List Value:=[.int .i64 x.k,.int .i64 x.n,.int .i64 x.i]
theorem pG (x:Fnd):(NZ x).length=3:=rfl
theorem RL (x:Fnd):∀ u∈NZ x,u.oneCell'=true:=by simp[NZ,Value.oneCell']
def exM:iD:=⟨3101,1,2000,2500,0,900,3100,0,0⟩
theorem U1:lC eX [exM]=true:=by kernel_rfl
theorem pChecks (w:World) :
  Calls Tryz.prog 31 #[] w fun e w'=>(∃ b,e=.returned (.slice (some ⟨b,0,none⟩) 3 3)/\w.heap.size<=b/\w'.heap[b]? = some (.cells [.int .i64 1,.func (.func 53) #[] #[],.int .i64 2,.func (.func 54) #[] #[],.int .i64 3,.func (.func 55) #[] #[]].toArray 112 (0,0)))/\Oy [] w w':=by
 have m:=bJ w [];have k:=m.zK;go_enter Tryz.func31,Tryz.ntmps31
 go_wp2_with (first|((with_reducible first|refine cU ?_|refine wU ?_);clear k m;intro w m k)|((with_reducible refine lE (fun w o g k K hK=>⟨rfl,?_⟩));simp[results,Tryz.results31,go_sem];refine hK _ ?_;exact⟨⟨_,rfl,by omega,Has.h w g⟩,o⟩))
end Go.Proofs.YtppjhbjmfkiejaaGreat
