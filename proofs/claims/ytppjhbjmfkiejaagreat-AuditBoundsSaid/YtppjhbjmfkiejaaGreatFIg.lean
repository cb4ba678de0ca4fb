/- Ig Ih Ii Ij Ik Im -/
import Derived.Test.YtppjhbjmfkiejaaGreatFId
import Derived.Test.YtppjhbjmfkiejaaGreatShelf
namespace Go.Proofs.YtppjhbjmfkiejaaGreat
set_option linter.all false
open List (getD_cons_succ getD_cons_zero map_cons map_nil)
open IntKind (wrap_i64)
set_option maxRecDepth 100000
set_option maxHeartbeats 8000000
open Go.RowKit Go.Sort
section
open Go.Lib (hid)
def boC (b:Bool):List Value:=[.bool b]
theorem boC_len (b:Bool):(boC b).length=1:=rfl
def N8 (wr:List Bool) (s:Int):Bool:=if 0<=s/\s<(wr.length:Int) then wr.getD s.toNat true else true
def DX (wr:List Bool) (l:List Int):Nat:=(l.filter (N8 wr)).length
def dbtF (l:List Int) (wr:List Bool):Bool:=decide (0<DX wr l) && decide ((l.length:Int)<=2*(DX wr l:Int))
theorem EG {w:World} {l:List Int} {p q:Option Addr} {cp cq:Nat} {bs:List Bool} (ha:aR C9 1 w p l.length cp l) (hb:aR boC 1 w q bs.length cq bs) (hl:l.length<=1000000) (hbl:bs.length<=1000000) :
  Calls Tryz.prog 49 #[.slice p l.length cp,.slice q bs.length cq] w fun e w'=>e=.returned (.bool (dbtF l bs))/\Only [] w w':=by
 have HA:=hid ha;have HB:=hid hb;clear ha hb;obtain⟨wo,hwo⟩:∃ wo:World,wo=w:=⟨_,rfl⟩;subst hwo;have m:=bJ wo [];have k:=m.out.k;go_enter Tryz.func49,Tryz.ntmps49
 go_wp2_with ((with_reducible first|refine cU ?_|refine wU ?_);clear k m;intro w m k)
 clear k m;go_loopw [5,10] (fun va vi wr=>∃ i:Nat,i<=l.length/\vi=.int .i64 i/\va=.int .i64 (DX bs (l.take i):Nat)/\Only [] wo wr) (fun va vi _=>l.length-(intOf vi).toNat)
 case atStart=>exact⟨0,Nat.zero_le _,rfl,rfl,Only.refl _ _⟩
 case round =>
  obtain⟨i,hi,rfl,rfl,ho⟩:=hrel;have OO:=hid ho;clear ho;by_cases hlt:i<l.length
  ·have hlt2:decide ((i:Int)<(l.length:Int))=true:=dW (by omega)
   have hlt3:(i:Int)<(l.length:Int):=by omega
   have ei:IntKind.i64.wrap ((i:Int)+1)=((i+1:Nat):Int):=by rw[wrap_i64];omega
   obtain⟨bk,off,rfl,-⟩:=HA.out.it (Only.refl [] wo) hlt;obtain⟨x,hx⟩:∃ x,l.getD i 0=x:=⟨_,rfl⟩;have hlx:l[i]=x:=by rw[<-hx,List.getD_eq_getElem?_getD,List.getElem?_eq_getElem hlt];rfl
   have HX0:=hid (show ∀ w',Only [] wr w'->bk<w'.heap.size/\w'.cell? ⟨bk,off+i,none⟩=some (.int .i64 x) from fun w' o=>by
    obtain⟨b',o',e,q1,q2⟩:=HA.out.it (OO.out.aA o) hlt
    cases e
    rw[hx] at q1;exact⟨q2,q1⟩)
   have HT:=hid (show DX bs (l.take (i+1))=DX bs (l.take i)+(if N8 bs x=true then 1 else 0) by
    unfold DX;rw[eH l hlt,List.filter_append,List.length_append,hlx];congr 1
    cases h:N8 bs x<;>simp[h])
   have hcl:DX bs (l.take i)<=i:=Nat.le_trans (List.length_filter_le ..) (by rw[List.length_take];omega);generalize DX bs (l.take i)=cn at HT hcl;have ec:IntKind.i64.wrap ((cn:Int)+1)=((cn+1:Nat):Int):=by rw[wrap_i64];omega
   clear hx hlx;by_cases h0:0<=x
   focus
    have d0:decide (x<0)=false:=dD (by omega);by_cases h1:x<(bs.length:Int)
    focus
     have d1:decide ((bs.length:Int)<=x)=false:=dD (by omega);obtain⟨j,rfl⟩:=Int.eq_ofNat_of_zero_le h0;have hj:j<bs.length:=by omega
     obtain⟨b2,o2,hq,-,hc2⟩:=HB.out.cell j bs[j] (List.getElem?_eq_getElem hj);subst hq;have hbd:N8 bs (j:Int)=bs[j]:=by unfold N8;rw[if_pos ⟨h0,h1⟩,Int.toNat_natCast,List.getD_eq_getElem?_getD,List.getElem?_eq_getElem hj];rfl
     rw[hbd] at HT
     have HX:=hid (show ∀ w',Only [] wr w'->(bk<w'.heap.size/\w'.cell? ⟨bk,off+i,none⟩=some (.int .i64 (j:Int)))/\b2<w'.heap.size/\w'.cell? ⟨b2,o2+j,none⟩=some (.bool bs[j]) from fun w' o=>by
      refine⟨HX0.out w' o,?_⟩;obtain⟨b3,o3,e3,k3,k4⟩:=(HB.out.kept (OO.out.aA o)).cell j bs[j] (List.getElem?_eq_getElem hj)
      cases e3
      exact⟨k3,by have:=k4 0 _ rfl;rwa [Nat.mul_one,Nat.add_zero] at this⟩)
     clear hbd hc2 HX0
     cases hv:bs[j]
     all_goals
      rw[hv] at HX HT;simp only[Bool.false_eq_true,if_true,if_false,Nat.add_zero] at HT;have m:=bJ wr [];have k:=m.out.k;have c:=HX.out wr (Only.refl _ _);go_wp2_with (first|((with_reducible first|refine cU ?_|refine wU ?_);clear k m c;intro w m k;have c:=HX.out w m.out.only)|(go_roundw;(case rel=>exact⟨i+1,by omega,by go_num,congrArg (Value.int .i64) (by have:=HT.out;omega),OO.out.trans gO (by simp)⟩);(case measure=>first|(simp[intOf];done)|(simp[intOf];omega))))
    rotate_left
    have d1:decide ((bs.length:Int)<=x)=true:=dW (by omega)
   rotate_left
   focus
    have d0:decide (x<0)=true:=dW (by omega)
   rotate_left
   all_goals
    rw[show N8 bs x=true by unfold N8;rw[if_neg (by omega)],if_pos rfl] at HT;have HX:=HX0;have m:=bJ wr [];have k:=m.out.k;have c:=HX.out wr (Only.refl _ _);go_wp2_with (first|((with_reducible first|refine cU ?_|refine wU ?_);clear k m c;intro w m k;have c:=HX.out w m.out.only)|(go_roundw;(case rel=>exact⟨i+1,by omega,by go_num,congrArg (Value.int .i64) (by have:=HT.out;omega),OO.out.trans gO (by simp)⟩);(case measure=>first|(simp[intOf];done)|(simp[intOf];omega))))
  ·obtain rfl:i=l.length:=by omega
   have hlt2:decide ((l.length:Int)<(l.length:Int))=false:=by simp
   rw[List.take_length];obtain⟨res,HE⟩:∃ r,Hid (dbtF l bs=r):=⟨_,hid rfl⟩;have hE:=HE.out;unfold dbtF at hE;have hcl:DX bs l<=l.length:=List.length_filter_le ..;generalize DX bs l=cn at hE hcl |-;have e2:IntKind.i64.wrap (2*(cn:Int))=2*(cn:Int):=by rw[wrap_i64];omega
   have m:=bJ wr [];have k:=m.out.k;by_cases h0:0<cn
   focus
    have d0:decide ((0:Int)<(cn:Int))=true:=dW (by omega);rw[dW h0,Bool.true_and] at hE
   rotate_left
   focus
    have d0:decide ((0:Int)<(cn:Int))=false:=dD (by omega);rw[dD h0,Bool.false_and] at hE
   rotate_left
   all_goals
    replace HE:=hid (hE.trans HE.out.symm);clear hE;go_wp2_with (first|((with_reducible first|refine cU ?_|refine wU ?_);clear k m;intro w m k)|((with_reducible refine lE (fun w o g k K hK=>⟨rfl,?_⟩));simp[results,Tryz.results49,go_sem];refine hK _ ?_;exact⟨by rw[<-HE.out],OO.out.aA o⟩))
end
section
open Go.Lib (hid)
theorem pFew59 {w:World} (s:dU) (h1:aR ndC 7 w s.pn s.nd.length s.cn s.nd) (h2:aR lkC 9 w s.pl s.lk.length s.cl s.lk) :
  Calls Tryz.prog 14 #[fG s] w fun e w'=>∃ b,e=.returned (.bool b)/\(b=true->FewP s)/\Only [] w w':=by
 have HSN:=hid h1;have HSL:=hid h2;clear h1 h2;have HP:Hid ((s.nd.length<=60/\s.lk.length<=100/\s.ft.length<=100)->SgP s.nd.length s->ChP s.lk.length s->FewP s):=hid (fun h h1 h2=>⟨h.1,h.2.1,h.2.2,h1,h2⟩);unfold fG;obtain⟨wo,hwo⟩:∃ wo:World,wo=w:=⟨_,rfl⟩;subst hwo;have m:=bJ wo [];have k:=m.out.k;by_cases g1:60<s.nd.length
 ·have d1:decide (60<(s.nd.length:Int))=true:=dW (by omega)
  go_enter Tryz.func14,Tryz.ntmps14
  go_wp2_with (first|((with_reducible first|refine cU ?_|refine wU ?_);clear k m;intro w m k)|((with_reducible refine lE (fun w o g k K hK=>⟨rfl,?_⟩));simp[results,Tryz.results14,go_sem];refine hK _ ?_;exact⟨_,rfl,nofun,o⟩))
 have d1:decide (60<(s.nd.length:Int))=false:=dD (by omega);by_cases g2:100<s.lk.length
 ·have d2:decide (100<(s.lk.length:Int))=true:=dW (by omega)
  go_enter Tryz.func14,Tryz.ntmps14
  go_wp2_with (first|((with_reducible first|refine cU ?_|refine wU ?_);clear k m;intro w m k)|((with_reducible refine lE (fun w o g k K hK=>⟨rfl,?_⟩));simp[results,Tryz.results14,go_sem];refine hK _ ?_;exact⟨_,rfl,nofun,o⟩))
 have d2:decide (100<(s.lk.length:Int))=false:=dD (by omega);by_cases g3:100<s.ft.length
 ·have d3:decide (100<(s.ft.length:Int))=true:=dW (by omega)
  go_enter Tryz.func14,Tryz.ntmps14
  go_wp2_with (first|((with_reducible first|refine cU ?_|refine wU ?_);clear k m;intro w m k)|((with_reducible refine lE (fun w o g k K hK=>⟨rfl,?_⟩));simp[results,Tryz.results14,go_sem];refine hK _ ?_;exact⟨_,rfl,nofun,o⟩))
 have d3:decide (100<(s.ft.length:Int))=false:=dD (by omega);go_enter Tryz.func14,Tryz.ntmps14
 go_wp2_with ((with_reducible first|refine cU ?_|refine wU ?_);clear k m;intro w m k)
 have OB:=hid m.out.only;have hbx:=gB (w:=w) (b:=wo.heap.size);generalize wo.heap.size=bs at hbx |-;have HBX:=hid hbx;clear k m hbx;obtain⟨wl,hwl⟩:∃ wl:World,wl=w:=⟨_,rfl⟩;subst hwl;go_loopw [26] (fun vi wr=>∃ i:Nat,i<=s.nd.length/\vi=.int .i64 i/\SgP i s/\Only [] wl wr) (fun vi _=>s.nd.length-(intOf vi).toNat)
 case atStart=>exact⟨0,Nat.zero_le _,rfl,fun i hi=>absurd hi (by omega),Only.refl _ _⟩
 case round =>
  obtain⟨i,hi,rfl,hsp,ho⟩:=hrel;have OO:=hid ho;have hb:=ho.got HBX.out (by simp);by_cases hlt:i<s.nd.length
  ·have hlt2:(i:Int)<(s.nd.length:Int):=by omega
   obtain⟨bk,off,hpn,-⟩:=HSN.out.nd (Only.refl [] wo) hlt
   have HX:=hid (show ∀ w',Only [] wr w'->bk<w'.heap.size/\w'.cell? ⟨bk,off+i*7,none⟩=some (.int .i64 (s.nd.getD i bC).n.ph)/\w'.cell? ⟨bk,off+i*7+1,none⟩=some (.slice (s.nd.getD i bC).ps (s.nd.getD i bC).n.sg.length (s.nd.getD i bC).cs)/\w'.cell? ⟨bk,off+i*7+2,none⟩=some (.int .i64 (s.nd.getD i bC).n.tol)/\w'.cell? ⟨bk,off+i*7+3,none⟩=some (.bool (s.nd.getD i bC).n.rf)/\w'.cell? ⟨bk,off+i*7+4,none⟩=some (.int .i64 (s.nd.getD i bC).n.er)/\w'.cell? ⟨bk,off+i*7+5,none⟩=some (.int .i64 (s.nd.getD i bC).n.st)/\w'.cell? ⟨bk,off+i*7+6,none⟩=some (.slice (s.nd.getD i bC).pv (s.nd.getD i bC).n.sv.length (s.nd.getD i bC).cv) from fun w' o=>by
    obtain⟨b',o',e,c1,c2,c3,c4,c5,c6,c7,c8⟩:=HSN.out.nd ((OB.out.aA OO.out).aA o) hlt;rw[hpn] at e
    cases e
    exact⟨c1,c2,c3,c4,c5,c6,c7,c8⟩)
   rw[hpn];rw[hpn] at hb;have ei:IntKind.i64.wrap ((i:Int)+1)=((i+1:Nat):Int):=by rw[wrap_i64];omega
   have hsl:=hlt;have HUP:=hid (fun h1 h2=>SgP.up (n:=i) hsp h1 h2);clear hsp;generalize s.nd.getD i bC=nd at HX HUP;obtain⟨⟨x1,x2,x3,x4,x5,x6,x7⟩,ps,cs,pv,cv⟩:=nd;dsimp only at HX HUP;have m:=jZ hb;have k:=m.out.k;have c:=HX.out wr (Only.refl _ _);clear hb ho;by_cases h1:100<x2.length
   ·have e1:decide (100<(x2.length:Int))=true:=dW (by omega)
    go_wp2_with (first|((with_reducible first|refine cU ?_|refine wU ?_);clear k m c;intro w m k;have c:=HX.out w m.out.only)|((with_reducible refine lE (fun w o g k K hK=>⟨rfl,?_⟩));simp[results,Tryz.results14,go_sem];refine hK _ ?_;exact⟨_,rfl,nofun,(OB.out.aA OO.out).aA o⟩))
   have e1:decide (100<(x2.length:Int))=false:=dD (by omega);by_cases h2:100<x7.length
   ·have e2:decide (100<(x7.length:Int))=true:=dW (by omega)
    go_wp2_with (first|((with_reducible first|refine cU ?_|refine wU ?_);clear k m c;intro w m k;have c:=HX.out w m.out.only)|((with_reducible refine lE (fun w o g k K hK=>⟨rfl,?_⟩));simp[results,Tryz.results14,go_sem];refine hK _ ?_;exact⟨_,rfl,nofun,(OB.out.aA OO.out).aA o⟩))
   ·have e2:decide (100<(x7.length:Int))=false:=dD (by omega)
    go_wp2_with (first|((with_reducible first|refine cU ?_|refine wU ?_);clear k m c;intro w m k;have c:=HX.out w m.out.only)|(go_roundw;(case rel=>exact⟨i+1,by omega,by go_num,HUP.out (by omega) (by omega),OO.out.trans gO (by simp)⟩);(case measure=>first|(simp[intOf];done)|(simp[intOf];omega))))
  ·obtain rfl:i=s.nd.length:=by omega
   have HSG:=hid hsp;clear hsp;have hlt2:decide ((s.nd.length:Int)<(s.nd.length:Int))=false:=by simp
   have HB2:=hid hb;have OB2:=hid (OB.out.aA OO.out);have m:=jZ hb;have k:=m.out.k;clear hb ho;go_wp2_with ((with_reducible first|refine cU ?_|refine wU ?_);clear k m;intro w m k)
   clear k m;obtain⟨wm,hwm⟩:∃ wm:World,wm=wr:=⟨_,rfl⟩;subst hwm;go_loopw [45] (fun vi wr=>∃ i:Nat,i<=s.lk.length/\vi=.int .i64 i/\ChP i s/\Only [] wm wr) (fun vi _=>s.lk.length-(intOf vi).toNat)
   case atStart=>exact⟨0,Nat.zero_le _,rfl,fun i hi=>absurd hi (by omega),Only.refl _ _⟩
   case round =>
    obtain⟨i,hi,rfl,hsp,ho⟩:=hrel;have O3:=hid ho;have hb:=ho.got HB2.out (by simp);by_cases hlt:i<s.lk.length
    ·have hlt3:(i:Int)<(s.lk.length:Int):=by omega
     obtain⟨bk,off,hpl,-⟩:=HSL.out.lk (Only.refl [] wo) hlt
     have HX:=hid (show ∀ w',Only [] wr w'->bk<w'.heap.size/\w'.cell? ⟨bk,off+i*9,none⟩=some (.int .i64 (s.lk.getD i jF).l.A)/\w'.cell? ⟨bk,off+i*9+1,none⟩=some (.int .i64 (s.lk.getD i jF).l.B)/\w'.cell? ⟨bk,off+i*9+2,none⟩=some (.int .i64 (s.lk.getD i jF).l.d0)/\w'.cell? ⟨bk,off+i*9+3,none⟩=some (.int .i64 (s.lk.getD i jF).l.d1)/\w'.cell? ⟨bk,off+i*9+4,none⟩=some (.int .i64 (s.lk.getD i jF).l.v0)/\w'.cell? ⟨bk,off+i*9+5,none⟩=some (.int .i64 (s.lk.getD i jF).l.v1)/\w'.cell? ⟨bk,off+i*9+6,none⟩=some (.int .i64 (s.lk.getD i jF).l.lo)/\w'.cell? ⟨bk,off+i*9+7,none⟩=some (.int .u64 (s.lk.getD i jF).l.sd)/\w'.cell? ⟨bk,off+i*9+8,none⟩=some (.slice (s.lk.getD i jF).p (s.lk.getD i jF).l.ch.length (s.lk.getD i jF).c) from fun w' o=>by
      obtain⟨b',o',e,c1,c2,c3,c4,c5,c6,c7,c8,c9,c10⟩:=HSL.out.lk ((OB2.out.aA O3.out).aA o) hlt;rw[hpl] at e
      cases e
      exact⟨c1,c2,c3,c4,c5,c6,c7,c8,c9,c10⟩)
     rw[hpl];rw[hpl] at hb;have ei:IntKind.i64.wrap ((i:Int)+1)=((i+1:Nat):Int):=by rw[wrap_i64];omega
     have hsl:=hlt;have HUP:=hid (fun h1=>ChP.up (n:=i) hsp h1);clear hsp;generalize s.lk.getD i jF=nd at HX HUP;obtain⟨⟨x1,x2,x3,x4,x5,x6,x7,x8,x9⟩,ps,cs⟩:=nd;dsimp only at HX HUP;have m:=jZ hb;have k:=m.out.k;have c:=HX.out wr (Only.refl _ _);clear hb ho;by_cases h1:100<x9.length
     ·have e1:decide (100<(x9.length:Int))=true:=dW (by omega)
      go_wp2_with (first|((with_reducible first|refine cU ?_|refine wU ?_);clear k m c;intro w m k;have c:=HX.out w m.out.only)|((with_reducible refine lE (fun w o g k K hK=>⟨rfl,?_⟩));simp[results,Tryz.results14,go_sem];refine hK _ ?_;exact⟨_,rfl,nofun,(OB2.out.aA O3.out).aA o⟩))
     ·have e1:decide (100<(x9.length:Int))=false:=dD (by omega)
      go_wp2_with (first|((with_reducible first|refine cU ?_|refine wU ?_);clear k m c;intro w m k;have c:=HX.out w m.out.only)|(go_roundw;(case rel=>exact⟨i+1,by omega,by go_num,HUP.out (by omega),O3.out.trans gO (by simp)⟩);(case measure=>first|(simp[intOf];done)|(simp[intOf];omega))))
    ·obtain rfl:i=s.lk.length:=by omega
     have HFP:=hid (HP.out ⟨by omega,by omega,by omega⟩ HSG.out hsp);clear hsp;have hlt3:decide ((s.lk.length:Int)<(s.lk.length:Int))=false:=by simp
     have m:=jZ hb;have k:=m.out.k;clear hb ho;go_wp2_with (first|((with_reducible first|refine cU ?_|refine wU ?_);clear k m;intro w m k)|((with_reducible refine lE (fun w o g k K hK=>⟨rfl,?_⟩));simp[results,Tryz.results14,go_sem];refine hK _ ?_;exact⟨_,rfl,fun _=>HFP.out,(OB2.out.aA O3.out).aA o⟩))
theorem pConf59  (w:World) :
  Calls Tryz.prog 28 #[] w fun e w'=>e=.returned (NR xM)/\Only [] w w':=by
 unfold NR xM;dsimp only;have m:=bJ w [];have k:=m.out.k;go_enter Tryz.func28,Tryz.ntmps28
 go_wp2_with (first|((with_reducible refine wU ?_);clear k m;intro w m k)|((with_reducible refine lE (fun w o g k K hK=>⟨rfl,?_⟩));simp[results,Tryz.results28,go_sem,k];refine hK _ ?_;exact⟨rfl,o⟩))
theorem GH (w:World) :
  Calls Tryz.prog 27 #[] w fun e w'=>∃ s:dU,e=.returned (fG s)/\s.Ok w'/\s.sc=eO/\Only [] w w':=by
 have m:=bJ w [];have k:=m.out.k;go_enter Tryz.func27,Tryz.ntmps27
 go_wp2_with (first|((with_reducible first|refine cU ?_|refine wU ?_);clear k m;intro w m k)|((with_reducible refine lE (fun w o g k K hK=>⟨rfl,?_⟩));simp[results,Tryz.results27,go_sem,k];refine hK _ ?_;exact pair_at g o))
end
section
open Go.Lib (hid)
theorem J2  (w:World) :
  Calls Tryz.prog 73 #[.slice none 0 0] w fun e w'=>e=.returned (.slice none 0 0)/\Only [] w w':=by
 have m:=bJ w [];have k:=m.out.k;go_enter Tryz.func73,Tryz.ntmps73
 go_wp2_with (first|((with_reducible refine rG (id:=6) [0,1,2,3,4,5,6,7,8,9] [] (by kernel_rfl) (by kernel_rfl) ?_);simp only[pick,map_cons,map_nil,getD_cons_succ,getD_cons_zero];(repeat' (first|go_big_quiet_step (fail)|(refine wpQuiet_step (fun K hK=>?_);go_simp;(first|(refine hK _ ?_;clear hK K)|(split<;>(refine hK _ ?_;clear hK K))))));all_goals (refine wpQuiet_nil ?_;clear k m;intro w m k))|((with_reducible refine rG (id:=11) [0,1,2,3,4,5,6,7,8,9] [] (by kernel_rfl) (by kernel_rfl) ?_);simp only[pick,map_cons,map_nil,getD_cons_succ,getD_cons_zero];(repeat' (first|go_big_quiet_step (fail)|(refine wpQuiet_step (fun K hK=>?_);go_simp;(first|(refine hK _ ?_;clear hK K)|(split<;>(refine hK _ ?_;clear hK K))))));all_goals (refine wpQuiet_nil ?_;clear k m;intro w m k))|((with_reducible refine wU ?_);clear k m;intro w m k)|((with_reducible refine lE (fun w o g k K hK=>⟨rfl,?_⟩));simp[results,Tryz.results73,go_sem];refine hK _ ?_;exact⟨rfl,o⟩))
theorem TK {w:World} {p:Option Addr} {cp:Nat} (hf:aR ftC 5 w p 0 cp [])  :
  Calls Tryz.prog 48 #[.slice p 0 cp] w fun e w'=>e=.returned (.slice none 0 0)/\Only [] w w':=by
 have HFC:=hid (fun w' (o:Only [] w w')=>MP (hf.kept o) (by decide));clear hf;rw[show uD []=0 by decide] at HFC;have HSO:=hid (fun w'=>(Tryz.slices_Sort_int_none none 0 w').mono (R':=fun e w''=>e=.returned (.tuple #[])/\Only [] w' w'') (fun e w'' h=>⟨h.1,by rw[h.2];exact Only.refl _ _⟩));have HCO:=hid (fun w'=>J2 w');have m:=bJ w [];have k:=m.out.k;go_enter Tryz.func48,Tryz.ntmps48
 go_wp2_with ((with_reducible first|refine cM (HFC.out _ gO) ?_|refine cU ?_|refine wU ?_);clear k m;intro w m k)
 refine wp_loop_rounds 1 ?_;rw[rounds_succ];go_wp2_with (first|((with_reducible first|refine cM (HSO.out _) ?_|refine cM (HCO.out _) ?_|refine cU ?_|refine wU ?_);clear k m;intro w m k)|((with_reducible refine lE (fun w o g k K hK=>⟨rfl,?_⟩));simp[results,Tryz.results48,go_sem];refine hK _ ?_;exact⟨rfl,o⟩))
theorem DZ {w:World} {b:Nat} {t:TypeId} (h:w.heap[b]? = some (.cells [.bool false,.bool false,.bool false,.bool false,.bool false,.bool false,.bool false,.bool false,.bool false,.bool false,.bool false,.bool false,.bool false,.bool false,.bool false,.bool false,.bool false,.bool false,.bool false,.bool false,.bool false,.bool false,.bool false,.bool false].toArray t (0,0))):aR boC 1 w (some ⟨b,0,none⟩) 2 24 [false,false]:=by
 refine⟨rfl,by decide,by unfold maxLen;omega,by simp,fun i x hx=>⟨b,0,rfl,aD h,fun j v hv=>?_⟩⟩;have hi:i<2:=(List.getElem?_eq_some_iff.1 hx).1;have hj:j<1:=by have:=(List.getElem?_eq_some_iff.1 hv).1;rwa [boC_len] at this
 obtain rfl:j=0:=by omega
 have hc:i=0\/i=1:=by omega
 rcases hc with rfl|rfl
 ·cases hx;cases hv;rw[aB h];rfl
 ·cases hx;cases hv;rw[aB h];rfl
theorem MN {w:World} {b cv cu cp:Nat} {pv pu p:Option Addr} (hs:w.heap[b]? = some (.cells #[.slice pu 0 cu,.slice pv 1 cv] 52 (0,0))) (hy:aR C9 1 w pu 0 cu []) (hz:aR C9 1 w pv 1 cv [0]) (hf:aR ftC 5 w p 0 cp []) :
  Calls Tryz.prog 26 #[.int .i64 2,   .slice (some ⟨b,0,none⟩) 2 2,.slice p 0 cp] w fun e w'=>e=.returned (.slice none 0 0)/\Only [] w w':=by
 have HND:=hid (fun w' (o:Only [] w w')=>TK (hf.kept o));have HZ:=hid hz;have HY:=hid hy;clear hz hy hf;have HD1:=hid (fun (w':World) (o:Only [] w w') (h:w'.heap[w.heap.size]? = some (.cells [.bool false,.bool false,.bool false,.bool false,.bool false,.bool false,.bool false,.bool false,.bool false,.bool false,.bool false,.bool false,.bool false,.bool false,.bool false,.bool false,.bool false,.bool false,.bool false,.bool false,.bool false,.bool false,.bool false,.bool false].toArray 143 (0,0)))=>EG (l:=[]) (bs:=[false,false]) (HY.out.kept o) (DZ h) (by decide) (by decide));have HD2:=hid (fun (w':World) (o:Only [] w w') (h:w'.heap[w.heap.size]? = some (.cells [.bool false,.bool false,.bool false,.bool false,.bool false,.bool false,.bool false,.bool false,.bool false,.bool false,.bool false,.bool false,.bool false,.bool false,.bool false,.bool false,.bool false,.bool false,.bool false,.bool false,.bool false,.bool false,.bool false,.bool false].toArray 143 (0,0)))=>EG (l:=[0]) (bs:=[false,false]) (HZ.out.kept o) (DZ h) (by decide) (by decide));rw[show dbtF [] [false,false]=false by decide] at HD1;rw[show dbtF [0] [false,false]=false by decide] at HD2;simp only[List.length_nil,List.length_cons,Nat.zero_add] at HD1 HD2;obtain⟨wo,hwo⟩:∃ wo:World,wo=w:=⟨_,rfl⟩;subst hwo;have m:=jZ hs;have k:=m.out.k;clear hs;go_enter Tryz.func26,Tryz.ntmps26
 go_wp2_with ((with_reducible first|refine cM (HND.out _ gO) ?_|refine cU ?_|refine wU ?_);clear k m;intro w m k)
 repeat ((first|rw[rounds_succ]|(refine wp_loop_rounds 3 ?_;rw[rounds_succ]));go_wp2_with (first|((with_reducible first|refine cM (HND.out _ gO) ?_|refine cU ?_|refine wU ?_);clear k m;intro w m k)|((with_reducible refine rG (id:=15) [0,1,2,3,4,5,6,7,8,9,10,11,12] [] (by kernel_rfl) (by kernel_rfl) ?_);simp only[pick,map_cons,map_nil,getD_cons_succ,getD_cons_zero];(repeat' (first|go_big_quiet_step (with_reducible first|exact gX (HD1.out _ U8 gP)|exact gX (HD2.out _ U8 gP))|(refine wpQuiet_step (fun K hK=>?_);go_simp;(first|(refine hK _ ?_;clear hK K)|(split<;>(refine hK _ ?_;clear hK K))))));all_goals (refine wpQuiet_nil ?_;clear k m;intro w m k))|((with_reducible refine lE (fun w o g k K hK=>⟨rfl,?_⟩));simp[results,Tryz.results26,go_sem];refine hK _ ?_;exact⟨rfl,o⟩)))
end
section
open Go.Lib (hid)
theorem P8 {s:dU} (h:s.sc=eO):∃ x0 x1,s.nd=[x0,x1]/\s.ft=[]/\x0.n=⟨0,[⟨0,0⟩],0,true,100,0,[]⟩/\x1.n=⟨0,[⟨0,0⟩],0,false,0,0,[0]⟩:=by
 obtain⟨nd,lk,ft,un,sd,pn,cn,pl,cl,pf,cf⟩:=s;unfold dU.sc eO at h;dsimp only at h |-;injection h with h1 h2 h3 h4 h5
 subst h3;rcases nd with _|⟨x0,_|⟨x1,_|⟨x2,r⟩⟩⟩
 ·cases h1
 ·simp at h1
 ·simp only[map_cons,map_nil,List.cons.injEq,and_true] at h1
  exact⟨x0,x1,rfl,rfl,h1.1,h1.2⟩
 ·simp at h1
theorem VO {G:World->Prop} {w0 w:World} {S:List Nat} {L:List fV} [m:Mm w0 S w L] (h:∀ w',Mm w0 S w' L->Facts w' L->G w'):G w:=h w m m.out.k
def slC (x:Option Addr × Nat × Nat):List Value:=[.slice x.1 x.2.1 x.2.2]
theorem slC_len (x:Option Addr × Nat × Nat):(slC x).length=1:=rfl
theorem TG {w:World} (s:dU) (hs:s.Ok w) (hsc:s.sc=eO) :
  Calls Tryz.prog 30 #[fG s] w fun e w'=>∃ b,e=.returned (.map (some b))/\w.heap.size<=b/\w'.heap[b]? = some (.map #[] 0)/\Only [] w w':=by
 obtain⟨x0,x1,hnd,hft,e0,e1⟩:=P8 hsc;have hv:=hs.nd;have hf:=hs.ft;have h0:=(hs.ndo x0 (by rw[hnd];simp)).srv;have h1:=(hs.ndo x1 (by rw[hnd];simp)).srv;rw[e0] at h0;rw[e1] at h1;rw[hft] at hf;have HV:=hid hv;have hb:=HV.out.nd (k:=0) (Only.refl [] w) (by rw[hnd];simp);obtain⟨bk,off,hpn,-⟩:=hb
 have HX:=hid (show ∀ w',Only [] w w'->bk<w'.heap.size/\(w'.cell? ⟨bk,off,none⟩=some (.int .i64 x0.n.ph)/\w'.cell? ⟨bk,off+1,none⟩=some (.slice x0.ps x0.n.sg.length x0.cs)/\w'.cell? ⟨bk,off+2,none⟩=some (.int .i64 x0.n.tol)/\w'.cell? ⟨bk,off+3,none⟩=some (.bool x0.n.rf)/\w'.cell? ⟨bk,off+4,none⟩=some (.int .i64 x0.n.er)/\w'.cell? ⟨bk,off+5,none⟩=some (.int .i64 x0.n.st)/\w'.cell? ⟨bk,off+6,none⟩=some (.slice x0.pv x0.n.sv.length x0.cv))/\(w'.cell? ⟨bk,off+7,none⟩=some (.int .i64 x1.n.ph)/\w'.cell? ⟨bk,off+8,none⟩=some (.slice x1.ps x1.n.sg.length x1.cs)/\w'.cell? ⟨bk,off+9,none⟩=some (.int .i64 x1.n.tol)/\w'.cell? ⟨bk,off+10,none⟩=some (.bool x1.n.rf)/\w'.cell? ⟨bk,off+11,none⟩=some (.int .i64 x1.n.er)/\w'.cell? ⟨bk,off+12,none⟩=some (.int .i64 x1.n.st)/\w'.cell? ⟨bk,off+13,none⟩=some (.slice x1.pv x1.n.sv.length x1.cv)) from fun w' o=>by
  obtain⟨b',o',e,q⟩:=HV.out.nd (k:=0) o (by rw[hnd];simp);obtain⟨b2,o2,e2,q2⟩:=HV.out.nd (k:=1) o (by rw[hnd];simp);rw[hpn] at e e2
  cases e
  cases e2
  rw[hnd] at q q2;exact⟨q.1,q.2,q2.2⟩)
 unfold fG;rw[hnd,hft,hpn];rw[e0,e1] at HX;dsimp only[List.length_cons,List.length_nil] at HX h0 h1 hf |-;have HUN:=hid (fun (w':World) (o:Only [] w w') (b:Nat) (h:w'.heap[b]? = some (.cells [.slice x0.pv 0 x0.cv,.slice x1.pv 1 x1.cv].toArray 52 (0,0)))=>MN h (h0.kept o) (h1.kept o) (hf.kept o));clear hv hf h0 h1 hnd hft e0 e1 hpn HV hs hsc;obtain⟨wo,hwo⟩:∃ wo:World,wo=w:=⟨_,rfl⟩;subst hwo;have m:=bJ wo [];have k:=m.out.k;go_enter Tryz.func30,Tryz.ntmps30
 go_upto_region 1 with (fail)
 refine wU ?_;clear k m;intro w m k;go_wp2_with (refine wpList_make_own slC rfl _ _ 96 rfl 52 (.slice none 0 0) 1 24 Tryz.underlying96 (by kernel_rfl) slC_len (none,0,0) rfl .i64 .i64 _ _ 2 rfl rfl rfl rfl (by omega) (by unfold maxLen;omega) ?_;intro w1 hr1 ho1 hs1;refine aV ?_)
 have g1:=ho1.got (gB (w:=w) (b:=wo.heap.size)) (by simp);have OA:=hid (m.out.only.aA ho1);have HG0:=hid m.out.only.size;have hne:wo.heap.size<w.heap.size:=aD gB;obtain⟨cur,hg,hcs,-,-,htk⟩:=hr1
 have hcur:cur=#[.slice none 0 0,.slice none 0 0]:=by
  apply Array.ext'
  have:cur.toList.take 2=[.slice none 0 0,.slice none 0 0]:=htk;rw[List.take_of_length_le (by simp;omega)] at this;exact this
 subst hcur;clear htk hcs k m ho1 hs1;generalize w.heap.size=g at hg hne HG0 |-;have HG:=hid HG0.out;have HNE:=hid hne;have m:Mm w1 [g] w1 _:=⟨((Mem.start w1 [g]).ext false g1 (by simp) (by simp)).ext true hg (by simp;omega) (by simp)⟩;have HX1:=hid (fun w' (o:Only [g] w1 w')=>HX.out w' (OA.out.trans o (fun y hy=>.inr (by rw[List.mem_singleton.1 hy];exact HG.out))));have HOW:=hid (fun w' (o:Only [g] w1 w')=>OA.out.trans o (fun y hy=>.inr (by rw[List.mem_singleton.1 hy];exact HG.out)));have k:=m.out.k;have c:=HX1.out w1 (Only.refl _ _);clear g1 hg hne;refine bD ?_;go_wp2_with ((with_reducible first|refine cM (HUN.out _ (HOW.out _ gO) _ gB) ?_|refine cU ?_|refine wU ?_);clear k m c;intro w m k;have c:=HX1.out w m.out.only)
 repeat ((first|rw[rounds_succ]|(refine wp_loop_rounds 3 ?_;rw[rounds_succ]));go_wp2_with ((with_reducible first|refine cM (HUN.out _ (HOW.out _ gO) _ gB) ?_|refine cU ?_|refine wU ?_);clear k m c;intro w m k;have c:=HX1.out w m.out.only))
 refine VO (G:=fun W=>Oper.upon _ _ _ _ _ ((Sem.run _ _ W).andThen _)) ?_;clear k m c;intro w m k;rw[@run_makeMap Tryz.prog];go_upto_region 8 with (fail)
 refine aF (G:=fun w0=>Code.wp _ _ _ _ w0) ?_;intro w5 hb5 ho5 hs5;have HM:=hid hb5;have HMS:=hid (Nat.le_trans (Nat.le_trans OA.out.size m.out.only.size) (Nat.le_refl w.heap.size));generalize w.heap.size=mb at HM HMS |-;replace m:Mm w1 [g] w5 _:=⟨m.out.call ho5⟩;clear k hb5 ho5 hs5;have hq0:=gB (w:=w5) (b:=wo.heap.size);have hq1:=gB (w:=w5) (b:=g);have O5:=hid m.out.only;clear m;have m:Mm w5 [] w5 _:=⟨((Mem.start w5 []).ext false hq0 (by simp) (by simp)).ext false hq1 (by have:=HNE.out;simp;omega) (by simp)⟩;clear hq0 hq1;have k:=m.out.k;go_wp2_with ((with_reducible first|refine cM (HUN.out _ (HOW.out _ (O5.out.aA gO)) _ gB) ?_|refine cU ?_|refine wU ?_);clear k m;intro w m k)
 refine wp_loop_rounds 1 ?_;rw[rounds_succ];go_wp2_with (first|((with_reducible first|refine cU ?_|refine wU ?_);clear k m;intro w m k)|((with_reducible refine lE (fun w o g k K hK=>⟨rfl,?_⟩));simp[results,Tryz.results30,go_sem];refine hK _ ?_;exact⟨_,rfl,HMS.out,o.got HM.out (by simp),(HOW.out _ O5.out).aA o⟩))
end
section
def rvV (x:lI) (tl:Int):Value:=.agg #[.int .i64 x.at_,.int .i64 x.nd,.int .i64 x.raw,.int .i64 x.clk,.int .i64 x.stp,.int .i64 x.lo,.int .i64 x.hi,.int .i64 x.kd,.int .i64 x.vl,.int .i64 0,.int .i64 0,.int .i64 0,.int .i64 0,.int .i64 0,.int .i64 0,.int .i64 0,.int .i64 0,.int .i64 0,.bool false,.bool true,.int .i64 tl]
theorem XU (x:lI) (tl:Int) (w:World) :
  Calls Tryz.prog 54 #[rvV x tl] w fun e w'=>e=.returned (.bool false)/\Only [] w w':=by
 unfold rvV;have m:=bJ w [];have k:=m.out.k;go_enter Tryz.func54,Tryz.ntmps54
 go_wp2_with (first|((with_reducible refine wU ?_);clear k m;intro w m k)|((with_reducible refine lE (fun w o g k K hK=>⟨rfl,?_⟩));simp[results,Tryz.results54,go_sem];refine hK _ ?_;exact⟨rfl,o⟩))
theorem YH (x:lI) (tl:Int) (w:World) :
  Calls Tryz.prog 55 #[rvV x tl] w fun e w'=>e=.returned (.bool false)/\Only [] w w':=by
 unfold rvV;have m:=bJ w [];have k:=m.out.k;go_enter Tryz.func55,Tryz.ntmps55
 go_wp2_with (first|((with_reducible first|refine cU ?_|refine wU ?_);clear k m;intro w m k)|((with_reducible refine lE (fun w o g k K hK=>⟨rfl,?_⟩));simp[results,Tryz.results55,go_sem];refine hK _ ?_;exact⟨rfl,o⟩))
theorem pLies (x:lI) (tl:Int) (h:DR ⟨x.lo,x.hi⟩ x.at_=false) (w:World) :
  Calls Tryz.prog 53 #[rvV x tl] w fun e w'=>e=.returned (.bool true)/\Only [] w w':=by
 unfold rvV;have HH:=Lib.hid (fun w'=>pHas ⟨x.lo,x.hi⟩ x.at_ w');unfold dV at HH;dsimp only at HH;rw[h] at HH;clear h;have m:=bJ w [];have k:=m.out.k;go_enter Tryz.func53,Tryz.ntmps53
 go_wp2_with (first|((with_reducible first|refine cM (HH.out _) ?_|refine wU ?_);clear k m;intro w m k)|((with_reducible refine lE (fun w o g k K hK=>⟨rfl,?_⟩));simp[results,Tryz.results53,go_sem];refine hK _ ?_;exact⟨rfl,o⟩))
end
section
theorem MQ {w:World} {x y:lI} {p q:Option Addr} {cp cq:Nat} (ha:aR rQ 9 w p 1 cp [x]) (hb:aR rQ 9 w q 1 cq [y]) (hne:x.at_≠y.at_) :
  Calls Tryz.prog 32 #[.slice p 1 cp,.slice q 1 cq] w fun e w'=>(∃ b,e=.returned (.slice (some ⟨b,0,none⟩) 1 1)/\w.heap.size<=b/\w'.heap[b]? = some (.cells [.int .i64 5,.int .i64 x.nd,.int .i64 0].toArray 99 (0,0)))/\Only [] w w':=by
 have HA:=Lib.hid (show aR rQ 9 w p ([x].length) cp [x] from ha);have HB:=Lib.hid (show aR rQ 9 w q ([y].length) cq [y] from hb);clear ha hb;obtain⟨bk,off,rfl,-⟩:=HA.out.I8 (k:=0) (Only.refl [] w) (by simp);obtain⟨bj,ofj,rfl,-⟩:=HB.out.I8 (k:=0) (Only.refl [] w) (by simp)
 have HX:=Lib.hid (show ∀ w',Only [] w w'->(bk<w'.heap.size/\w'.cell? ⟨bk,off,none⟩=some (.int .i64 x.at_)/\w'.cell? ⟨bk,off+1,none⟩=some (.int .i64 x.nd)/\w'.cell? ⟨bk,off+2,none⟩=some (.int .i64 x.raw)/\w'.cell? ⟨bk,off+3,none⟩=some (.int .i64 x.clk)/\w'.cell? ⟨bk,off+4,none⟩=some (.int .i64 x.stp)/\w'.cell? ⟨bk,off+5,none⟩=some (.int .i64 x.lo)/\w'.cell? ⟨bk,off+6,none⟩=some (.int .i64 x.hi)/\w'.cell? ⟨bk,off+7,none⟩=some (.int .i64 x.kd)/\w'.cell? ⟨bk,off+8,none⟩=some (.int .i64 x.vl))/\(bj<w'.heap.size/\w'.cell? ⟨bj,ofj,none⟩=some (.int .i64 y.at_)/\w'.cell? ⟨bj,ofj+1,none⟩=some (.int .i64 y.nd)/\w'.cell? ⟨bj,ofj+2,none⟩=some (.int .i64 y.raw)/\w'.cell? ⟨bj,ofj+3,none⟩=some (.int .i64 y.clk)/\w'.cell? ⟨bj,ofj+4,none⟩=some (.int .i64 y.stp)/\w'.cell? ⟨bj,ofj+5,none⟩=some (.int .i64 y.lo)/\w'.cell? ⟨bj,ofj+6,none⟩=some (.int .i64 y.hi)/\w'.cell? ⟨bj,ofj+7,none⟩=some (.int .i64 y.kd)/\w'.cell? ⟨bj,ofj+8,none⟩=some (.int .i64 y.vl)) from fun w' o=>by
  obtain⟨b1,o1,e1,z1⟩:=HA.out.I8 (k:=0) o (by simp);obtain⟨b2,o2,e2,z2⟩:=HB.out.I8 (k:=0) o (by simp)
  cases e1
  cases e2
  rw[Nat.zero_mul,Nat.add_zero] at z1 z2;exact⟨z1,z2⟩)
 clear HA HB;obtain⟨x0,x1,x2,x3,x4,x5,x6,x7,x8⟩:=x;obtain⟨y0,y1,y2,y3,y4,y5,y6,y7,y8⟩:=y;dsimp only at HX hne |-;have hn:(x0 == y0)=false:=by simpa using hne
 obtain⟨wo,hwo⟩:∃ wo:World,wo=w:=⟨_,rfl⟩;subst hwo;have m:=bJ wo [];have k:=m.out.k;have c:=HX.out wo (Only.refl _ _);go_enter Tryz.func32,Tryz.ntmps32
 go_wp2_with ((with_reducible first|refine cU ?_|refine wU ?_);clear k m c;intro w m k;have c:=HX.out w m.out.only)
 repeat ((first|rw[rounds_succ]|(refine wp_loop_rounds 2 ?_;rw[rounds_succ]));go_wp2_with (first|((with_reducible refine rG (id:=2) [0,1,2,3,4,5,6,7,8,9,10,11,12,13,14,15,16,17,18,19,20] [] (by kernel_rfl) (by kernel_rfl) ?_);simp only[pick,map_cons,map_nil,getD_cons_succ,getD_cons_zero];(repeat' (first|go_big_quiet_step (fail)|(refine wpQuiet_step (fun K hK=>?_);go_simp;(first|(refine hK _ ?_;clear hK K)|(split<;>(refine hK _ ?_;clear hK K))))));all_goals (refine wpQuiet_nil ?_;clear k m c;intro w m k;have c:=HX.out w m.out.only))|((with_reducible first|refine cU ?_|refine wU ?_);clear k m c;intro w m k;have c:=HX.out w m.out.only)|((with_reducible refine lE (fun w o g k K hK=>⟨rfl,?_⟩));simp[results,Tryz.results32,go_sem];refine hK _ ?_;exact⟨⟨_,rfl,by have:=m.out.only.size;omega,Has.h w g⟩,o⟩)))
end
end Go.Proofs.YtppjhbjmfkiejaaGreat
