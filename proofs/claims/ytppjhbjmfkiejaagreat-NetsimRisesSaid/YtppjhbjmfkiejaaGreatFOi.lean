/- The law NetsimRises: few, conf, pair. Conditions: those named in each theorem. -/
import Derived.Test.YtppjhbjmfkiejaaGreatFOg
namespace Go.Proofs.YtppjhbjmfkiejaaGreat
set_option linter.all false
open Go.Lib (hid)
set_option maxRecDepth 100000
set_option maxHeartbeats 8000000
open Go.RowKit Go.Sort
def SgP (n:Nat) (s:ScW):Prop:=∀ i<n,(s.nd.getD i nw0).n.sg.length<=100/\(s.nd.getD i nw0).n.sv.length<=100
def ChP (n:Nat) (s:ScW):Prop:=∀ i<n,(s.lk.getD i lw0).l.ch.length<=100
def FewP (s:ScW):Prop:=s.nd.length<=60/\s.lk.length<=100/\s.ft.length<=100/\SgP s.nd.length s/\ChP s.lk.length s
theorem SgP.up {s:ScW} {n:Nat} (h:SgP n s) (h1:(s.nd.getD n nw0).n.sg.length<=100) (h2:(s.nd.getD n nw0).n.sv.length<=100):SgP (n+1) s:=fun i hi=>by
 by_cases e:i=n
 ·subst e;exact⟨h1,h2⟩
 ·exact h i (by omega)
theorem ChP.up {s:ScW} {n:Nat} (h:ChP n s) (h1:(s.lk.getD n lw0).l.ch.length<=100):ChP (n+1) s:=fun i hi=>by
 by_cases e:i=n
 ·subst e;exact h1
 ·exact h i (by omega)
theorem pFew {w:World} (s:ScW) (h1:VRow ndC 7 w s.pn s.nd.length s.cn s.nd) (h2:VRow lkC 9 w s.pl s.lk.length s.cl s.lk) :
  Calls Tryz.prog 8 #[scnV s] w fun e w'=>∃ b,e=.returned (.bool b)/\(b=true->FewP s)/\Only [] w w':=by
 have HSN:=hid h1;have HSL:=hid h2;clear h1 h2;have HP:Hid ((s.nd.length<=60/\s.lk.length<=100/\s.ft.length<=100)->SgP s.nd.length s->ChP s.lk.length s->FewP s):=hid (fun h h1 h2=>⟨h.1,h.2.1,h.2.2,h1,h2⟩);unfold scnV;obtain⟨wo,hwo⟩:∃ wo:World,wo=w:=⟨_,rfl⟩;subst hwo;have m:=mm0 wo [];have k:=m.out.k;by_cases g1:60<s.nd.length
 ·have d1:decide (60<(s.nd.length:Int))=true:=decide_eq_true (by omega)
  go_enter Tryz.func8,Tryz.ntmps8
  go_wp2_with (first|((with_reducible first|refine cU ?_|refine wU ?_);clear k m;intro w m k)|((with_reducible refine lE (fun w o g k K hK=>⟨rfl,?_⟩));simp[results,Tryz.results8,go_sem];refine hK _ ?_;exact⟨_,rfl,nofun,o⟩))
 have d1:decide (60<(s.nd.length:Int))=false:=decide_eq_false (by omega);by_cases g2:100<s.lk.length
 ·have d2:decide (100<(s.lk.length:Int))=true:=decide_eq_true (by omega)
  go_enter Tryz.func8,Tryz.ntmps8
  go_wp2_with (first|((with_reducible first|refine cU ?_|refine wU ?_);clear k m;intro w m k)|((with_reducible refine lE (fun w o g k K hK=>⟨rfl,?_⟩));simp[results,Tryz.results8,go_sem];refine hK _ ?_;exact⟨_,rfl,nofun,o⟩))
 have d2:decide (100<(s.lk.length:Int))=false:=decide_eq_false (by omega);by_cases g3:100<s.ft.length
 ·have d3:decide (100<(s.ft.length:Int))=true:=decide_eq_true (by omega)
  go_enter Tryz.func8,Tryz.ntmps8
  go_wp2_with (first|((with_reducible first|refine cU ?_|refine wU ?_);clear k m;intro w m k)|((with_reducible refine lE (fun w o g k K hK=>⟨rfl,?_⟩));simp[results,Tryz.results8,go_sem];refine hK _ ?_;exact⟨_,rfl,nofun,o⟩))
 have d3:decide (100<(s.ft.length:Int))=false:=decide_eq_false (by omega);go_enter Tryz.func8,Tryz.ntmps8
 go_wp2_with ((with_reducible first|refine cU ?_|refine wU ?_);clear k m;intro w m k)
 have OB:=hid m.out.only;have hbx:=gB (w:=w) (b:=wo.heap.size);generalize wo.heap.size=bs at hbx ⊢;have HBX:=hid hbx;clear k m hbx;obtain⟨wl,hwl⟩:∃ wl:World,wl=w:=⟨_,rfl⟩;subst hwl;go_loopw [26] (fun vi wr=>∃ i:Nat,i<=s.nd.length/\vi=.int .i64 i/\SgP i s/\Only [] wl wr) (fun vi _=>s.nd.length-(intOf vi).toNat)
 case atStart=>exact⟨0,Nat.zero_le _,rfl,fun i hi=>absurd hi (by omega),Only.refl _ _⟩
 case round =>
  obtain⟨i,hi,rfl,hsp,ho⟩:=hrel;have OO:=hid ho;have hb:=ho.got HBX.out (by simp);by_cases hlt:i<s.nd.length
  ·have hlt2:(i:Int)<(s.nd.length:Int):=by omega
   obtain⟨bk,off,hpn,-⟩:=HSN.out.nd (Only.refl [] wo) hlt
   have HX:=hid (show ∀ w',Only [] wr w'->bk<w'.heap.size/\w'.cell? ⟨bk,off+i*7,none⟩=some (.int .i64 (s.nd.getD i nw0).n.ph)/\w'.cell? ⟨bk,off+i*7+1,none⟩=some (.slice (s.nd.getD i nw0).ps (s.nd.getD i nw0).n.sg.length (s.nd.getD i nw0).cs)/\w'.cell? ⟨bk,off+i*7+2,none⟩=some (.int .i64 (s.nd.getD i nw0).n.tol)/\w'.cell? ⟨bk,off+i*7+3,none⟩=some (.bool (s.nd.getD i nw0).n.rf)/\w'.cell? ⟨bk,off+i*7+4,none⟩=some (.int .i64 (s.nd.getD i nw0).n.er)/\w'.cell? ⟨bk,off+i*7+5,none⟩=some (.int .i64 (s.nd.getD i nw0).n.st)/\w'.cell? ⟨bk,off+i*7+6,none⟩=some (.slice (s.nd.getD i nw0).pv (s.nd.getD i nw0).n.sv.length (s.nd.getD i nw0).cv) from fun w' o=>by
    obtain⟨b',o',e,c1,c2,c3,c4,c5,c6,c7,c8⟩:=HSN.out.nd ((OB.out.nil_trans OO.out).nil_trans o) hlt;rw[hpn] at e
    cases e
    exact⟨c1,c2,c3,c4,c5,c6,c7,c8⟩)
   rw[hpn];rw[hpn] at hb;have ei:IntKind.i64.wrap ((i:Int)+1)=((i+1:Nat):Int):=by rw[IntKind.wrap_i64];omega
   have hsl:=hlt;have HUP:=hid (fun h1 h2=>SgP.up (n:=i) hsp h1 h2);clear hsp;generalize s.nd.getD i nw0=nd at HX HUP;obtain⟨⟨x1,x2,x3,x4,x5,x6,x7⟩,ps,cs,pv,cv⟩:=nd;dsimp only at HX HUP;have m:=mmR hb;have k:=m.out.k;have c:=HX.out wr (Only.refl _ _);clear hb ho;by_cases h1:100<x2.length
   ·have e1:decide (100<(x2.length:Int))=true:=decide_eq_true (by omega)
    go_wp2_with (first|((with_reducible first|refine cU ?_|refine wU ?_);clear k m c;intro w m k;have c:=HX.out w m.out.only)|((with_reducible refine lE (fun w o g k K hK=>⟨rfl,?_⟩));simp[results,Tryz.results8,go_sem];refine hK _ ?_;exact⟨_,rfl,nofun,(OB.out.nil_trans OO.out).nil_trans o⟩))
   have e1:decide (100<(x2.length:Int))=false:=decide_eq_false (by omega);by_cases h2:100<x7.length
   ·have e2:decide (100<(x7.length:Int))=true:=decide_eq_true (by omega)
    go_wp2_with (first|((with_reducible first|refine cU ?_|refine wU ?_);clear k m c;intro w m k;have c:=HX.out w m.out.only)|((with_reducible refine lE (fun w o g k K hK=>⟨rfl,?_⟩));simp[results,Tryz.results8,go_sem];refine hK _ ?_;exact⟨_,rfl,nofun,(OB.out.nil_trans OO.out).nil_trans o⟩))
   ·have e2:decide (100<(x7.length:Int))=false:=decide_eq_false (by omega)
    go_wp2_with (first|((with_reducible first|refine cU ?_|refine wU ?_);clear k m c;intro w m k;have c:=HX.out w m.out.only)|(go_roundw;(case rel=>exact⟨i+1,by omega,by go_num,HUP.out (by omega) (by omega),OO.out.trans gO (by simp)⟩);(case measure=>first|(simp[intOf];done)|(simp[intOf];omega))))
  ·obtain rfl:i=s.nd.length:=by omega
   have HSG:=hid hsp;clear hsp;have hlt2:decide ((s.nd.length:Int)<(s.nd.length:Int))=false:=by simp
   have HB2:=hid hb;have OB2:=hid (OB.out.nil_trans OO.out);have m:=mmR hb;have k:=m.out.k;clear hb ho;go_wp2_with ((with_reducible first|refine cU ?_|refine wU ?_);clear k m;intro w m k)
   clear k m;obtain⟨wm,hwm⟩:∃ wm:World,wm=wr:=⟨_,rfl⟩;subst hwm;go_loopw [45] (fun vi wr=>∃ i:Nat,i<=s.lk.length/\vi=.int .i64 i/\ChP i s/\Only [] wm wr) (fun vi _=>s.lk.length-(intOf vi).toNat)
   case atStart=>exact⟨0,Nat.zero_le _,rfl,fun i hi=>absurd hi (by omega),Only.refl _ _⟩
   case round =>
    obtain⟨i,hi,rfl,hsp,ho⟩:=hrel;have O3:=hid ho;have hb:=ho.got HB2.out (by simp);by_cases hlt:i<s.lk.length
    ·have hlt3:(i:Int)<(s.lk.length:Int):=by omega
     obtain⟨bk,off,hpl,-⟩:=HSL.out.lk (Only.refl [] wo) hlt
     have HX:=hid (show ∀ w',Only [] wr w'->bk<w'.heap.size/\w'.cell? ⟨bk,off+i*9,none⟩=some (.int .i64 (s.lk.getD i lw0).l.A)/\w'.cell? ⟨bk,off+i*9+1,none⟩=some (.int .i64 (s.lk.getD i lw0).l.B)/\w'.cell? ⟨bk,off+i*9+2,none⟩=some (.int .i64 (s.lk.getD i lw0).l.d0)/\w'.cell? ⟨bk,off+i*9+3,none⟩=some (.int .i64 (s.lk.getD i lw0).l.d1)/\w'.cell? ⟨bk,off+i*9+4,none⟩=some (.int .i64 (s.lk.getD i lw0).l.v0)/\w'.cell? ⟨bk,off+i*9+5,none⟩=some (.int .i64 (s.lk.getD i lw0).l.v1)/\w'.cell? ⟨bk,off+i*9+6,none⟩=some (.int .i64 (s.lk.getD i lw0).l.lo)/\w'.cell? ⟨bk,off+i*9+7,none⟩=some (.int .u64 (s.lk.getD i lw0).l.sd)/\w'.cell? ⟨bk,off+i*9+8,none⟩=some (.slice (s.lk.getD i lw0).p (s.lk.getD i lw0).l.ch.length (s.lk.getD i lw0).c) from fun w' o=>by
      obtain⟨b',o',e,c1,c2,c3,c4,c5,c6,c7,c8,c9,c10⟩:=HSL.out.lk ((OB2.out.nil_trans O3.out).nil_trans o) hlt;rw[hpl] at e
      cases e
      exact⟨c1,c2,c3,c4,c5,c6,c7,c8,c9,c10⟩)
     rw[hpl];rw[hpl] at hb;have ei:IntKind.i64.wrap ((i:Int)+1)=((i+1:Nat):Int):=by rw[IntKind.wrap_i64];omega
     have hsl:=hlt;have HUP:=hid (fun h1=>ChP.up (n:=i) hsp h1);clear hsp;generalize s.lk.getD i lw0=nd at HX HUP;obtain⟨⟨x1,x2,x3,x4,x5,x6,x7,x8,x9⟩,ps,cs⟩:=nd;dsimp only at HX HUP;have m:=mmR hb;have k:=m.out.k;have c:=HX.out wr (Only.refl _ _);clear hb ho;by_cases h1:100<x9.length
     ·have e1:decide (100<(x9.length:Int))=true:=decide_eq_true (by omega)
      go_wp2_with (first|((with_reducible first|refine cU ?_|refine wU ?_);clear k m c;intro w m k;have c:=HX.out w m.out.only)|((with_reducible refine lE (fun w o g k K hK=>⟨rfl,?_⟩));simp[results,Tryz.results8,go_sem];refine hK _ ?_;exact⟨_,rfl,nofun,(OB2.out.nil_trans O3.out).nil_trans o⟩))
     ·have e1:decide (100<(x9.length:Int))=false:=decide_eq_false (by omega)
      go_wp2_with (first|((with_reducible first|refine cU ?_|refine wU ?_);clear k m c;intro w m k;have c:=HX.out w m.out.only)|(go_roundw;(case rel=>exact⟨i+1,by omega,by go_num,HUP.out (by omega),O3.out.trans gO (by simp)⟩);(case measure=>first|(simp[intOf];done)|(simp[intOf];omega))))
    ·obtain rfl:i=s.lk.length:=by omega
     have HFP:=hid (HP.out ⟨by omega,by omega,by omega⟩ HSG.out hsp);clear hsp;have hlt3:decide ((s.lk.length:Int)<(s.lk.length:Int))=false:=by simp
     have m:=mmR hb;have k:=m.out.k;clear hb ho;go_wp2_with (first|((with_reducible first|refine cU ?_|refine wU ?_);clear k m;intro w m k)|((with_reducible refine lE (fun w o g k K hK=>⟨rfl,?_⟩));simp[results,Tryz.results8,go_sem];refine hK _ ?_;exact⟨_,rfl,fun _=>HFP.out,(OB2.out.nil_trans O3.out).nil_trans o⟩))
def confA:Cf:=⟨1,0,1,3,⟨65536,655,500000,0,0⟩,500000,4,6⟩
theorem pConf  (w:World) :
  Calls Tryz.prog 21 #[] w fun e w'=>e=.returned (cfV confA)/\Only [] w w':=by
 unfold cfV confA;dsimp only;have m:=mm0 w [];have k:=m.out.k;go_enter Tryz.func21,Tryz.ntmps21
 go_wp2_with (first|((with_reducible refine wU ?_);clear k m;intro w m k)|((with_reducible refine lE (fun w o g k K hK=>⟨rfl,?_⟩));simp[results,Tryz.results21,go_sem,k];refine hK _ ?_;exact⟨rfl,o⟩))
end Go.Proofs.YtppjhbjmfkiejaaGreat
