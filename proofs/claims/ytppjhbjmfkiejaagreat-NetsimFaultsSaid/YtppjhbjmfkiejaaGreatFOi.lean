/- Oi Oj Ok -/
import Derived.Test.YtppjhbjmfkiejaaGreatFOg
namespace Go.Proofs.YtppjhbjmfkiejaaGreat
set_option linter.all false
section
open Go.Lib (hid)
set_option maxRecDepth 100000
set_option maxHeartbeats 8000000
open Go.RowKit Go.Sort
def SgP (n:Nat) (s:ScW):Prop:=∀ i<n,(s.nd.getD i nw0).n.sg.length<=100/\(s.nd.getD i nw0).n.sv.length<=100
def ChP (n:Nat) (s:ScW):Prop:=∀ i<n,(s.lk.getD i lw0).l.ch.length<=100
def FewP (s:ScW):Prop:=s.nd.length<=60/\s.lk.length<=100/\s.ft.length<=100/\SgP s.nd.length s/\ChP s.lk.length s
theorem SgP.up {s:ScW} {n:Nat} (h:SgP n s) (h1:(s.nd.getD n nw0).n.sg.length<=100) (h2:(s.nd.getD n nw0).n.sv.length<=100):SgP (n+1) s:=fun i hi=>by
 by_cases e:i=n
 ·subst e;exact⟨h1,h2⟩
 ·exact h i (by omega)
theorem ChP.up {s:ScW} {n:Nat} (h:ChP n s) (h1:(s.lk.getD n lw0).l.ch.length<=100):ChP (n+1) s:=fun i hi=>by
 by_cases e:i=n
 ·subst e;exact h1
 ·exact h i (by omega)
theorem pFew {w:World} (s:ScW) (h1:VRow ndC 7 w s.pn s.nd.length s.cn s.nd) (h2:VRow lkC 9 w s.pl s.lk.length s.cl s.lk) :
  Calls Tryz.prog 8 #[scnV s] w fun e w'=>∃ b,e=.returned (.bool b)/\(b=true->FewP s)/\Only [] w w':=by
 have HSN:=hid h1;have HSL:=hid h2;clear h1 h2;have HP:Hid ((s.nd.length<=60/\s.lk.length<=100/\s.ft.length<=100)->SgP s.nd.length s->ChP s.lk.length s->FewP s):=hid (fun h h1 h2=>⟨h.1,h.2.1,h.2.2,h1,h2⟩);unfold scnV;obtain⟨wo,hwo⟩:∃ wo:World,wo=w:=⟨_,rfl⟩;subst hwo;have m:=mm0 wo [];have k:=m.out.k;by_cases g1:60<s.nd.length
 ·have d1:decide (60<(s.nd.length:Int))=true:=decide_eq_true (by omega)
  go_enter Tryz.func8,Tryz.ntmps8
  go_wp2_with (first|((with_reducible first|refine cU ?_|refine wU ?_);clear k m;intro w m k)|((with_reducible refine lE (fun w o g k K hK=>⟨rfl,?_⟩));simp[results,Tryz.results8,go_sem];refine hK _ ?_;exact⟨_,rfl,nofun,o⟩))
 have d1:decide (60<(s.nd.length:Int))=false:=decide_eq_false (by omega);by_cases g2:100<s.lk.length
 ·have d2:decide (100<(s.lk.length:Int))=true:=decide_eq_true (by omega)
  go_enter Tryz.func8,Tryz.ntmps8
  go_wp2_with (first|((with_reducible first|refine cU ?_|refine wU ?_);clear k m;intro w m k)|((with_reducible refine lE (fun w o g k K hK=>⟨rfl,?_⟩));simp[results,Tryz.results8,go_sem];refine hK _ ?_;exact⟨_,rfl,nofun,o⟩))
 have d2:decide (100<(s.lk.length:Int))=false:=decide_eq_false (by omega);by_cases g3:100<s.ft.length
 ·have d3:decide (100<(s.ft.length:Int))=true:=decide_eq_true (by omega)
  go_enter Tryz.func8,Tryz.ntmps8
  go_wp2_with (first|((with_reducible first|refine cU ?_|refine wU ?_);clear k m;intro w m k)|((with_reducible refine lE (fun w o g k K hK=>⟨rfl,?_⟩));simp[results,Tryz.results8,go_sem];refine hK _ ?_;exact⟨_,rfl,nofun,o⟩))
 have d3:decide (100<(s.ft.length:Int))=false:=decide_eq_false (by omega);go_enter Tryz.func8,Tryz.ntmps8
 go_wp2_with ((with_reducible first|refine cU ?_|refine wU ?_);clear k m;intro w m k)
 have OB:=hid m.out.only;have hbx:=gB (w:=w) (b:=wo.heap.size);generalize wo.heap.size=bs at hbx ⊢;have HBX:=hid hbx;clear k m hbx;obtain⟨wl,hwl⟩:∃ wl:World,wl=w:=⟨_,rfl⟩;subst hwl;go_loopw [26] (fun vi wr=>∃ i:Nat,i<=s.nd.length/\vi=.int .i64 i/\SgP i s/\Only [] wl wr) (fun vi _=>s.nd.length-(intOf vi).toNat)
 case atStart=>exact⟨0,Nat.zero_le _,rfl,fun i hi=>absurd hi (by omega),Only.refl _ _⟩
 case round =>
  obtain⟨i,hi,rfl,hsp,ho⟩:=hrel;have OO:=hid ho;have hb:=ho.got HBX.out (by simp);by_cases hlt:i<s.nd.length
  ·have hlt2:(i:Int)<(s.nd.length:Int):=by omega
   obtain⟨bk,off,hpn,-⟩:=HSN.out.nd (Only.refl [] wo) hlt
   have HX:=hid (show ∀ w',Only [] wr w'->bk<w'.heap.size/\w'.cell? ⟨bk,off+i*7,none⟩=some (.int .i64 (s.nd.getD i nw0).n.ph)/\w'.cell? ⟨bk,off+i*7+1,none⟩=some (.slice (s.nd.getD i nw0).ps (s.nd.getD i nw0).n.sg.length (s.nd.getD i nw0).cs)/\w'.cell? ⟨bk,off+i*7+2,none⟩=some (.int .i64 (s.nd.getD i nw0).n.tol)/\w'.cell? ⟨bk,off+i*7+3,none⟩=some (.bool (s.nd.getD i nw0).n.rf)/\w'.cell? ⟨bk,off+i*7+4,none⟩=some (.int .i64 (s.nd.getD i nw0).n.er)/\w'.cell? ⟨bk,off+i*7+5,none⟩=some (.int .i64 (s.nd.getD i nw0).n.st)/\w'.cell? ⟨bk,off+i*7+6,none⟩=some (.slice (s.nd.getD i nw0).pv (s.nd.getD i nw0).n.sv.length (s.nd.getD i nw0).cv) from fun w' o=>by
    obtain⟨b',o',e,c1,c2,c3,c4,c5,c6,c7,c8⟩:=HSN.out.nd ((OB.out.nil_trans OO.out).nil_trans o) hlt;rw[hpn] at e
    cases e
    exact⟨c1,c2,c3,c4,c5,c6,c7,c8⟩)
   rw[hpn];rw[hpn] at hb;have ei:IntKind.i64.wrap ((i:Int)+1)=((i+1:Nat):Int):=by rw[IntKind.wrap_i64];omega
   have hsl:=hlt;have HUP:=hid (fun h1 h2=>SgP.up (n:=i) hsp h1 h2);clear hsp;generalize s.nd.getD i nw0=nd at HX HUP;obtain⟨⟨x1,x2,x3,x4,x5,x6,x7⟩,ps,cs,pv,cv⟩:=nd;dsimp only at HX HUP;have m:=mmR hb;have k:=m.out.k;have c:=HX.out wr (Only.refl _ _);clear hb ho;by_cases h1:100<x2.length
   ·have e1:decide (100<(x2.length:Int))=true:=decide_eq_true (by omega)
    go_wp2_with (first|((with_reducible first|refine cU ?_|refine wU ?_);clear k m c;intro w m k;have c:=HX.out w m.out.only)|((with_reducible refine lE (fun w o g k K hK=>⟨rfl,?_⟩));simp[results,Tryz.results8,go_sem];refine hK _ ?_;exact⟨_,rfl,nofun,(OB.out.nil_trans OO.out).nil_trans o⟩))
   have e1:decide (100<(x2.length:Int))=false:=decide_eq_false (by omega);by_cases h2:100<x7.length
   ·have e2:decide (100<(x7.length:Int))=true:=decide_eq_true (by omega)
    go_wp2_with (first|((with_reducible first|refine cU ?_|refine wU ?_);clear k m c;intro w m k;have c:=HX.out w m.out.only)|((with_reducible refine lE (fun w o g k K hK=>⟨rfl,?_⟩));simp[results,Tryz.results8,go_sem];refine hK _ ?_;exact⟨_,rfl,nofun,(OB.out.nil_trans OO.out).nil_trans o⟩))
   ·have e2:decide (100<(x7.length:Int))=false:=decide_eq_false (by omega)
    go_wp2_with (first|((with_reducible first|refine cU ?_|refine wU ?_);clear k m c;intro w m k;have c:=HX.out w m.out.only)|(go_roundw;(case rel=>exact⟨i+1,by omega,by go_num,HUP.out (by omega) (by omega),OO.out.trans gO (by simp)⟩);(case measure=>first|(simp[intOf];done)|(simp[intOf];omega))))
  ·obtain rfl:i=s.nd.length:=by omega
   have HSG:=hid hsp;clear hsp;have hlt2:decide ((s.nd.length:Int)<(s.nd.length:Int))=false:=by simp
   have HB2:=hid hb;have OB2:=hid (OB.out.nil_trans OO.out);have m:=mmR hb;have k:=m.out.k;clear hb ho;go_wp2_with ((with_reducible first|refine cU ?_|refine wU ?_);clear k m;intro w m k)
   clear k m;obtain⟨wm,hwm⟩:∃ wm:World,wm=wr:=⟨_,rfl⟩;subst hwm;go_loopw [45] (fun vi wr=>∃ i:Nat,i<=s.lk.length/\vi=.int .i64 i/\ChP i s/\Only [] wm wr) (fun vi _=>s.lk.length-(intOf vi).toNat)
   case atStart=>exact⟨0,Nat.zero_le _,rfl,fun i hi=>absurd hi (by omega),Only.refl _ _⟩
   case round =>
    obtain⟨i,hi,rfl,hsp,ho⟩:=hrel;have O3:=hid ho;have hb:=ho.got HB2.out (by simp);by_cases hlt:i<s.lk.length
    ·have hlt3:(i:Int)<(s.lk.length:Int):=by omega
     obtain⟨bk,off,hpl,-⟩:=HSL.out.lk (Only.refl [] wo) hlt
     have HX:=hid (show ∀ w',Only [] wr w'->bk<w'.heap.size/\w'.cell? ⟨bk,off+i*9,none⟩=some (.int .i64 (s.lk.getD i lw0).l.A)/\w'.cell? ⟨bk,off+i*9+1,none⟩=some (.int .i64 (s.lk.getD i lw0).l.B)/\w'.cell? ⟨bk,off+i*9+2,none⟩=some (.int .i64 (s.lk.getD i lw0).l.d0)/\w'.cell? ⟨bk,off+i*9+3,none⟩=some (.int .i64 (s.lk.getD i lw0).l.d1)/\w'.cell? ⟨bk,off+i*9+4,none⟩=some (.int .i64 (s.lk.getD i lw0).l.v0)/\w'.cell? ⟨bk,off+i*9+5,none⟩=some (.int .i64 (s.lk.getD i lw0).l.v1)/\w'.cell? ⟨bk,off+i*9+6,none⟩=some (.int .i64 (s.lk.getD i lw0).l.lo)/\w'.cell? ⟨bk,off+i*9+7,none⟩=some (.int .u64 (s.lk.getD i lw0).l.sd)/\w'.cell? ⟨bk,off+i*9+8,none⟩=some (.slice (s.lk.getD i lw0).p (s.lk.getD i lw0).l.ch.length (s.lk.getD i lw0).c) from fun w' o=>by
      obtain⟨b',o',e,c1,c2,c3,c4,c5,c6,c7,c8,c9,c10⟩:=HSL.out.lk ((OB2.out.nil_trans O3.out).nil_trans o) hlt;rw[hpl] at e
      cases e
      exact⟨c1,c2,c3,c4,c5,c6,c7,c8,c9,c10⟩)
     rw[hpl];rw[hpl] at hb;have ei:IntKind.i64.wrap ((i:Int)+1)=((i+1:Nat):Int):=by rw[IntKind.wrap_i64];omega
     have hsl:=hlt;have HUP:=hid (fun h1=>ChP.up (n:=i) hsp h1);clear hsp;generalize s.lk.getD i lw0=nd at HX HUP;obtain⟨⟨x1,x2,x3,x4,x5,x6,x7,x8,x9⟩,ps,cs⟩:=nd;dsimp only at HX HUP;have m:=mmR hb;have k:=m.out.k;have c:=HX.out wr (Only.refl _ _);clear hb ho;by_cases h1:100<x9.length
     ·have e1:decide (100<(x9.length:Int))=true:=decide_eq_true (by omega)
      go_wp2_with (first|((with_reducible first|refine cU ?_|refine wU ?_);clear k m c;intro w m k;have c:=HX.out w m.out.only)|((with_reducible refine lE (fun w o g k K hK=>⟨rfl,?_⟩));simp[results,Tryz.results8,go_sem];refine hK _ ?_;exact⟨_,rfl,nofun,(OB2.out.nil_trans O3.out).nil_trans o⟩))
     ·have e1:decide (100<(x9.length:Int))=false:=decide_eq_false (by omega)
      go_wp2_with (first|((with_reducible first|refine cU ?_|refine wU ?_);clear k m c;intro w m k;have c:=HX.out w m.out.only)|(go_roundw;(case rel=>exact⟨i+1,by omega,by go_num,HUP.out (by omega),O3.out.trans gO (by simp)⟩);(case measure=>first|(simp[intOf];done)|(simp[intOf];omega))))
    ·obtain rfl:i=s.lk.length:=by omega
     have HFP:=hid (HP.out ⟨by omega,by omega,by omega⟩ HSG.out hsp);clear hsp;have hlt3:decide ((s.lk.length:Int)<(s.lk.length:Int))=false:=by simp
     have m:=mmR hb;have k:=m.out.k;clear hb ho;go_wp2_with (first|((with_reducible first|refine cU ?_|refine wU ?_);clear k m;intro w m k)|((with_reducible refine lE (fun w o g k K hK=>⟨rfl,?_⟩));simp[results,Tryz.results8,go_sem];refine hK _ ?_;exact⟨_,rfl,fun _=>HFP.out,(OB2.out.nil_trans O3.out).nil_trans o⟩))
def confA:Cf:=⟨1,0,1,3,⟨65536,655,500000,0,0⟩,500000,4,6⟩
theorem pConf  (w:World) :
  Calls Tryz.prog 21 #[] w fun e w'=>e=.returned (cfV confA)/\Only [] w w':=by
 unfold cfV confA;dsimp only;have m:=mm0 w [];have k:=m.out.k;go_enter Tryz.func21,Tryz.ntmps21
 go_wp2_with (first|((with_reducible refine wU ?_);clear k m;intro w m k)|((with_reducible refine lE (fun w o g k K hK=>⟨rfl,?_⟩));simp[results,Tryz.results21,go_sem,k];refine hK _ ?_;exact⟨rfl,o⟩))
end
section
open Go.RowKit Go.Sort
def pairS:Scn:=⟨[⟨0,[⟨0,0⟩],0,true,100,0,[]⟩,⟨0,[⟨0,0⟩],0,false,0,0,[0]⟩],[⟨0,1,1000,1000,0,0,0,0,[]⟩],[],1000000,0⟩
theorem pair_chk:nchkF pairS confA=0:=by kernel_rfl
def awC0:Cl:=cl0 ⟨1,0,1,3,⟨65536,655,500000,0,0⟩,500000,4,6⟩ 0 0
def awS0:Sim:=⟨[none,some awC0],[⟨0,1,0⟩],0,1,[.poll ⟨1,0,0,0⟩],0,[],[]⟩
def awT0:Sim:=⟨[none,some awC0],[],0,1,[.poll ⟨1,0,0,0⟩],0,[],[]⟩
theorem aw_new:newF pairS confA=awS0:=by kernel_rfl
def awHA (n:Int):Np:={ np0 with ver:=4,mode:=3,xmt:=n,poll:=4 }
def awCA (n:Int):Cl:={ awC0 with srcs:=[{ (sr0 awC0.cf) with sa:={ as4 with t1:=0,nonce:=n,pend:=true },sent:=0,rc:=rshift (sr0 awC0.cf).rc }] }
theorem aw_send {n:Int} (h:n≠0):clSend awC0 0 0 n=((awHA n,0),awCA n):=by
 have e:aSend (sr0 awC0.cf).sa 0 n=({ np0 with ver:=4,mode:=3,xmt:=n },0,{ as4 with t1:=0,nonce:=n,pend:=true }):=by
  unfold aSend;rw[if_pos (by kernel_rfl),if_neg h,if_neg (show ¬ n=(sr0 awC0.cf).sa.nonce from h)];rfl
 have e2:sSend (sr0 awC0.cf) 0 0 n=(awHA n,0,{ (sr0 awC0.cf) with sa:={ as4 with t1:=0,nonce:=n,pend:=true },sent:=0,rc:=rshift (sr0 awC0.cf).rc }):=by
  unfold sSend;rw[e];rfl
 have e3:clEnter awC0 0=(0,0,awC0):=by kernel_rfl
 unfold clSend;rw[if_pos (by kernel_rfl),e3];dsimp only;rw[if_pos rfl,show awC0.srcs.getD (0:Int).toNat (sr0 awC0.cf)=sr0 awC0.cf from rfl,e2];rfl
theorem aw_arv (R:List (Int × Int)):arvF R pairS 1 0 0 0=some 1000/\arvF R pairS 0 1 1000 0=some 2000:=by
 have key:∀ (d t n:Int),(d=0∨d=1)->arrF R ⟨0,1,1000,1000,0,0,0,0,[]⟩ d t n=some (t+1000):=fun d t n hd=>by
  unfold arrF noiF dlyF;dsimp only[List.foldl];have h0:pik (1000,1000) d=1000:=by unfold pik;split<;>rfl
  have h1:pik (0,0) d=0:=by unfold pik;split<;>rfl
  have h2:=(mixF_u (R:=R) 0 (4*n+2*d)).1;rw[h0,h1,if_neg (by omega)];simp
 exact⟨key 1 0 0 (.inr rfl),key 0 1000 0 (.inl rfl)⟩
def awS1 (n:Int):Sim:=⟨[none,some (awCA n)],[⟨1000,2,1⟩],0,2,[.poll ⟨1,0,0,0⟩,.req ⟨1,0,0,0⟩ (awHA n)],1,[],[⟨1,1,0,0,0⟩]⟩
theorem aw_poll (R:List (Int × Int)):pollF R pairS awT0 0 ⟨1,0,0,0⟩=awS1 (max (mixF R 0 0) 1):=by
 have hn:max (mixF R 0 0) 1≠0:=by omega
 unfold pollF;rw[show schF pairS awT0 (0+16000000000) (.poll ⟨1,0,0,0⟩)=awT0 by kernel_rfl];dsimp only;rw[show clOf awT0 1=some awC0 from rfl];dsimp only;rw[show rawF pairS 1 0=0 by kernel_rfl,show awT0.sent=0 from rfl,show pairS.sd=0 from rfl,aw_send hn];dsimp only;rw[show ∀ c,(setCl awT0 1 c).sent=0 from fun _=>rfl,if_pos rfl,(aw_arv R).1];rfl
def awHB (n:Int):Np:=⟨0,4,4,1,4,-20,(fldF ⟨1,0,100,1⟩).1,(fldF ⟨1,0,100,1⟩).2.1,1,0,n,ofS 3900000000000001000,ofS 3900000000000001000⟩
def awS2 (n:Int):Sim:=⟨[none,some (awCA n)],[⟨1000,3,2⟩],1000,3,[.poll ⟨1,0,0,0⟩,.req ⟨1,0,0,0⟩ (awHA n),.dep ⟨1,0,0,0⟩ (awHB n) ⟨900,1100⟩],1,[],[⟨1,1,0,0,0⟩,⟨2,0,1,0,1000⟩]⟩
theorem aw_req (n:Int):reqF pairS { awS1 n with q:=[],tm:=1000 } 1000 ⟨1,0,0,0⟩ (awHA n)=awS2 n:=by
 have e:ansF pairS { awS1 n with q:=[],tm:=1000 } 0 (awHA n) 1000=(awHB n,⟨900,1100⟩,true):=by kernel_rfl
 unfold reqF;rw[e];rfl
def awS3 (n:Int):Sim:=⟨[none,some (awCA n)],[⟨2000,4,3⟩],1000,4,[.poll ⟨1,0,0,0⟩,.req ⟨1,0,0,0⟩ (awHA n),.dep ⟨1,0,0,0⟩ (awHB n) ⟨900,1100⟩,.rep ⟨1,0,0,0⟩ (awHB n) ⟨900,1100⟩],1,[],[⟨1,1,0,0,0⟩,⟨2,0,1,0,1000⟩,⟨1,0,1,1,1000⟩]⟩
theorem aw_dep (R:List (Int × Int)) (n:Int):depF R pairS { awS2 n with q:=[],tm:=1000 } 1000 ⟨1,0,0,0⟩ (awHB n) ⟨900,1100⟩=awS3 n:=by
 unfold depF;rw[show arvF R pairS 0 1 1000 0=some 2000 from (aw_arv R).2];rfl
theorem aw_arecv (n:Int):aRecv { as4 with t1:=0,nonce:=n,pend:=true } (awHB n) 2000=(⟨7,⟨#[]⟩,⟨0,1000,1000,2000⟩⟩,{ as4 with t1:=0,nonce:=n,pend:=false,xmt:=ofS 3900000000000001000 }):=by
 have e:aRef { as4 with t1:=0,nonce:=n,pend:=true } (awHB n) 2000=none:=by
  unfold aRef;rw[if_pos ⟨by kernel_rfl,by kernel_rfl,by kernel_rfl,fun h=>absurd h.2 (show ¬ (2000:Int)<0 by decide)⟩];dsimp only;rw[if_pos rfl,if_pos (show (awHB n).org=n from rfl),if_neg (show ¬ ((awHB n).xmt≠0/\(awHB n).xmt=as4.xmt) from fun h=>absurd h.2 (show ¬ ofS 3900000000000001000=0 by decide))]
 unfold aRecv;rw[e];rfl
def awB2 (n:Int):Hd × Sr:=sRecv ((awCA n).srcs.getD 0 (sr0 (awCA n).cf)) 0 (awHB n) ⟨900,1100⟩ true 2000 2000 1 0
def awCB (n:Int):Cl:={ awCA n with last:=2000,srcs:=[(awB2 n).2] }
theorem aw_recv (n:Int):clRecv (awCA n) 0 (awHB n) ⟨900,1100⟩ true 2000=(((awB2 n).1,0),awCB n):=by kernel_rfl
theorem aw_b2 (n:Int):(awB2 n).1.kind=7/\(awB2 n).2.hp=true/\(awB2 n).2.prf=⟨900,3100⟩/\(awB2 n).2.pat=2000:=by
 unfold awB2;rw[show (awCA n).srcs.getD 0 (sr0 (awCA n).cf)={ (sr0 awC0.cf) with sa:={ as4 with t1:=0,nonce:=n,pend:=true },sent:=0,rc:=rshift (sr0 awC0.cf).rc } from rfl];unfold sRecv;dsimp only;rw[aw_arecv];exact⟨by kernel_rfl,by kernel_rfl,by kernel_rfl,by kernel_rfl⟩
theorem adR_prf (raw tol off jit:Int):∀ (ks:List Cd) (l:List Sr),(adR off jit ks l).map (prfC raw tol)=l.map (prfC raw tol)
 | [],_=>rfl
 |k::r,l=>by
  rw[adR,adR_prf raw tol off jit r];refine List.ext_getElem? fun i=>?_;rw[List.getElem?_map,List.getElem?_map,List.getElem?_modify]
  cases l[i]? with
  | none=>rfl
  | some y =>
   simp only[Option.map_eq_map,Option.map_some,Option.some.injEq];split<;>rfl
theorem str_prf {c:Cl} {raw now off:Int} {kept:List Cd} (r tol:Int):(strC c raw now off kept).2.2.srcs.map (prfC r tol)=c.srcs.map (prfC r tol)/\(strC c raw now off kept).2.2.cf=c.cf/\(strC c raw now off kept).2.2.own=c.own/\(strC c raw now off kept).2.2.owned=c.owned:=by
 unfold strC;split
 ·split
  ·split
   ·refine⟨?_,rfl,rfl,rfl⟩
    show (freshF (strM c now off kept)).map (prfC r tol)=_
    unfold freshF;rw[List.map_map];exact adR_prf r tol _ _ _ _
   ·exact⟨adR_prf r tol _ _ _ _,rfl,rfl,rfl⟩
  ·exact⟨adR_prf r tol _ _ _ _,rfl,rfl,rfl⟩
 ·exact⟨rfl,rfl,rfl,rfl⟩
theorem UpdX.prf {c c':Cl} {raw er:Int} {a:Ac} (hu:UpdX c raw a er c') (he:(clNow c raw).2=0) (r tol:Int):c'.srcs.map (prfC r tol)=c.srcs.map (prfC r tol)/\c'.cf=c.cf/\c'.own=renC c raw/\c'.owned=raw:=by
 have hB:(updB c raw).srcs=c.srcs/\(updB c raw).cf=c.cf/\(updB c raw).own=renC c raw/\(updB c raw).owned=raw:=by
  unfold updB;rw[clEnter_ok he];exact⟨rfl,rfl,rfl,rfl⟩
 rcases hu with ⟨h,_⟩|⟨_,⟨_,_,_,rfl⟩|⟨ins,hv,_,_,h⟩⟩
 ·rw[clEnter_ok he] at h
  exact absurd rfl h
 ·rw[hB.1]
  exact⟨rfl,hB.2.1,hB.2.2.1,hB.2.2.2⟩
 ·have:=str_prf (c:=updB c raw) (raw:=raw) (now:=(clEnter c raw).1) (off:=meanC (updK c raw ins)) (kept:=updK c raw ins) r tol
  rw[<-h] at this;dsimp only at this;rw[hB.1,hB.2.1,hB.2.2.1,hB.2.2.2] at this;exact this
theorem awB_now (n:Int):clNow (awCB n) 2000=(2000,0):=by kernel_rfl
theorem awB_prf (n:Int):(awCB n).srcs.map (prfC 2000 0)=[⟨900,3100⟩]:=by
 obtain⟨-,h1,h2,h3⟩:=aw_b2 n;show [prfC 2000 0 (awB2 n).2]=_
 unfold prfC;rw[if_pos h1,h2,h3];kernel_rfl
theorem awB_ren (n:Int):renC (awCB n) 2000=⟨900,3100⟩:=by
 unfold renC honC;rw[show (awCB n).cf.tol=0 from rfl,awB_prf,show ((awCB n).cf.servers-1) / 2=0 from rfl,honI_one (by decide),show agedC (awCB n).own (awCB n).owned 2000 0=⟨-4503599627368496,4503599627370496⟩ by kernel_rfl];simp only[Option.getD_some];rw[show meetI ⟨900,3100⟩ ⟨-4503599627368496,4503599627370496⟩=some ⟨900,3100⟩ by kernel_rfl];rfl
theorem awHB_ok {n:Int} (h0:0<=n) (h1:n<=18446744073709551615):npOk (awHB n):=
 ⟨show 0<=(fldF ⟨1,0,100,1⟩).1/\(fldF ⟨1,0,100,1⟩).1<=4294967295 by decide,show 0<=(fldF ⟨1,0,100,1⟩).2.1/\(fldF ⟨1,0,100,1⟩).2.1<=4294967295 by decide,show 0<=(1:Int)/\(1:Int)<=4294967295 by decide,⟨h0,h1⟩,show 0<=ofS 3900000000000001000/\ofS 3900000000000001000<=18446744073709551615 by decide,show 0<=ofS 3900000000000001000/\ofS 3900000000000001000<=18446744073709551615 by decide,show 0<=(0:Int)/\(0:Int)<=18446744073709551615 by decide⟩
theorem awB_u {n:Int} (h0:0<=n) (h1:n<=18446744073709551615):ClU (awCB n):=by
 have hn:=(ClV.new (c:=awC0.cf) (raw:=0) (by decide) (by decide)).u
 have hA:ClU (awCA n):=by
  refine⟨⟨hn.ok.ck,fun s hs=>?_,hn.ok.own,hn.ok.s0,hn.ok.s1,rfl⟩,hn.sv,fun s hs=>?_,hn.tol,hn.kp,hn.rd⟩
  ·obtain rfl:=List.mem_singleton.1 hs
   exact hn.ok.src (sr0 awC0.cf) (List.mem_singleton.2 rfl)
  ·obtain rfl:=List.mem_singleton.1 hs
   exact⟨(hn.g (sr0 awC0.cf) (List.mem_singleton.2 rfl)).fl,(hn.g (sr0 awC0.cf) (List.mem_singleton.2 rfl)).r1,(hn.g (sr0 awC0.cf) (List.mem_singleton.2 rfl)).r2⟩
 have:=hA.recv 0 (p:=awHB n) (awHB_ok h0 h1) ⟨900,1100⟩ true 2000;rw[aw_recv] at this;exact this
theorem aw_upd {n:Int} (h0:0<=n) (h1:n<=18446744073709551615) {a:Ac} {er:Int} {c2:Cl} (hu:UpdX (awCB n) 2000 a er c2):(clNow c2 2000).2=0/\itvC c2 2000=(⟨900,3100⟩,0):=by
 have hz:(clNow (awCB n) 2000).2=0:=by rw[awB_now]
 have h2:=((awB_u h0 h1).upd hu.R).2 hz
 have hz2:(clNow c2 2000).2=0:=by
  split at h2
  ·rw[h2.1]
  ·rw[h2.1,awB_now]
 obtain⟨k1,k2,k3,k4⟩:=hu.prf hz 2000 0;refine⟨hz2,?_⟩;unfold itvC;rw[if_pos hz2];unfold renC honC;rw[k2,k3,k4,show (awCB n).cf.tol=0 from rfl,k1,awB_prf,awB_ren,show ((awCB n).cf.servers-1) / 2=0 from rfl,honI_one (by decide),show agedC ⟨900,3100⟩ 2000 2000 0=⟨900,3100⟩ by kernel_rfl];simp only[Option.getD_some];rw[show meetI ⟨900,3100⟩ ⟨900,3100⟩=some ⟨900,3100⟩ by kernel_rfl];rfl
theorem StpR.at {R:List (Int × Int)} {s:Scn} {a b:Sim} (h:StpR R s a b) {x:Ev} {r:List Ev} (hq:a.q=x::r):match a.ev.getD x.x.toNat (.poll ⟨0,0,0,0⟩) with
  | .poll p=>b=pollF R s { a with q:=r,tm:=x.t } x.t p
  | .req p h=>b=reqF s { a with q:=r,tm:=x.t } x.t p h
  | .dep p h v=>b=depF R s { a with q:=r,tm:=x.t } x.t p h v
  | .rep p h v=>RepR s { a with q:=r,tm:=x.t } x.t p h v b:=by
 obtain⟨y,r',h1,h2⟩:=h;rw[hq] at h1
 cases h1
 exact h2
theorem RunR.go {R:List (Int × Int)} {s:Scn} {a c:Sim} (h:RunR R s a c) {x:Ev} {r:List Ev} (hq:a.q=x::r):∃ b,StpR R s a b/\RunR R s b c:=by
 cases h with
 | done h=>rw[hq] at h;cases h
 | step h k=>exact⟨_,h,k⟩
theorem aw_run {R:List (Int × Int)} {st:Sim} (h:RunR R pairS (newF pairS confA) st):∃ m,st.mks=[m]/\m.at_=2000/\m.nd=1/\m.kd=7/\m.lo=900/\m.hi=3100:=by
 rw[aw_new] at h;have hm:=mixF_u (R:=R) 0 0;obtain⟨b1,s1,k1⟩:=h.go (x:=⟨0,1,0⟩) (r:=[]) rfl;have e1:b1=awS1 (max (mixF R 0 0) 1):=(s1.at (x:=⟨0,1,0⟩) (r:=[]) rfl:b1=pollF R pairS { awS0 with q:=[],tm:=0 } 0 ⟨1,0,0,0⟩).trans (aw_poll R);have h0:0<=max (mixF R 0 0) 1:=by omega
 have h1:max (mixF R 0 0) 1<=18446744073709551615:=by omega
 generalize max (mixF R 0 0) 1=n at e1 h0 h1;subst e1;obtain⟨b2,s2,k2⟩:=k1.go (x:=⟨1000,2,1⟩) (r:=[]) rfl;obtain rfl:b2=awS2 n:=(s2.at (x:=⟨1000,2,1⟩) (r:=[]) rfl:b2=reqF pairS { awS1 n with q:=[],tm:=1000 } 1000 ⟨1,0,0,0⟩ (awHA n)).trans (aw_req n);obtain⟨b3,s3,k3⟩:=k2.go (x:=⟨1000,3,2⟩) (r:=[]) rfl;obtain rfl:b3=awS3 n:=(s3.at (x:=⟨1000,3,2⟩) (r:=[]) rfl:b3=depF R pairS { awS2 n with q:=[],tm:=1000 } 1000 ⟨1,0,0,0⟩ (awHB n) ⟨900,1100⟩).trans (aw_dep R n);obtain⟨b4,s4,k4⟩:=k3.go (x:=⟨2000,4,3⟩) (r:=[]) rfl;have e4:RepR pairS { awS3 n with q:=[],tm:=2000 } 2000 ⟨1,0,0,0⟩ (awHB n) ⟨900,1100⟩ b4:=s4.at (x:=⟨2000,4,3⟩) (r:=[]) rfl;unfold RepR at e4;rw[show clOf { awS3 n with q:=[],tm:=2000 } ({ c:=1,i:=0,s:=0,n:=0 }:Trp).c=some (awCA n) from rfl] at e4;dsimp only at e4;rw[show rawF pairS 1 2000=2000 by kernel_rfl,aw_recv] at e4;obtain⟨a,er,c2,hu,rfl⟩:=e4;obtain⟨q1,q2⟩:=aw_upd h0 h1 hu;dsimp only at k4;rw[if_pos q1,q2,(aw_b2 n).1] at k4
 cases k4 with
 | done _=>exact⟨_,rfl,rfl,rfl,rfl,rfl,rfl⟩
 | step h _ =>
  obtain⟨y,r',h1,_⟩:=h
  cases h1
end
section
open Go.Lib (hid)
set_option maxRecDepth 100000
set_option maxHeartbeats 8000000
open Go.RowKit Go.Sort
theorem row_blk {α:Type} {ec:α->List Value} {s:Nat} (hs:∀ x,(ec x).length=s) {w:World} {b n:Nat} {t:TypeId} {l:List α} (h:w.heap[b]? = some (.cells (l.flatMap ec).toArray t (0,0))) (hn:n=l.length) (hm:l.length<=maxLen):VRow ec s w (some ⟨b,0,none⟩) n n l:=by
 subst hn
 have hl:∀ l:List α,(l.flatMap ec).length=l.length*s:=by
  intro l;induction l with
  | nil=>simp
  | cons a r ih=>rw[List.flatMap_cons,List.length_append,ih,hs,List.length_cons,Nat.succ_mul,Nat.add_comm]
 refine RowAt.vrow hs ⟨_,h,hl l,Nat.le_refl _,hm,?_⟩ rfl;rw[<-hl];exact List.take_length
theorem pair_at {wo w:World} {b:Nat} (g:Got w [⟨b+1+1+1+1+1,[.int .i64 0,.int .i64 1,.int .i64 1000,.int .i64 1000,.int .i64 0,.int .i64 0,.int .i64 0,.int .u64 0,.slice none 0 0],81,true⟩,
  ⟨b+1+1+1+1,[.int .i64 0,.slice (some ⟨b+1,0,none⟩) 1 1,.int .i64 0,.bool true,.int .i64 100,.int .i64 0,.slice none 0 0,.int .i64 0,.slice (some ⟨b+1,0,none⟩) 1 1,.int .i64 0,.bool false,.int .i64 0,.int .i64 0,.slice (some ⟨b+1+1+1,0,none⟩) 1 1],54,true⟩,
  ⟨b+1+1+1,[.int .i64 0],3,true⟩,⟨b+1+1,[.int .i64 0,.slice (some ⟨b+1,0,none⟩) 1 1],51,true⟩,⟨b+1,[.int .i64 0,.int .i64 0],48,true⟩,
  ⟨b,[.slice (some ⟨b+1+1+1+1,0,none⟩) 2 2,.slice (some ⟨b+1+1+1+1+1,0,none⟩) 1 1,.slice none 0 0,.int .i64 1000000,.int .u64 0],27,true⟩]) (o:Only [] wo w) :
  ∃ s:ScW,Ending.returned (.agg #[.slice (some ⟨b+1+1+1+1,0,none⟩) 2 2,.slice (some ⟨b+1+1+1+1+1,0,none⟩) 1 1,.slice none 0 0,.int .i64 1000000,.int .u64 0])=.returned (scnV s)/\s.Ok w/\s.sc=pairS/\Only [] wo w:=by
 obtain⟨g1,g2,g3,-,g5,-⟩:=g
 refine⟨⟨[⟨⟨0,[⟨0,0⟩],0,true,100,0,[]⟩,some ⟨b+1,0,none⟩,1,none,0⟩,⟨⟨0,[⟨0,0⟩],0,false,0,0,[0]⟩,some ⟨b+1,0,none⟩,1,some ⟨b+1+1+1,0,none⟩,1⟩],
  [⟨⟨0,1,1000,1000,0,0,0,0,[]⟩,none,0⟩],[],1000000,0,some ⟨b+1+1+1+1,0,none⟩,2,some ⟨b+1+1+1+1+1,0,none⟩,1,none,0⟩,rfl,?_,rfl,o⟩
 have r5:VRow sgC 2 w (some ⟨b+1,0,none⟩) 1 1 [⟨0,0⟩]:=row_blk (ec:=sgC) (s:=2) (l:=[(⟨0,0⟩:Sg)]) (fun _=>rfl) g5 rfl (show 1<=maxLen by decide);have r3:VRow itC 1 w (some ⟨b+1+1+1,0,none⟩) 1 1 [0]:=row_blk (ec:=itC) (s:=1) (l:=[(0:Int)]) (fun _=>rfl) g3 rfl (show 1<=maxLen by decide);refine⟨row_blk (l:=[⟨⟨0,[⟨0,0⟩],0,true,100,0,[]⟩,some ⟨b+1,0,none⟩,1,none,0⟩,⟨⟨0,[⟨0,0⟩],0,false,0,0,[0]⟩,some ⟨b+1,0,none⟩,1,some ⟨b+1+1+1,0,none⟩,1⟩]) ndC_len g2 rfl (show 2<=maxLen by decide),row_blk (l:=[⟨⟨0,1,1000,1000,0,0,0,0,[]⟩,none,0⟩]) lkC_len g1 rfl (show 1<=maxLen by decide),vrow_nil w,fun x hx=>?_,fun x hx=>?_,show 2<=100000 by decide,show 1<=100000 by decide,show 0<=100000 by decide⟩
 ·simp only[List.mem_cons,List.not_mem_nil,or_false] at hx
  rcases hx with rfl|rfl
  ·exact⟨r5,vrow_nil w,show 1<=100000 by decide,show 0<=100000 by decide⟩
  ·exact⟨r5,r3,show 1<=100000 by decide,show 1<=100000 by decide⟩
 ·obtain rfl:=List.mem_singleton.1 hx
  exact⟨vrow_nil w,show 0<=100000 by decide⟩
theorem pPair (w:World) :
  Calls Tryz.prog 20 #[] w fun e w'=>∃ s:ScW,e=.returned (scnV s)/\s.Ok w'/\s.sc=pairS/\Only [] w w':=by
 have m:=mm0 w [];have k:=m.out.k;go_enter Tryz.func20,Tryz.ntmps20
 go_wp2_with (first|((with_reducible first|refine cU ?_|refine wU ?_);clear k m;intro w m k)|((with_reducible refine lE (fun w o g k K hK=>⟨rfl,?_⟩));simp[results,Tryz.results20,go_sem,k];refine hK _ ?_;exact pair_at g o))
theorem VRow.mrk {w wr:World} {cap k:Nat} {p:Option Addr} {l:List Mrk} (hv:VRow mkC 9 w p l.length cap l) (ho:Only [] w wr) (hk:k<l.length) :
  ∃ bk off,p=some ⟨bk,off,none⟩/\bk<wr.heap.size/\wr.cell? ⟨bk,off+k*9,none⟩=some (.int .i64 l[k].at_)/\wr.cell? ⟨bk,off+k*9+1,none⟩=some (.int .i64 l[k].nd)/\wr.cell? ⟨bk,off+k*9+2,none⟩=some (.int .i64 l[k].raw)/\wr.cell? ⟨bk,off+k*9+3,none⟩=some (.int .i64 l[k].clk)/\wr.cell? ⟨bk,off+k*9+4,none⟩=some (.int .i64 l[k].stp)/\wr.cell? ⟨bk,off+k*9+5,none⟩=some (.int .i64 l[k].lo)/\wr.cell? ⟨bk,off+k*9+6,none⟩=some (.int .i64 l[k].hi)/\wr.cell? ⟨bk,off+k*9+7,none⟩=some (.int .i64 l[k].kd)/\wr.cell? ⟨bk,off+k*9+8,none⟩=some (.int .i64 l[k].vl):=by
 obtain⟨b,off,hp,hb,hc⟩:=hv.cell k l[k] (List.getElem?_eq_getElem hk)
 have g:∀ j v,(mkC l[k])[j]? = some v->wr.cell? ⟨b,off+k*9+j,none⟩=some v:=fun j v hj=>by
  rw[ho.cell hb (by simp),Nat.add_assoc];exact hc j v hj
 exact⟨b,off,hp,Nat.lt_of_lt_of_le hb ho.size,g 0 _ rfl,g 1 _ rfl,g 2 _ rfl,g 3 _ rfl,g 4 _ rfl,g 5 _ rfl,g 6 _ rfl,g 7 _ rfl,g 8 _ rfl⟩
theorem pAwake {w:World} {R:List (Int × Int)} (hR:Rnds w R) :
  Calls Tryz.prog 9 #[] w fun e w'=>e=.returned (.bool true)/\Only [] w w':=by
 have HR:=hid hR;clear hR;obtain⟨wo,hwo⟩:∃ wo:World,wo=w:=⟨_,rfl⟩;subst hwo;have m:=mm0 wo [];have k:=m.out.k;go_enter Tryz.func9,Tryz.ntmps9
 go_wp2_with ((with_reducible first|refine cU ?_|refine wU ?_);clear k m;intro w m k)
 refine (pPair _).mono ?_;rintro r w2 ⟨s,rfl,hs,hsc,o2⟩;have HRUN:=hid (fun w' (o:Only [] w2 w')=>pNRun s confA (hs.kept o) (HR.out.kept ((m.out.only.nil_trans o2).nil_trans o)));have OO:=hid (m.out.only.nil_trans o2);have HSC:=hid hsc;clear k m HR hs hsc o2;have HCF:=hid (fun w'=>pConf w');unfold scnV cfV confA at *;dsimp only at HRUN HCF ⊢;have m:=mm0 w2 [];have k:=m.out.k;go_wp2_with ((with_reducible first|refine cM (HCF.out _) ?_|refine cU ?_|refine wU ?_);clear k m;intro w m k)
 refine (HRUN.out _ gO).mono ?_;rintro r w3 ⟨hr,o3⟩;unfold NRunR at hr;rw[HSC.out] at hr;rcases hr with ⟨hz,-⟩|⟨-,st,v,hrun,rfl,own⟩
 ·exact absurd pair_chk hz
 obtain⟨mk,hmk,e0,e1,e2,e3,e4⟩:=aw_run hrun;obtain⟨p,cap,rfl,hv⟩:=own.vrow mkC_len;rw[hmk] at hv ⊢;obtain⟨bk,off,rfl,-⟩:=hv.mrk (k:=0) (Only.refl [] w3) (by simp)
 have HX:=hid (show ∀ w',Only [] w3 w'->bk<w'.heap.size/\w'.cell? ⟨bk,off,none⟩=some (.int .i64 2000)/\w'.cell? ⟨bk,off+1,none⟩=some (.int .i64 1)/\w'.cell? ⟨bk,off+5,none⟩=some (.int .i64 900)/\w'.cell? ⟨bk,off+6,none⟩=some (.int .i64 3100)/\w'.cell? ⟨bk,off+7,none⟩=some (.int .i64 7) from fun w' o=>by
  obtain⟨b',o',e,c0,c1,c2,c3,c4,c5,c6,c7,c8,c9⟩:=hv.mrk (k:=0) o (by simp)
  cases e
  simp only[List.getElem_cons_zero,Nat.zero_mul,Nat.add_zero] at c1 c2 c6 c7 c8;exact⟨c0,by rw[c1,e0],by rw[c2,e1],by rw[c6,e3],by rw[c7,e4],by rw[c8,e2]⟩)
 have OX:=hid ((OO.out.nil_trans m.out.only).nil_trans o3);rw[show [mk].length=1 from rfl];clear m k HRUN HCF hrun own hv hmk e0 e1 e2 e3 e4 mk st o3;have m:=mm0 w3 [];have k:=m.out.k;have c:=HX.out w3 (Only.refl [] w3);go_wp2_with (first|((with_reducible first|refine cU ?_|refine wU ?_);clear k m c;intro w m k;have c:=HX.out w m.out.only)|((with_reducible refine lE (fun w o g k K hK=>⟨rfl,?_⟩));simp[results,Tryz.results9,go_sem];refine hK _ ?_;exact⟨rfl,OX.out.nil_trans o⟩))
end
end Go.Proofs.YtppjhbjmfkiejaaGreat
