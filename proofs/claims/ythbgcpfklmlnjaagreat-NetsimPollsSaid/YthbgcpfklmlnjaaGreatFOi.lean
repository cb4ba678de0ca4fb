/- Oi Oj Ok -/
import Derived.Test.YthbgcpfklmlnjaaGreatFOg
namespace Go.Proofs.YthbgcpfklmlnjaaGreat
set_option linter.all false
open List (mem_singleton)
set_option maxRecDepth 100000
set_option maxHeartbeats 8000000
open Go.RowKit Go.Sort
section
open Go.Lib (hid)
def SgP (n:Nat) (s:dU):Prop:=∀ i<n,(s.nd.getD i aU).n.sg.length<=100/\(s.nd.getD i aU).n.sv.length<=100
def ChP (n:Nat) (s:dU):Prop:=∀ i<n,(s.lk.getD i iE).l.ch.length<=100
def NR (s:dU):Prop:=s.nd.length<=60/\s.lk.length<=100/\s.ft.length<=100/\SgP s.nd.length s/\ChP s.lk.length s
theorem SgP.up {s:dU} {n:Nat} (h:SgP n s) (h1:(s.nd.getD n aU).n.sg.length<=100) (h2:(s.nd.getD n aU).n.sv.length<=100):SgP (n+1) s:=fun i hi=>by
 by_cases e:i=n
 ·subst e;exact⟨h1,h2⟩
 ·exact h i (by omega)
theorem ChP.up {s:dU} {n:Nat} (h:ChP n s) (h1:(s.lk.getD n iE).l.ch.length<=100):ChP (n+1) s:=fun i hi=>by
 by_cases e:i=n
 ·subst e;exact h1
 ·exact h i (by omega)
theorem pFew {w:World} (s:dU) (h1:aS ndC 7 w s.pn s.nd.length s.cn s.nd) (h2:aS lkC 9 w s.pl s.lk.length s.cl s.lk) :
  Calls Tryz.prog 4 #[fZ s] w fun e w'=>∃ b,e=.returned (.bool b)/\(b=true->NR s)/\Only [] w w':=by
 have HSN:=hid h1;have HSL:=hid h2;clear h1 h2;have HP:Hid ((s.nd.length<=60/\s.lk.length<=100/\s.ft.length<=100)->SgP s.nd.length s->ChP s.lk.length s->NR s):=hid (fun h h1 h2=>⟨h.1,h.2.1,h.2.2,h1,h2⟩);unfold fZ;obtain⟨wo,hwo⟩:∃ wo:World,wo=w:=⟨_,rfl⟩;subst hwo;have m:=dD wo [];have k:=m.out.k;by_cases g1:60<s.nd.length
 ·have d1:decide (60<(s.nd.length:Int))=true:=dF (by omega)
  go_enter Tryz.func4,Tryz.ntmps4
  go_wp2_with (first|((with_reducible first|refine cU ?_|refine wU ?_);clear k m;intro w m k)|((with_reducible refine lE (fun w o g k K hK=>⟨rfl,?_⟩));simp[results,Tryz.results4,go_sem];refine hK _ ?_;exact⟨_,rfl,nofun,o⟩))
 have d1:decide (60<(s.nd.length:Int))=false:=bR (by omega);by_cases g2:100<s.lk.length
 ·have d2:decide (100<(s.lk.length:Int))=true:=dF (by omega)
  go_enter Tryz.func4,Tryz.ntmps4
  go_wp2_with (first|((with_reducible first|refine cU ?_|refine wU ?_);clear k m;intro w m k)|((with_reducible refine lE (fun w o g k K hK=>⟨rfl,?_⟩));simp[results,Tryz.results4,go_sem];refine hK _ ?_;exact⟨_,rfl,nofun,o⟩))
 have d2:decide (100<(s.lk.length:Int))=false:=bR (by omega);by_cases g3:100<s.ft.length
 ·have d3:decide (100<(s.ft.length:Int))=true:=dF (by omega)
  go_enter Tryz.func4,Tryz.ntmps4
  go_wp2_with (first|((with_reducible first|refine cU ?_|refine wU ?_);clear k m;intro w m k)|((with_reducible refine lE (fun w o g k K hK=>⟨rfl,?_⟩));simp[results,Tryz.results4,go_sem];refine hK _ ?_;exact⟨_,rfl,nofun,o⟩))
 have d3:decide (100<(s.ft.length:Int))=false:=bR (by omega);go_enter Tryz.func4,Tryz.ntmps4
 go_wp2_with ((with_reducible first|refine cU ?_|refine wU ?_);clear k m;intro w m k)
 have OB:=hid m.out.only;have hbx:=gB (w:=w) (b:=wo.heap.size);generalize wo.heap.size=bs at hbx |-;have HBX:=hid hbx;clear k m hbx;obtain⟨wl,hwl⟩:∃ wl:World,wl=w:=⟨_,rfl⟩;subst hwl;go_loopw [26] (fun vi wr=>∃ i:Nat,i<=s.nd.length/\vi=.int .i64 i/\SgP i s/\Only [] wl wr) (fun vi _=>s.nd.length-(intOf vi).toNat)
 case atStart=>exact⟨0,Nat.zero_le _,rfl,fun i hi=>absurd hi (by omega),Only.refl _ _⟩
 case round =>
  obtain⟨i,hi,rfl,hsp,ho⟩:=hrel;have OO:=hid ho;have hb:=ho.got HBX.out (by simp);by_cases hlt:i<s.nd.length
  ·have hlt2:(i:Int)<(s.nd.length:Int):=by omega
   obtain⟨bk,off,hpn,-⟩:=HSN.out.nd (Only.refl [] wo) hlt
   have HX:=hid (show ∀ w',Only [] wr w'->bk<w'.heap.size/\w'.cell? ⟨bk,off+i*7,none⟩=some (.int .i64 (s.nd.getD i aU).n.ph)/\w'.cell? ⟨bk,off+i*7+1,none⟩=some (.slice (s.nd.getD i aU).ps (s.nd.getD i aU).n.sg.length (s.nd.getD i aU).cs)/\w'.cell? ⟨bk,off+i*7+2,none⟩=some (.int .i64 (s.nd.getD i aU).n.tol)/\w'.cell? ⟨bk,off+i*7+3,none⟩=some (.bool (s.nd.getD i aU).n.rf)/\w'.cell? ⟨bk,off+i*7+4,none⟩=some (.int .i64 (s.nd.getD i aU).n.er)/\w'.cell? ⟨bk,off+i*7+5,none⟩=some (.int .i64 (s.nd.getD i aU).n.st)/\w'.cell? ⟨bk,off+i*7+6,none⟩=some (.slice (s.nd.getD i aU).pv (s.nd.getD i aU).n.sv.length (s.nd.getD i aU).cv) from fun w' o=>by
    obtain⟨b',o',e,c1,c2,c3,c4,c5,c6,c7,c8⟩:=HSN.out.nd ((OB.out.aB OO.out).aB o) hlt;rw[hpn] at e
    cases e
    exact⟨c1,c2,c3,c4,c5,c6,c7,c8⟩)
   rw[hpn];rw[hpn] at hb;have ei:IntKind.i64.wrap ((i:Int)+1)=((i+1:Nat):Int):=by rw[IntKind.wrap_i64];omega
   have hsl:=hlt;have HUP:=hid (fun h1 h2=>SgP.up (n:=i) hsp h1 h2);clear hsp;generalize s.nd.getD i aU=nd at HX HUP;obtain⟨⟨x1,x2,x3,x4,x5,x6,x7⟩,ps,cs,pv,cv⟩:=nd;dsimp only at HX HUP;have m:=mY hb;have k:=m.out.k;have c:=HX.out wr (Only.refl _ _);clear hb ho;by_cases h1:100<x2.length
   ·have e1:decide (100<(x2.length:Int))=true:=dF (by omega)
    go_wp2_with (first|((with_reducible first|refine cU ?_|refine wU ?_);clear k m c;intro w m k;have c:=HX.out w m.out.only)|((with_reducible refine lE (fun w o g k K hK=>⟨rfl,?_⟩));simp[results,Tryz.results4,go_sem];refine hK _ ?_;exact⟨_,rfl,nofun,(OB.out.aB OO.out).aB o⟩))
   have e1:decide (100<(x2.length:Int))=false:=bR (by omega);by_cases h2:100<x7.length
   ·have e2:decide (100<(x7.length:Int))=true:=dF (by omega)
    go_wp2_with (first|((with_reducible first|refine cU ?_|refine wU ?_);clear k m c;intro w m k;have c:=HX.out w m.out.only)|((with_reducible refine lE (fun w o g k K hK=>⟨rfl,?_⟩));simp[results,Tryz.results4,go_sem];refine hK _ ?_;exact⟨_,rfl,nofun,(OB.out.aB OO.out).aB o⟩))
   ·have e2:decide (100<(x7.length:Int))=false:=bR (by omega)
    go_wp2_with (first|((with_reducible first|refine cU ?_|refine wU ?_);clear k m c;intro w m k;have c:=HX.out w m.out.only)|(go_roundw;(case rel=>exact⟨i+1,by omega,by go_num,HUP.out (by omega) (by omega),OO.out.trans gO (by simp)⟩);(case measure=>first|(simp[intOf];done)|(simp[intOf];omega))))
  ·obtain rfl:i=s.nd.length:=by omega
   have HSG:=hid hsp;clear hsp;have hlt2:decide ((s.nd.length:Int)<(s.nd.length:Int))=false:=by simp
   have HB2:=hid hb;have OB2:=hid (OB.out.aB OO.out);have m:=mY hb;have k:=m.out.k;clear hb ho;go_wp2_with ((with_reducible first|refine cU ?_|refine wU ?_);clear k m;intro w m k)
   clear k m;obtain⟨wm,hwm⟩:∃ wm:World,wm=wr:=⟨_,rfl⟩;subst hwm;go_loopw [45] (fun vi wr=>∃ i:Nat,i<=s.lk.length/\vi=.int .i64 i/\ChP i s/\Only [] wm wr) (fun vi _=>s.lk.length-(intOf vi).toNat)
   case atStart=>exact⟨0,Nat.zero_le _,rfl,fun i hi=>absurd hi (by omega),Only.refl _ _⟩
   case round =>
    obtain⟨i,hi,rfl,hsp,ho⟩:=hrel;have O3:=hid ho;have hb:=ho.got HB2.out (by simp);by_cases hlt:i<s.lk.length
    ·have hlt3:(i:Int)<(s.lk.length:Int):=by omega
     obtain⟨bk,off,hpl,-⟩:=HSL.out.lk (Only.refl [] wo) hlt
     have HX:=hid (show ∀ w',Only [] wr w'->bk<w'.heap.size/\w'.cell? ⟨bk,off+i*9,none⟩=some (.int .i64 (s.lk.getD i iE).l.A)/\w'.cell? ⟨bk,off+i*9+1,none⟩=some (.int .i64 (s.lk.getD i iE).l.B)/\w'.cell? ⟨bk,off+i*9+2,none⟩=some (.int .i64 (s.lk.getD i iE).l.d0)/\w'.cell? ⟨bk,off+i*9+3,none⟩=some (.int .i64 (s.lk.getD i iE).l.d1)/\w'.cell? ⟨bk,off+i*9+4,none⟩=some (.int .i64 (s.lk.getD i iE).l.v0)/\w'.cell? ⟨bk,off+i*9+5,none⟩=some (.int .i64 (s.lk.getD i iE).l.v1)/\w'.cell? ⟨bk,off+i*9+6,none⟩=some (.int .i64 (s.lk.getD i iE).l.lo)/\w'.cell? ⟨bk,off+i*9+7,none⟩=some (.int .u64 (s.lk.getD i iE).l.sd)/\w'.cell? ⟨bk,off+i*9+8,none⟩=some (.slice (s.lk.getD i iE).p (s.lk.getD i iE).l.ch.length (s.lk.getD i iE).c) from fun w' o=>by
      obtain⟨b',o',e,c1,c2,c3,c4,c5,c6,c7,c8,c9,c10⟩:=HSL.out.lk ((OB2.out.aB O3.out).aB o) hlt;rw[hpl] at e
      cases e
      exact⟨c1,c2,c3,c4,c5,c6,c7,c8,c9,c10⟩)
     rw[hpl];rw[hpl] at hb;have ei:IntKind.i64.wrap ((i:Int)+1)=((i+1:Nat):Int):=by rw[IntKind.wrap_i64];omega
     have hsl:=hlt;have HUP:=hid (fun h1=>ChP.up (n:=i) hsp h1);clear hsp;generalize s.lk.getD i iE=nd at HX HUP;obtain⟨⟨x1,x2,x3,x4,x5,x6,x7,x8,x9⟩,ps,cs⟩:=nd;dsimp only at HX HUP;have m:=mY hb;have k:=m.out.k;have c:=HX.out wr (Only.refl _ _);clear hb ho;by_cases h1:100<x9.length
     ·have e1:decide (100<(x9.length:Int))=true:=dF (by omega)
      go_wp2_with (first|((with_reducible first|refine cU ?_|refine wU ?_);clear k m c;intro w m k;have c:=HX.out w m.out.only)|((with_reducible refine lE (fun w o g k K hK=>⟨rfl,?_⟩));simp[results,Tryz.results4,go_sem];refine hK _ ?_;exact⟨_,rfl,nofun,(OB2.out.aB O3.out).aB o⟩))
     ·have e1:decide (100<(x9.length:Int))=false:=bR (by omega)
      go_wp2_with (first|((with_reducible first|refine cU ?_|refine wU ?_);clear k m c;intro w m k;have c:=HX.out w m.out.only)|(go_roundw;(case rel=>exact⟨i+1,by omega,by go_num,HUP.out (by omega),O3.out.trans gO (by simp)⟩);(case measure=>first|(simp[intOf];done)|(simp[intOf];omega))))
    ·obtain rfl:i=s.lk.length:=by omega
     have HFP:=hid (HP.out ⟨by omega,by omega,by omega⟩ HSG.out hsp);clear hsp;have hlt3:decide ((s.lk.length:Int)<(s.lk.length:Int))=false:=by simp
     have m:=mY hb;have k:=m.out.k;clear hb ho;go_wp2_with (first|((with_reducible first|refine cU ?_|refine wU ?_);clear k m;intro w m k)|((with_reducible refine lE (fun w o g k K hK=>⟨rfl,?_⟩));simp[results,Tryz.results4,go_sem];refine hK _ ?_;exact⟨_,rfl,fun _=>HFP.out,(OB2.out.aB O3.out).aB o⟩))
def BZ:Cf:=⟨1,0,1,3,⟨65536,655,500000,0,0⟩,500000,4,6⟩
theorem pConf  (w:World) :
  Calls Tryz.prog 12 #[] w fun e w'=>e=.returned (QO BZ)/\Only [] w w':=by
 unfold QO BZ;dsimp only;have m:=dD w [];have k:=m.out.k;go_enter Tryz.func12,Tryz.ntmps12
 go_wp2_with (first|((with_reducible refine wU ?_);clear k m;intro w m k)|((with_reducible refine lE (fun w o g k K hK=>⟨rfl,?_⟩));simp[results,Tryz.results12,go_sem,k];refine hK _ ?_;exact⟨rfl,o⟩))
end
section
def iA:fC:=⟨[⟨0,[⟨0,0⟩],0,true,100,0,[]⟩,⟨0,[⟨0,0⟩],0,false,0,0,[0]⟩],[⟨0,1,1000,1000,0,0,0,0,[]⟩],[],1000000,0⟩
theorem WL:nK iA BZ=0:=by kernel_rfl
def kJ:Cl:=G9 ⟨1,0,1,3,⟨65536,655,500000,0,0⟩,500000,4,6⟩ 0 0
def awS0:bS:=⟨[none,some kJ],[⟨0,1,0⟩],0,1,[.poll ⟨1,0,0,0⟩],0,[],[]⟩
def TS:bS:=⟨[none,some kJ],[],0,1,[.poll ⟨1,0,0,0⟩],0,[],[]⟩
theorem aw_new:newF iA BZ=awS0:=by kernel_rfl
def KW (n:Int):Np:={ yC with ver:=4,mode:=3,xmt:=n,poll:=4 }
def yK (n:Int):Cl:={ kJ with srcs:=[{ (o9 kJ.cf) with sa:={ UJ with t1:=0,nonce:=n,pend:=true },sent:=0,rc:=oG (o9 kJ.cf).rc }] }
theorem aw_send {n:Int} (h:n≠0):dL kJ 0 0 n=((KW n,0),yK n):=by
 have e:lK (o9 kJ.cf).sa 0 n=({ yC with ver:=4,mode:=3,xmt:=n },0,{ UJ with t1:=0,nonce:=n,pend:=true }):=by
  unfold lK;rw[if_pos (by kernel_rfl),if_neg h,if_neg (show ¬ n=(o9 kJ.cf).sa.nonce from h)];rfl
 have e2:gZ (o9 kJ.cf) 0 0 n=(KW n,0,{ (o9 kJ.cf) with sa:={ UJ with t1:=0,nonce:=n,pend:=true },sent:=0,rc:=oG (o9 kJ.cf).rc }):=by
  unfold gZ;rw[e];rfl
 have e3:aH kJ 0=(0,0,kJ):=by kernel_rfl
 unfold dL;rw[if_pos (by kernel_rfl),e3];dsimp only;rw[if_pos rfl,show kJ.srcs.getD (0:Int).toNat (o9 kJ.cf)=o9 kJ.cf from rfl,e2];rfl
theorem ZT (R:List (Int × Int)):wX R iA 1 0 0 0=some 1000/\wX R iA 0 1 1000 0=some 2000:=by
 have key:∀ (d t n:Int),(d=0\/d=1)->K3 R ⟨0,1,1000,1000,0,0,0,0,[]⟩ d t n=some (t+1000):=fun d t n hd=>by
  unfold K3 GI wS;dsimp only[List.foldl];have h0:F8 (1000,1000) d=1000:=by unfold F8;split<;>rfl
  have h1:F8 (0,0) d=0:=by unfold F8;split<;>rfl
  have h2:=(wJ (R:=R) 0 (4*n+2*d)).1;rw[h0,h1,if_neg (by omega)];simp
 exact⟨key 1 0 0 (.inr rfl),key 0 1000 0 (.inl rfl)⟩
def ZV (n:Int):bS:=⟨[none,some (yK n)],[⟨1000,2,1⟩],0,2,[.poll ⟨1,0,0,0⟩,.req ⟨1,0,0,0⟩ (KW n)],1,[],[⟨1,1,0,0,0⟩]⟩
theorem aw_poll (R:List (Int × Int)):pF R iA TS 0 ⟨1,0,0,0⟩=ZV (max (gL R 0 0) 1):=by
 have hn:max (gL R 0 0) 1≠0:=by omega
 unfold pF;rw[show eX iA TS (0+16000000000) (.poll ⟨1,0,0,0⟩)=TS by kernel_rfl];dsimp only;rw[show gQ TS 1=some kJ from rfl];dsimp only;rw[show bO iA 1 0=0 by kernel_rfl,show TS.sent=0 from rfl,show iA.sd=0 from rfl,aw_send hn];dsimp only;rw[show ∀ c,(dO TS 1 c).sent=0 from fun _=>rfl,if_pos rfl,(ZT R).1];rfl
def rV (n:Int):Np:=⟨0,4,4,1,4,-20,(qP ⟨1,0,100,1⟩).1,(qP ⟨1,0,100,1⟩).2.1,1,0,n,lU 3900000000000001000,lU 3900000000000001000⟩
def awS2 (n:Int):bS:=⟨[none,some (yK n)],[⟨1000,3,2⟩],1000,3,[.poll ⟨1,0,0,0⟩,.req ⟨1,0,0,0⟩ (KW n),.dep ⟨1,0,0,0⟩ (rV n) ⟨900,1100⟩],1,[],[⟨1,1,0,0,0⟩,⟨2,0,1,0,1000⟩]⟩
theorem aw_req (n:Int):rQ iA { ZV n with q:=[],tm:=1000 } 1000 ⟨1,0,0,0⟩ (KW n)=awS2 n:=by
 have e:fA iA { ZV n with q:=[],tm:=1000 } 0 (KW n) 1000=(rV n,⟨900,1100⟩,true):=by kernel_rfl
 unfold rQ;rw[e];rfl
def awS3 (n:Int):bS:=⟨[none,some (yK n)],[⟨2000,4,3⟩],1000,4,[.poll ⟨1,0,0,0⟩,.req ⟨1,0,0,0⟩ (KW n),.dep ⟨1,0,0,0⟩ (rV n) ⟨900,1100⟩,.rep ⟨1,0,0,0⟩ (rV n) ⟨900,1100⟩],1,[],[⟨1,1,0,0,0⟩,⟨2,0,1,0,1000⟩,⟨1,0,1,1,1000⟩]⟩
theorem aw_dep (R:List (Int × Int)) (n:Int):BU R iA { awS2 n with q:=[],tm:=1000 } 1000 ⟨1,0,0,0⟩ (rV n) ⟨900,1100⟩=awS3 n:=by
 unfold BU;rw[show wX R iA 0 1 1000 0=some 2000 from (ZT R).2];rfl
theorem ZU (n:Int):jP { UJ with t1:=0,nonce:=n,pend:=true } (rV n) 2000=(⟨7,⟨#[]⟩,⟨0,1000,1000,2000⟩⟩,{ UJ with t1:=0,nonce:=n,pend:=false,xmt:=lU 3900000000000001000 }):=by
 have e:yO { UJ with t1:=0,nonce:=n,pend:=true } (rV n) 2000=none:=by
  unfold yO;rw[if_pos ⟨by kernel_rfl,by kernel_rfl,by kernel_rfl,fun h=>absurd h.2 (show ¬ (2000:Int)<0 by decide)⟩];dsimp only;rw[if_pos rfl,if_pos (show (rV n).org=n from rfl),if_neg (show ¬ ((rV n).xmt≠0/\(rV n).xmt=UJ.xmt) from fun h=>absurd h.2 (show ¬ lU 3900000000000001000=0 by decide))]
 unfold jP;rw[e];rfl
def KX (n:Int):Hd × Sr:=j6 ((yK n).srcs.getD 0 (o9 (yK n).cf)) 0 (rV n) ⟨900,1100⟩ true 2000 2000 1 0
def wW (n:Int):Cl:={ yK n with last:=2000,srcs:=[(KX n).2] }
theorem QV (n:Int):fF (yK n) 0 (rV n) ⟨900,1100⟩ true 2000=(((KX n).1,0),wW n):=by kernel_rfl
theorem aw_b2 (n:Int):(KX n).1.kind=7/\(KX n).2.hp=true/\(KX n).2.prf=⟨900,3100⟩/\(KX n).2.pat=2000:=by
 unfold KX;rw[show (yK n).srcs.getD 0 (o9 (yK n).cf)={ (o9 kJ.cf) with sa:={ UJ with t1:=0,nonce:=n,pend:=true },sent:=0,rc:=oG (o9 kJ.cf).rc } from rfl];unfold j6;dsimp only;rw[ZU];exact⟨by kernel_rfl,by kernel_rfl,by kernel_rfl,by kernel_rfl⟩
theorem zN (raw tol off jit:Int):∀ (ks:List Cd) (l:List Sr),(DW off jit ks l).map (jJ raw tol)=l.map (jJ raw tol)
 | [],_=>rfl
 |k::r,l=>by
  rw[DW,zN raw tol off jit r];refine List.ext_getElem? fun i=>?_;rw[List.getElem?_map,List.getElem?_map,List.getElem?_modify]
  cases l[i]? with
  | none=>rfl
  | some y =>
   simp only[Option.map_eq_map,Option.map_some,Option.some.injEq];split<;>rfl
theorem str_prf {c:Cl} {raw now off:Int} {kept:List Cd} (r tol:Int):(iV c raw now off kept).2.2.srcs.map (jJ r tol)=c.srcs.map (jJ r tol)/\(iV c raw now off kept).2.2.cf=c.cf/\(iV c raw now off kept).2.2.own=c.own/\(iV c raw now off kept).2.2.owned=c.owned:=by
 unfold iV;split
 ·split
  ·split
   ·refine⟨?_,rfl,rfl,rfl⟩
    show (gI (pK c now off kept)).map (jJ r tol)=_
    unfold gI;rw[List.map_map];exact zN r tol _ _ _ _
   ·exact⟨zN r tol _ _ _ _,rfl,rfl,rfl⟩
  ·exact⟨zN r tol _ _ _ _,rfl,rfl,rfl⟩
 ·exact⟨rfl,rfl,rfl,rfl⟩
theorem yQ.prf {c c':Cl} {raw er:Int} {a:Ac} (hu:yQ c raw a er c') (he:(aY c raw).2=0) (r tol:Int):c'.srcs.map (jJ r tol)=c.srcs.map (jJ r tol)/\c'.cf=c.cf/\c'.own=uR c raw/\c'.owned=raw:=by
 have hB:(fH c raw).srcs=c.srcs/\(fH c raw).cf=c.cf/\(fH c raw).own=uR c raw/\(fH c raw).owned=raw:=by
  unfold fH;rw[jF he];exact⟨rfl,rfl,rfl,rfl⟩
 rcases hu with ⟨h,_⟩|⟨_,⟨_,_,_,rfl⟩|⟨ins,hv,_,_,h⟩⟩
 ·rw[jF he] at h
  exact absurd rfl h
 ·rw[hB.1]
  exact⟨rfl,hB.2.1,hB.2.2.1,hB.2.2.2⟩
 ·have:=str_prf (c:=fH c raw) (raw:=raw) (now:=(aH c raw).1) (off:=gU (mK c raw ins)) (kept:=mK c raw ins) r tol
  rw[<-h] at this;dsimp only at this;rw[hB.1,hB.2.1,hB.2.2.1,hB.2.2.2] at this;exact this
theorem QX (n:Int):aY (wW n) 2000=(2000,0):=by kernel_rfl
theorem QW (n:Int):(wW n).srcs.map (jJ 2000 0)=[⟨900,3100⟩]:=by
 obtain⟨-,h1,h2,h3⟩:=aw_b2 n;show [jJ 2000 0 (KX n).2]=_
 unfold jJ;rw[if_pos h1,h2,h3];kernel_rfl
theorem awB_ren (n:Int):uR (wW n) 2000=⟨900,3100⟩:=by
 unfold uR DN;rw[show (wW n).cf.tol=0 from rfl,QW,show ((wW n).cf.servers-1) / 2=0 from rfl,J4 (by decide),show lJ (wW n).own (wW n).owned 2000 0=⟨-4503599627368496,4503599627370496⟩ by kernel_rfl];simp only[Option.getD_some];rw[show vD ⟨900,3100⟩ ⟨-4503599627368496,4503599627370496⟩=some ⟨900,3100⟩ by kernel_rfl];rfl
theorem awHB_ok {n:Int} (h0:0<=n) (h1:n<=18446744073709551615):eP (rV n):=
 ⟨show 0<=(qP ⟨1,0,100,1⟩).1/\(qP ⟨1,0,100,1⟩).1<=4294967295 by decide,show 0<=(qP ⟨1,0,100,1⟩).2.1/\(qP ⟨1,0,100,1⟩).2.1<=4294967295 by decide,show 0<=(1:Int)/\(1:Int)<=4294967295 by decide,⟨h0,h1⟩,show 0<=lU 3900000000000001000/\lU 3900000000000001000<=18446744073709551615 by decide,show 0<=lU 3900000000000001000/\lU 3900000000000001000<=18446744073709551615 by decide,show 0<=(0:Int)/\(0:Int)<=18446744073709551615 by decide⟩
theorem awB_u {n:Int} (h0:0<=n) (h1:n<=18446744073709551615):pJ (wW n):=by
 have hn:=(xP.new (c:=kJ.cf) (raw:=0) (by decide) (by decide)).u
 have hA:pJ (yK n):=by
  refine⟨⟨hn.ok.ck,fun s hs=>?_,hn.ok.own,hn.ok.s0,hn.ok.s1,rfl⟩,hn.sv,fun s hs=>?_,hn.tol,hn.kp,hn.rd⟩
  ·obtain rfl:=mem_singleton.1 hs
   exact hn.ok.src (o9 kJ.cf) (mem_singleton.2 rfl)
  ·obtain rfl:=mem_singleton.1 hs
   exact⟨(hn.g (o9 kJ.cf) (mem_singleton.2 rfl)).fl,(hn.g (o9 kJ.cf) (mem_singleton.2 rfl)).r1,(hn.g (o9 kJ.cf) (mem_singleton.2 rfl)).r2⟩
 have:=hA.recv 0 (p:=rV n) (awHB_ok h0 h1) ⟨900,1100⟩ true 2000;rw[QV] at this;exact this
theorem aw_upd {n:Int} (h0:0<=n) (h1:n<=18446744073709551615) {a:Ac} {er:Int} {c2:Cl} (hu:yQ (wW n) 2000 a er c2):(aY c2 2000).2=0/\nN c2 2000=(⟨900,3100⟩,0):=by
 have hz:(aY (wW n) 2000).2=0:=by rw[QX]
 have h2:=((awB_u h0 h1).upd hu.R).2 hz
 have hz2:(aY c2 2000).2=0:=by
  split at h2
  ·rw[h2.1]
  ·rw[h2.1,QX]
 obtain⟨k1,k2,k3,k4⟩:=hu.prf hz 2000 0;refine⟨hz2,?_⟩;unfold nN;rw[if_pos hz2];unfold uR DN;rw[k2,k3,k4,show (wW n).cf.tol=0 from rfl,k1,QW,awB_ren,show ((wW n).cf.servers-1) / 2=0 from rfl,J4 (by decide),show lJ ⟨900,3100⟩ 2000 2000 0=⟨900,3100⟩ by kernel_rfl];simp only[Option.getD_some];rw[show vD ⟨900,3100⟩ ⟨900,3100⟩=some ⟨900,3100⟩ by kernel_rfl];rfl
theorem yR.at {R:List (Int × Int)} {s:fC} {a b:bS} (h:yR R s a b) {x:Ev} {r:List Ev} (hq:a.q=x::r):match a.ev.getD x.x.toNat (.poll ⟨0,0,0,0⟩) with
  | .poll p=>b=pF R s { a with q:=r,tm:=x.t } x.t p
  | .req p h=>b=rQ s { a with q:=r,tm:=x.t } x.t p h
  | .dep p h v=>b=BU R s { a with q:=r,tm:=x.t } x.t p h v
  | .rep p h v=>IK s { a with q:=r,tm:=x.t } x.t p h v b:=by
 obtain⟨y,r',h1,h2⟩:=h;rw[hq] at h1
 cases h1
 exact h2
theorem CZ.go {R:List (Int × Int)} {s:fC} {a c:bS} (h:CZ R s a c) {x:Ev} {r:List Ev} (hq:a.q=x::r):∃ b,yR R s a b/\CZ R s b c:=by
 cases h with
 | done h=>rw[hq] at h;cases h
 | step h k=>exact⟨_,h,k⟩
theorem aw_run {R:List (Int × Int)} {st:bS} (h:CZ R iA (newF iA BZ) st):∃ m,st.mks=[m]/\m.at_=2000/\m.nd=1/\m.kd=7/\m.lo=900/\m.hi=3100:=by
 rw[aw_new] at h;have hm:=wJ (R:=R) 0 0;obtain⟨b1,s1,k1⟩:=h.go (x:=⟨0,1,0⟩) (r:=[]) rfl;have e1:b1=ZV (max (gL R 0 0) 1):=(s1.at (x:=⟨0,1,0⟩) (r:=[]) rfl:b1=pF R iA { awS0 with q:=[],tm:=0 } 0 ⟨1,0,0,0⟩).trans (aw_poll R);have h0:0<=max (gL R 0 0) 1:=by omega
 have h1:max (gL R 0 0) 1<=18446744073709551615:=by omega
 generalize max (gL R 0 0) 1=n at e1 h0 h1;subst e1;obtain⟨b2,s2,k2⟩:=k1.go (x:=⟨1000,2,1⟩) (r:=[]) rfl;obtain rfl:b2=awS2 n:=(s2.at (x:=⟨1000,2,1⟩) (r:=[]) rfl:b2=rQ iA { ZV n with q:=[],tm:=1000 } 1000 ⟨1,0,0,0⟩ (KW n)).trans (aw_req n);obtain⟨b3,s3,k3⟩:=k2.go (x:=⟨1000,3,2⟩) (r:=[]) rfl;obtain rfl:b3=awS3 n:=(s3.at (x:=⟨1000,3,2⟩) (r:=[]) rfl:b3=BU R iA { awS2 n with q:=[],tm:=1000 } 1000 ⟨1,0,0,0⟩ (rV n) ⟨900,1100⟩).trans (aw_dep R n);obtain⟨b4,s4,k4⟩:=k3.go (x:=⟨2000,4,3⟩) (r:=[]) rfl;have e4:IK iA { awS3 n with q:=[],tm:=2000 } 2000 ⟨1,0,0,0⟩ (rV n) ⟨900,1100⟩ b4:=s4.at (x:=⟨2000,4,3⟩) (r:=[]) rfl;unfold IK at e4;rw[show gQ { awS3 n with q:=[],tm:=2000 } ({ c:=1,i:=0,s:=0,n:=0 }:zP).c=some (yK n) from rfl] at e4;dsimp only at e4;rw[show bO iA 1 2000=2000 by kernel_rfl,QV] at e4;obtain⟨a,er,c2,hu,rfl⟩:=e4;obtain⟨q1,q2⟩:=aw_upd h0 h1 hu;dsimp only at k4;rw[if_pos q1,q2,(aw_b2 n).1] at k4
 cases k4 with
 | done _=>exact⟨_,rfl,rfl,rfl,rfl,rfl,rfl⟩
 | step h _ =>
  obtain⟨y,r',h1,_⟩:=h
  cases h1
end
section
open Go.Lib (hid)
theorem yX {α:Type} {ec:α->List Value} {s:Nat} (hs:∀ x,(ec x).length=s) {w:World} {b n:Nat} {t:TypeId} {l:List α} (h:w.heap[b]? = some (.cells (l.flatMap ec).toArray t (0,0))) (hn:n=l.length) (hm:l.length<=maxLen):aS ec s w (some ⟨b,0,none⟩) n n l:=by
 subst hn
 have hl:∀ l:List α,(l.flatMap ec).length=l.length*s:=by
  intro l;induction l with
  | nil=>simp
  | cons a r ih=>rw[List.flatMap_cons,List.length_append,ih,hs,List.length_cons,Nat.succ_mul,Nat.add_comm]
 refine aP.eH hs ⟨_,h,hl l,Nat.le_refl _,hm,?_⟩ rfl;rw[<-hl];exact List.take_length
theorem pair_at {wo w:World} {b:Nat} (g:Got w [⟨b+1+1+1+1+1,[.int .i64 0,.int .i64 1,.int .i64 1000,.int .i64 1000,.int .i64 0,.int .i64 0,.int .i64 0,.int .u64 0,.slice none 0 0],50,true⟩,
  ⟨b+1+1+1+1,[.int .i64 0,.slice (some ⟨b+1,0,none⟩) 1 1,.int .i64 0,.bool true,.int .i64 100,.int .i64 0,.slice none 0 0,.int .i64 0,.slice (some ⟨b+1,0,none⟩) 1 1,.int .i64 0,.bool false,.int .i64 0,.int .i64 0,.slice (some ⟨b+1+1+1,0,none⟩) 1 1],44,true⟩,
  ⟨b+1+1+1,[.int .i64 0],3,true⟩,⟨b+1+1,[.int .i64 0,.slice (some ⟨b+1,0,none⟩) 1 1],41,true⟩,⟨b+1,[.int .i64 0,.int .i64 0],76,true⟩,
  ⟨b,[.slice (some ⟨b+1+1+1+1,0,none⟩) 2 2,.slice (some ⟨b+1+1+1+1+1,0,none⟩) 1 1,.slice none 0 0,.int .i64 1000000,.int .u64 0],27,true⟩]) (o:Only [] wo w) :
  ∃ s:dU,Ending.returned (.agg #[.slice (some ⟨b+1+1+1+1,0,none⟩) 2 2,.slice (some ⟨b+1+1+1+1+1,0,none⟩) 1 1,.slice none 0 0,.int .i64 1000000,.int .u64 0])=.returned (fZ s)/\s.Ok w/\s.sc=iA/\Only [] wo w:=by
 obtain⟨g1,g2,g3,-,g5,-⟩:=g
 refine⟨⟨[⟨⟨0,[⟨0,0⟩],0,true,100,0,[]⟩,some ⟨b+1,0,none⟩,1,none,0⟩,⟨⟨0,[⟨0,0⟩],0,false,0,0,[0]⟩,some ⟨b+1,0,none⟩,1,some ⟨b+1+1+1,0,none⟩,1⟩],
  [⟨⟨0,1,1000,1000,0,0,0,0,[]⟩,none,0⟩],[],1000000,0,some ⟨b+1+1+1+1,0,none⟩,2,some ⟨b+1+1+1+1+1,0,none⟩,1,none,0⟩,rfl,?_,rfl,o⟩
 have r5:aS I8 2 w (some ⟨b+1,0,none⟩) 1 1 [⟨0,0⟩]:=yX (ec:=I8) (s:=2) (l:=[(⟨0,0⟩:Sg)]) (fun _=>rfl) g5 rfl (show 1<=maxLen by decide);have r3:aS YP 1 w (some ⟨b+1+1+1,0,none⟩) 1 1 [0]:=yX (ec:=YP) (s:=1) (l:=[(0:Int)]) (fun _=>rfl) g3 rfl (show 1<=maxLen by decide);refine⟨yX (l:=[⟨⟨0,[⟨0,0⟩],0,true,100,0,[]⟩,some ⟨b+1,0,none⟩,1,none,0⟩,⟨⟨0,[⟨0,0⟩],0,false,0,0,[0]⟩,some ⟨b+1,0,none⟩,1,some ⟨b+1+1+1,0,none⟩,1⟩]) P5 g2 rfl (show 2<=maxLen by decide),yX (l:=[⟨⟨0,1,1000,1000,0,0,0,0,[]⟩,none,0⟩]) P8 g1 rfl (show 1<=maxLen by decide),uG w,fun x hx=>?_,fun x hx=>?_,show 2<=100000 by decide,show 1<=100000 by decide,show 0<=100000 by decide⟩
 ·simp only[List.mem_cons,List.not_mem_nil,or_false] at hx
  rcases hx with rfl|rfl
  ·exact⟨r5,uG w,show 1<=100000 by decide,show 0<=100000 by decide⟩
  ·exact⟨r5,r3,show 1<=100000 by decide,show 1<=100000 by decide⟩
 ·obtain rfl:=mem_singleton.1 hx
  exact⟨uG w,show 0<=100000 by decide⟩
theorem pPair (w:World) :
  Calls Tryz.prog 11 #[] w fun e w'=>∃ s:dU,e=.returned (fZ s)/\s.Ok w'/\s.sc=iA/\Only [] w w':=by
 have m:=dD w [];have k:=m.out.k;go_enter Tryz.func11,Tryz.ntmps11
 go_wp2_with (first|((with_reducible first|refine cU ?_|refine wU ?_);clear k m;intro w m k)|((with_reducible refine lE (fun w o g k K hK=>⟨rfl,?_⟩));simp[results,Tryz.results11,go_sem,k];refine hK _ ?_;exact pair_at g o))
theorem aS.mrk {w wr:World} {cap k:Nat} {p:Option Addr} {l:List RB} (hv:aS YE 9 w p l.length cap l) (ho:Only [] w wr) (hk:k<l.length) :
  ∃ bk off,p=some ⟨bk,off,none⟩/\bk<wr.heap.size/\wr.cell? ⟨bk,off+k*9,none⟩=some (.int .i64 l[k].at_)/\wr.cell? ⟨bk,off+k*9+1,none⟩=some (.int .i64 l[k].nd)/\wr.cell? ⟨bk,off+k*9+2,none⟩=some (.int .i64 l[k].raw)/\wr.cell? ⟨bk,off+k*9+3,none⟩=some (.int .i64 l[k].clk)/\wr.cell? ⟨bk,off+k*9+4,none⟩=some (.int .i64 l[k].stp)/\wr.cell? ⟨bk,off+k*9+5,none⟩=some (.int .i64 l[k].lo)/\wr.cell? ⟨bk,off+k*9+6,none⟩=some (.int .i64 l[k].hi)/\wr.cell? ⟨bk,off+k*9+7,none⟩=some (.int .i64 l[k].kd)/\wr.cell? ⟨bk,off+k*9+8,none⟩=some (.int .i64 l[k].vl):=by
 obtain⟨b,off,hp,hb,hc⟩:=hv.cell k l[k] (List.getElem?_eq_getElem hk)
 have g:∀ j v,(YE l[k])[j]? = some v->wr.cell? ⟨b,off+k*9+j,none⟩=some v:=fun j v hj=>by
  rw[ho.cell hb (by simp),Nat.add_assoc];exact hc j v hj
 exact⟨b,off,hp,Nat.lt_of_lt_of_le hb ho.size,g 0 _ rfl,g 1 _ rfl,g 2 _ rfl,g 3 _ rfl,g 4 _ rfl,g 5 _ rfl,g 6 _ rfl,g 7 _ rfl,g 8 _ rfl⟩
theorem pAwake {w:World} {R:List (Int × Int)} (hR:tT w R) :
  Calls Tryz.prog 5 #[] w fun e w'=>e=.returned (.bool true)/\Only [] w w':=by
 have HR:=hid hR;clear hR;obtain⟨wo,hwo⟩:∃ wo:World,wo=w:=⟨_,rfl⟩;subst hwo;have m:=dD wo [];have k:=m.out.k;go_enter Tryz.func5,Tryz.ntmps5
 go_wp2_with ((with_reducible first|refine cU ?_|refine wU ?_);clear k m;intro w m k)
 refine (pPair _).mono ?_;rintro r w2 ⟨s,rfl,hs,hsc,o2⟩;have HRUN:=hid (fun w' (o:Only [] w2 w')=>pNRun s BZ (hs.kept o) (HR.out.kept ((m.out.only.aB o2).aB o)));have OO:=hid (m.out.only.aB o2);have HSC:=hid hsc;clear k m HR hs hsc o2;have HCF:=hid (fun w'=>pConf w');unfold fZ QO BZ at *;dsimp only at HRUN HCF |-;have m:=dD w2 [];have k:=m.out.k;go_wp2_with ((with_reducible first|refine cM (HCF.out _) ?_|refine cU ?_|refine wU ?_);clear k m;intro w m k)
 refine (HRUN.out _ gO).mono ?_;rintro r w3 ⟨hr,o3⟩;unfold NRunR at hr;rw[HSC.out] at hr;rcases hr with ⟨hz,-⟩|⟨-,st,v,hrun,rfl,own⟩
 ·exact absurd WL hz
 obtain⟨mk,hmk,e0,e1,e2,e3,e4⟩:=aw_run hrun;obtain⟨p,cap,rfl,hv⟩:=own.eH zC;rw[hmk] at hv |-;obtain⟨bk,off,rfl,-⟩:=hv.mrk (k:=0) (Only.refl [] w3) (by simp)
 have HX:=hid (show ∀ w',Only [] w3 w'->bk<w'.heap.size/\w'.cell? ⟨bk,off,none⟩=some (.int .i64 2000)/\w'.cell? ⟨bk,off+1,none⟩=some (.int .i64 1)/\w'.cell? ⟨bk,off+5,none⟩=some (.int .i64 900)/\w'.cell? ⟨bk,off+6,none⟩=some (.int .i64 3100)/\w'.cell? ⟨bk,off+7,none⟩=some (.int .i64 7) from fun w' o=>by
  obtain⟨b',o',e,c0,c1,c2,c3,c4,c5,c6,c7,c8,c9⟩:=hv.mrk (k:=0) o (by simp)
  cases e
  simp only[List.getElem_cons_zero,Nat.zero_mul,Nat.add_zero] at c1 c2 c6 c7 c8;exact⟨c0,by rw[c1,e0],by rw[c2,e1],by rw[c6,e3],by rw[c7,e4],by rw[c8,e2]⟩)
 have OX:=hid ((OO.out.aB m.out.only).aB o3);rw[show [mk].length=1 from rfl];clear m k HRUN HCF hrun own hv hmk e0 e1 e2 e3 e4 mk st o3;have m:=dD w3 [];have k:=m.out.k;have c:=HX.out w3 (Only.refl [] w3);go_wp2_with (first|((with_reducible first|refine cU ?_|refine wU ?_);clear k m c;intro w m k;have c:=HX.out w m.out.only)|((with_reducible refine lE (fun w o g k K hK=>⟨rfl,?_⟩));simp[results,Tryz.results5,go_sem];refine hK _ ?_;exact⟨rfl,OX.out.aB o⟩))
end
end Go.Proofs.YthbgcpfklmlnjaaGreat
