/- Ch4 Ch5 Ch6 -/
import Derived.Test.YtppjhbjmfkiejaaGreatFCh1
import Derived.Test.YtppjhbjmfkiejaaGreatFId
namespace Go.Proofs.YtppjhbjmfkiejaaGreat
set_option linter.all false
set_option maxRecDepth 100000
set_option maxHeartbeats 8000000
open Go.RowKit Go.Sort
open IntKind (wrap)
theorem chkS_nd {s:eU} (h:sV s=0):1<=s.nd.length/\s.nd.length<=24/\tX s.ft=0:=by
 obtain⟨h1,h⟩:=qA h (by decide);obtain⟨h2,h⟩:=qA h (by decide);obtain⟨h3,h⟩:=mR h;obtain⟨h4,h⟩:=mR h;obtain⟨h5,h⟩:=rE h (by decide);obtain⟨h6,h⟩:=mR h;exact⟨by omega,by omega,h6⟩
def svT (x:wK):Option Addr × Nat × Nat:=(x.pv,x.n.sv.length,x.cv)
theorem YB {w:World} (s:dW) (hs:s.Ok w) (hc:sV s.sc=0) :
  Calls Tryz.prog 30 #[fT s] w fun e w'=>∃ b f,e=.returned (.map (some b))/\w.heap.size<=b/\mI (fun n:Int=>Value.int .i64 n) Value.bool w' b f/\(UnQ (s.nd.map (fun x=>x.n.sv)) s.ft->f=fun _=>none)/\Oy [] w w':=by
 obtain⟨hn1,hn2,hft⟩:=chkS_nd hc;have hlen:s.sc.nd.length=s.nd.length:=by unfold dW.sc;simp
 rw[hlen] at hn1 hn2;have HV:=aA hs.nd;have HF:=aA hs.ft;have HSV:=aA (fun x hx=>(hs.ndo x hx).srv);have HSR:=aA (fun x hx=>(hs.ndo x hx).ren);clear hs hc hlen;unfold fT;obtain⟨wo,rfl⟩:∃ wo:World,wo=w:=⟨_,rfl⟩;have m:=bJ wo [];have k:=m.zK;go_enter Tryz.func30,Tryz.ntmps30
 go_upto_region 1 with (fail)
 refine wU ?_;clear k m;intro w m k;go_wp2_with (refine wpList_make_own slC rfl _ _ 96 rfl 52 (.slice none 0 0) 1 24 Tryz.underlying96 (by kernel_rfl) GI (none,0,0) rfl .i64 .i64 _ _ s.nd.length rfl rfl rfl rfl (by omega) (by unfold maxLen;omega) ?_;intro w1 hr1 ho1 hs1;refine aW ?_)
 have g1:=ho1.got (gB (w:=w) (b:=wo.heap.size)) (by simp);have OA:=aA (m.zO.aB ho1);have hge:wo.heap.size<=w.heap.size:=m.zO.size;have hne:wo.heap.size<w.heap.size:=aF gB;have H1:=aA hr1;clear k m ho1 hs1 hr1;generalize w.heap.size=g at H1 hge hne |-;refine bH ?_;have HG:=aA hge;have HNE:=aA hne;have HB1:=aA g1;have OW:=aA (fun w' (o:Oy [g] w1 w')=>OA.out.trans o (fun y hy=>.inr (by rw[List.mem_singleton.1 hy];exact HG.out)));clear g1 hge hne;have m:=iX HB1.out;have k:=m.zK;go_wp2_with ((with_reducible first|refine cU ?_|refine wU ?_);clear k m;intro w m k)
 clear k m;obtain⟨wl,rfl⟩:∃ wl:World,wl=w1:=⟨_,rfl⟩;go_loopw [16] (fun vi wr=>∃ (i:Nat) (rs:List (Option Addr × Nat × Nat)),i<=s.nd.length/\vi=.int .i64 i/\rs.length=s.nd.length/\rs.take i=(s.nd.take i).map svT/\aO slC 52 1 wr g s.nd.length rs/\Oy [g] wl wr) (fun vi _=>s.nd.length-(intOf vi).toNat)
 case atStart=>exact⟨0,_,Nat.zero_le _,rfl,List.length_replicate,by simp,H1.out,aR _ _⟩
 case round =>
  obtain⟨i,rs,hi,rfl,hrl,hrt,hr,ho⟩:=hrel;have HR:=aA hr;have O1:=aA ho;have OZ:=aA (OW.out _ ho);have hb1:=ho.got HB1.out (by simp;have:=HNE.out;omega);clear hr ho;by_cases hlt:i<s.nd.length
  ·have hlt3:(i:Int)<(s.nd.length:Int):=by omega
   have ei:wrap .i64 ((i:Int)+1)=((i+1:Nat):Int):=by rw[IntKind.wrap_i64];omega
   have hil:i<rs.length:=by omega
   obtain⟨bk,off,hpn,-⟩:=HV.out.nd (aR [] wo) hlt;have hgx:s.nd.getD i bD=s.nd[i]:=by rw[List.getD_eq_getElem?_getD,List.getElem?_eq_getElem hlt];rfl
   obtain⟨v0,hv0⟩:∃ v0,rs[i]=v0:=⟨_,rfl⟩
   have HT:=aA (show (rs.set i (svT s.nd[i])).take (i+1)=(s.nd.take (i+1)).map svT by
    rw[eO s.nd hlt,List.map_append,<-hrt,eO _ (by rw[List.length_set];exact hil),List.getElem_set_self,List.take_set_of_le (Nat.le_refl _)];rfl)
   have HR2:=aA (fun w' (o:Oy [] wr w')=>aO.set1 (f:=fun x:Option Addr × Nat × Nat=>Value.slice x.1 x.2.1 x.2.2) (HR.out.kept o (by simp)) (i:=i) hil (svT s.nd[i]));rw[<-hgx] at HT HR2
   have HX:=aA (show ∀ w',Oy [] wr w'->(bk<w'.heap.size/\w'.cell? ⟨bk,off+i*7,none⟩=some (.int .i64 (s.nd.getD i bD).n.ph)/\w'.cell? ⟨bk,off+i*7+1,none⟩=some (.slice (s.nd.getD i bD).ps (s.nd.getD i bD).n.sg.length (s.nd.getD i bD).cs)/\w'.cell? ⟨bk,off+i*7+2,none⟩=some (.int .i64 (s.nd.getD i bD).n.tol)/\w'.cell? ⟨bk,off+i*7+3,none⟩=some (.bool (s.nd.getD i bD).n.rf)/\w'.cell? ⟨bk,off+i*7+4,none⟩=some (.int .i64 (s.nd.getD i bD).n.er)/\w'.cell? ⟨bk,off+i*7+5,none⟩=some (.int .i64 (s.nd.getD i bD).n.st)/\w'.cell? ⟨bk,off+i*7+6,none⟩=some (.slice (s.nd.getD i bD).pv (s.nd.getD i bD).n.sv.length (s.nd.getD i bD).cv))/\g<w'.heap.size/\w'.cell? ⟨g,i,none⟩=some (.slice v0.1 v0.2.1 v0.2.2)/\w'.frozen? ⟨g,i,none⟩=false from fun w' o=>by
    have hr3:=HR.out.kept o (by simp);refine⟨?_,hr3.lt,?_,hr3.frozen _⟩
    ·obtain⟨b',o',e,q⟩:=HV.out.nd (OZ.out.aB o) hlt
     rw[hpn] at e
     cases e
     exact q
    ·have:=hr3.cell GI (i:=i) (j:=0) (x:=rs[i]) (List.getElem?_eq_getElem hil) (by decide)
     rw[hv0] at this;simpa [slC] using this)
   rw[hpn];rw[hpn] at hb1;generalize s.nd.getD i bD=x at HX HT HR2;clear hgx hv0 hpn;obtain⟨⟨x1,x2,x3,x4,x5,x6,x7⟩,qs,ds,qv,dv⟩:=x;unfold svT at HT HR2;dsimp only at HX HT HR2;have m:=iX hb1;have k:=m.zK;have c:=HX.out wr (aR _ _);clear hb1;go_wp2_with ((with_reducible first|refine cU ?_|refine wU ?_);clear k m c;intro w m k;have c:=HX.out w m.zO)
   go_roundw
   case rel=>exact⟨i+1,_,by omega,by go_num,by rw[List.length_set];exact hrl,HT.out,(HR2.out wr (aR [] wr)).kept ((aR [] _).alloc _) (by simp),(O1.out.setCell (.inl (by simp)) _).alloc _⟩
   case measure=>first|(simp[intOf];done)|(simp[intOf];omega)
  ·obtain rfl:i=s.nd.length:=by omega
   have hlt2:decide ((s.nd.length:Int)<(s.nd.length:Int))=false:=by simp
   rw[List.take_of_length_le (by omega),List.take_length] at hrt
   have hSR:MB wr g (s.nd.map (fun x=>x.n.sv)):=⟨HR.out.lt,fun j l hl=>by
    rw[List.getElem?_map] at hl
    cases hj:s.nd[j]? with
    | none=>rw[hj] at hl;cases hl
    | some x =>
     rw[hj] at hl
     cases hl
     have hm:=List.mem_of_getElem? hj;refine⟨x.pv,x.cv,?_,(HSV.out x hm).kept OZ.out,Nat.le_trans (HSR.out x hm) (by decide)⟩;have:=HR.out.cell GI (i:=j) (j:=0) (x:=svT x) (by rw[hrt,List.getElem?_map,hj];rfl) (by decide);simpa [slC,svT] using this⟩
   have HUN:=aA (fun w' (o:Oy [] wr w')=>TR (cs:=s.nd.length) (hSR.kept o (by simp)) (by rw[List.length_map];exact hn1) (by rw[List.length_map];exact hn2) (HF.out.kept (OZ.out.aB o)) hft);rw[List.length_map] at HUN;clear hSR;have m:=iX hb1;have k:=m.zK;clear hb1;go_wp2_with ((with_reducible first|refine cU ?_|refine wU ?_);clear k m;intro w m k)
   refine MN (G:=fun W=>Oper.upon _ _ _ _ _ ((Sem.run _ _ W).andThen _)) ?_;clear k m;intro w m k;rw[@run_makeMap Tryz.prog];go_upto_region 8 with (fail)
   refine aG (G:=fun w0=>Code.wp _ _ _ _ w0) ?_;intro w5 hb5 ho5 hs5;have HM:=aA hb5;have HMS:=aA (Nat.le_trans OZ.out.size m.zO.size);have O5:=aA (m.zO.aB ho5);have hq0:=ho5.got (gB (w:=w) (b:=wo.heap.size)) (by simp);generalize w.heap.size=mb at HM HMS |-;clear k m hb5 ho5 hs5;have m:=iX hq0;have k:=m.zK;clear hq0;go_wp2_with ((with_reducible first|refine cU ?_|refine wU ?_);clear k m;intro w m k)
   refine (HUN.out _ (O5.out.aB gO)).mono ?_;rintro r w6 ⟨v,l',rfl,hown,hl6,hq,o6⟩;have HQ:=aA hq;clear hq;obtain⟨pv,cv,rfl,hv⟩:=hown.dI oQ;have HV6:=aA hv;have O6:=aA ((O5.out.aB m.zO).aB o6);have HM6:=aA ((qY (kE:=fun n:Int=>Value.int .i64 n) (vE:=Value.bool) HM.out).kept (m.zO.aB o6) (by simp))
   have HBM:=aA (show ∀ bk off,pv=some ⟨bk,off,none⟩->mb<bk from fun bk off e=>by
    subst e;have:=(hown.DU bk (by simp[Value.ownBlock])).1;have h2:=HM.out;have:=(aR [] w5).size;have:=aF h2;have:=m.zO.size;omega)
   clear k m hown hv o6 HUN;have m:=bJ w6 [];have k:=m.zK;go_wp2_with ((with_reducible first|refine cU ?_|refine wU ?_);clear k m;intro w m k)
   clear k m;obtain⟨wq,rfl⟩:∃ wq:World,wq=w6:=⟨_,rfl⟩;go_loopw [36] (fun vi wr3=>∃ (i:Nat) (f:Int->Option Bool),i<=l'.length/\vi=.int .i64 i/\mI (fun n:Int=>Value.int .i64 n) Value.bool wr3 mb f/\(UnQ (s.nd.map (fun x=>x.n.sv)) s.ft->f=fun _=>none)/\Oy [mb] wq wr3) (fun vi _=>l'.length-(intOf vi).toNat)
   case atStart=>exact⟨0,_,Nat.zero_le _,rfl,HM6.out,fun _=>rfl,aR _ _⟩
   case round =>
    obtain⟨i,f,hi,rfl,hmf,hq,ho⟩:=hrel;have HQ2:=aA hq;clear hq;have HMF:=aA hmf;have O7:=aA ho;clear hmf ho;by_cases hlt:i<l'.length
    ·have hlt3:(i:Int)<(l'.length:Int):=by omega
     have ei:wrap .i64 ((i:Int)+1)=((i+1:Nat):Int):=by rw[IntKind.wrap_i64];omega
     obtain⟨bk,off,rfl,hz⟩:=BL HV6.out (List.getElem?_eq_getElem hlt);have hbm:=HBM.out bk off rfl;have hz0:=hz wq (aR [] wq);have lk:bk<wr.heap.size:=Nat.lt_of_lt_of_le hz0.1 O7.out.size
     have ck:wr.cell? ⟨bk,off+i,none⟩=some (.int .i64 l'[i]):=by
      rw[O7.out.cell hz0.1 (by simp;omega)];simpa using hz0.2 0 _ rfl
     generalize l'[i]=x at ck;clear hz hz0;go_wp2_with (at_mapUpdate;refine aW ?_)
     refine bH ?_;refine iI (kE:=fun n:Int=>Value.int .i64 n) (vE:=Value.bool) rfl _ _ _ 102 rfl 3 4 (eF Tryz.underlying3) Tryz.underlying102 mb _ rfl HMF.out x rfl true rfl ?_;intro w9 hm9 ho9 hs9;have HM9:=aA hm9;have O9:=aA (O7.out.trans ho9 (fun q hq=>.inl hq));clear hm9 ho9 hs9 lk ck;go_wp2_with fail
     go_roundw
     case rel=>exact⟨i+1,_,by omega,by go_num,HM9.out,fun q=>absurd hlt (by rw[HQ.out q];simp),O9.out⟩
     case measure=>first|(simp[intOf];done)|(simp[intOf];omega)
    ·obtain rfl:i=l'.length:=by omega
     have hlt2:decide ((l'.length:Int)<(l'.length:Int))=false:=by simp
     have m:=bJ wr [];have k:=m.zK;go_wp2_with (first|((with_reducible first|refine cU ?_|refine wU ?_);clear k m;intro w m k)|((with_reducible refine lE (fun w o g k K hK=>⟨rfl,?_⟩));simp[results,Tryz.results30,go_sem];refine hK _ ?_;exact⟨_,_,rfl,HMS.out,HMF.out.kept o (by simp),HQ2.out,((OZ.out.aB O6.out).trans O7.out (fun q hq=>.inr (by rw[List.mem_singleton.1 hq];exact HMS.out))).aB o⟩))
def rvG (x y:iD) (f s:Bool) (tl:Int):Value:=.agg #[.int .i64 x.at_,.int .i64 x.nd,.int .i64 x.raw,.int .i64 x.clk,.int .i64 x.stp,.int .i64 x.lo,.int .i64 x.hi,.int .i64 x.kd,.int .i64 x.vl,.int .i64 y.at_,.int .i64 y.nd,.int .i64 y.raw,.int .i64 y.clk,.int .i64 y.stp,.int .i64 y.lo,.int .i64 y.hi,.int .i64 y.kd,.int .i64 y.vl,.bool f,.bool s,.int .i64 tl]
theorem pLiesW (x y:iD) (f s:Bool) (tl:Int) (w:World) :
  Calls Tryz.prog 53 #[rvG x y f s tl] w fun e w'=>(∃ b,e=.returned (.bool b)/\b=(s && !xJ ⟨x.lo,x.hi⟩ x.at_))/\Oy [] w w':=by
 have HH:=aA (fun w'=>pHas ⟨x.lo,x.hi⟩ x.at_ w');obtain⟨x0,x1,x2,x3,x4,x5,x6,x7,x8⟩:=x;obtain⟨y0,y1,y2,y3,y4,y5,y6,y7,y8⟩:=y;unfold rvG;dsimp only;unfold dV at HH;dsimp only at HH;generalize xJ ⟨x5,x6⟩ x0=h at HH
 cases s
 all_goals
  have m:=bJ w [];have k:=m.zK;go_enter Tryz.func53,Tryz.ntmps53
  go_wp2_with (first|((with_reducible first|refine cM (HH.out _) ?_|refine cU ?_|refine wU ?_);clear k m;intro w m k)|((with_reducible refine lE (fun w o g k K hK=>⟨rfl,?_⟩));simp[results,Tryz.results53,go_sem];refine hK _ ?_;exact⟨⟨_,rfl,by simp⟩,o⟩))
theorem pTurnsW (x y:iD) (f s:Bool) (tl:Int) (w:World) :
  Calls Tryz.prog 54 #[rvG x y f s tl] w fun e w'=>(∃ b,e=.returned (.bool b)/\(f=false->b=false))/\Oy [] w w':=by
 obtain⟨x0,x1,x2,x3,x4,x5,x6,x7,x8⟩:=x;obtain⟨y0,y1,y2,y3,y4,y5,y6,y7,y8⟩:=y;unfold rvG;dsimp only
 cases f
 all_goals
  by_cases h1:y4=x4
 all_goals
  have m:=bJ w [];have k:=m.zK;go_enter Tryz.func54,Tryz.ntmps54
  go_wp2_with (first|((with_reducible first|refine cU ?_|refine wU ?_);clear k m;intro w m k)|((with_reducible refine lE (fun w o g k K hK=>⟨rfl,?_⟩));simp[results,Tryz.results54,go_sem];refine hK _ ?_;exact⟨⟨_,rfl,by simp⟩,o⟩))
def agW (x:Iv) (raw tol:Int):Iv:=
 if (wJ x raw tol).2=0 then ⟨if EC (wJ x raw tol).1.lo=true then (wJ x raw tol).1.lo else -4503599627370496,if EC (wJ x raw tol).1.hi=true then (wJ x raw tol).1.hi else 4503599627370496⟩
 else ⟨-4503599627370496,4503599627370496⟩
theorem pAgeW (x:Iv) (raw tol:Int) (w:World) :
  Calls Tryz.prog 75 #[dV x,.int .i64 raw,.int .i64 tol] w fun e w'=>e=.returned (dV (agW x raw tol))/\Oy [] w w':=by
 have HA:=aA (fun w'=>pAge x raw tol w');have HR:=aA (fun n w'=>uJ n w');obtain⟨R,hR⟩:∃ R,agW x raw tol=R:=⟨_,rfl⟩;rw[hR];unfold agW at hR;generalize wJ x raw tol=a at HA hR;obtain⟨lo,hi⟩:=x;obtain⟨⟨al,ah⟩,e⟩:=a;unfold dV at *;dsimp only at HA hR |-;have HR1:=aA (fun w'=>HR.out al w');have HR2:=aA (fun w'=>HR.out ah w');generalize EC al=r1 at HR1 hR;generalize EC ah=r2 at HR2 hR;clear HR;by_cases he:e=0
 rotate_left
 focus
  rw[if_neg he] at hR;subst hR;have hne:(e != 0)=true:=by simpa using he
 rotate_left
 subst he;rw[if_pos rfl] at hR
 cases r1
 all_goals cases r2
 all_goals (try subst hR)
 all_goals (try simp only[Bool.false_eq_true,if_false,if_true])
 all_goals
  have m:=bJ w [];have k:=m.zK;go_enter Tryz.func75,Tryz.ntmps75
  go_wp2_with (first|((with_reducible first|refine cM (HA.out _) ?_|refine cM (HR1.out _) ?_|refine cM (HR2.out _) ?_|refine cU ?_|refine wU ?_);clear k m;intro w m k)|((with_reducible refine lE (fun w o g k K hK=>⟨rfl,?_⟩));simp[results,Tryz.results75,go_sem,k];refine hK _ ?_;exact⟨rfl,o⟩))
theorem pGrowsW (x y:iD) (f s:Bool) (tl:Int) (w:World) :
  Calls Tryz.prog 55 #[rvG x y f s tl] w fun e w'=>(∃ b,e=.returned (.bool b)/\(f=false->b=false))/\Oy [] w w':=by
 have HA1:=aA (fun w'=>pAgeW ⟨y.lo,y.hi⟩ (wrap .i64 (x.raw-y.raw)) tl w');have HA2:=aA (fun w'=>pAgeW (agW ⟨y.lo,y.hi⟩ (wrap .i64 (x.raw-y.raw)) tl) 0 tl w');generalize agW (agW ⟨y.lo,y.hi⟩ (wrap .i64 (x.raw-y.raw)) tl) 0 tl=g2 at HA2;generalize agW ⟨y.lo,y.hi⟩ (wrap .i64 (x.raw-y.raw)) tl=g1 at HA1 HA2;obtain⟨g2l,g2h⟩:=g2;obtain⟨g1l,g1h⟩:=g1;obtain⟨x0,x1,x2,x3,x4,x5,x6,x7,x8⟩:=x;obtain⟨y0,y1,y2,y3,y4,y5,y6,y7,y8⟩:=y;unfold rvG;dsimp only;unfold dV at HA1 HA2;dsimp only at HA1 HA2;obtain⟨q,hq⟩:∃ q,wrap .i64 (x2-y2)=q:=⟨_,rfl⟩;rw[hq] at HA1
 cases f
 all_goals cases s
 all_goals
  by_cases h1:x5<g2l
 all_goals
  have m:=bJ w [];have k:=m.zK;go_enter Tryz.func55,Tryz.ntmps55
  go_wp2_with (first|((with_reducible refine rA (id:=5) [0,1,2,3,4,5,6,7,8,9,10,11,12,13,14,15] [] 16 [17] (by kernel_rfl) (by kernel_rfl) ?_);simp only[bV];(repeat (first|(refine aQ (fun K hK=>?_);go_simp;refine hK _ ?_;clear hK K)|(refine cG (by kernel_rfl) ⟨_,_,_,?_,fun w' o=>HA1.out _,?_⟩;(focus (intro w;go_simp;done)))|(refine cG (by kernel_rfl) ⟨_,_,_,?_,fun w' o=>HA2.out _,?_⟩;(focus (intro w;go_simp;done)))));refine aS ?_;(repeat (refine aJ (fun K hK=>?_);go_simp;refine hK _ ?_;clear hK K));refine aK ?_;clear k m;intro w o m k;refine aD rfl ?_;go_wp2;simp only[bA];refine⟨o.alloc _,tW ?_⟩;clear o;clear k m;intro w m k;unfold aV;refine aD rfl ?_;go_wp2;simp only[bA];refine tW ?_;clear k m;intro w m k;unfold aV)|((with_reducible first|refine cU ?_|refine wU ?_);clear k m;intro w m k)|((with_reducible refine lE (fun w o g k K hK=>⟨rfl,?_⟩));simp[results,Tryz.results55,go_sem];refine hK _ ?_;exact⟨⟨_,rfl,by simp⟩,o⟩))
theorem ZL {w:World} {B b:Nat} {g:Fnd} (h:w.heap[b]? = some (.cells (NZ g).toArray 99 (0,0))) (hB:B<=b):Own NZ 99 3 B w (.slice (some ⟨b,0,none⟩) 1 1) [g]:=
 .inr ⟨b,1,rfl,hB,_,h,rfl,Nat.le_refl _,by decide,by simp[NZ]⟩
theorem WG {α:Type} {a b:List α} {i:Nat} (h:a.take i=b.take i) (ha:a.length=i) (hb:b.length=i):a=b:=by
 rw[List.take_of_length_le (by omega),List.take_of_length_le (by omega)] at h;exact h
theorem T9 {w:World} {l r:List iD} {p q:Option Addr} {cp cq:Nat} (ha:aU kC 9 w p l.length cp l) (hb:aU kC 9 w q r.length cq r) (hl:l.length<=1000000) :
  Calls Tryz.prog 32 #[.slice p l.length cp,.slice q r.length cq] w fun e w'=>∃ v L,e=.returned v/\Own NZ 99 3 w.heap.size w' v L/\(l=r->L=[])/\(l≠r->∃ g,L=[g])/\Oy [] w w':=by
 have HA:=aA ha;have HB:=aA hb;clear ha hb;obtain⟨wo,rfl⟩:∃ wo:World,wo=w:=⟨_,rfl⟩;have m:=bJ wo [];have k:=m.zK;go_enter Tryz.func32,Tryz.ntmps32
 go_wp2_with ((with_reducible first|refine cU ?_|refine wU ?_);clear k m;intro w m k)
 clear k m;go_loopw [5] (fun vi wr=>∃ i:Nat,i<=l.length/\i<=r.length/\vi=.int .i64 i/\l.take i=r.take i/\Oy [] wo wr) (fun vi _=>l.length-(intOf vi).toNat)
 case atStart=>exact⟨0,Nat.zero_le _,Nat.zero_le _,rfl,rfl,aR _ _⟩
 case round =>
  obtain⟨i,hi,hj,rfl,ht,ho⟩:=hrel;have O1:=aA ho;clear ho;have ei:wrap .i64 ((i:Int)+1)=((i+1:Nat):Int):=by rw[IntKind.wrap_i64];omega
  by_cases hlt:i<l.length
  focus
   obtain⟨bk,off,rfl,-⟩:=HA.out.VQ (aR [] wo) hlt;obtain⟨x,hx⟩:∃ x,l[i]=x:=⟨_,rfl⟩
   have HX1:=aA (show ∀ w',Oy [] wr w'->bk<w'.heap.size/\w'.cell? ⟨bk,off+i*9,none⟩=some (.int .i64 x.at_)/\w'.cell? ⟨bk,off+i*9+1,none⟩=some (.int .i64 x.nd)/\w'.cell? ⟨bk,off+i*9+2,none⟩=some (.int .i64 x.raw)/\w'.cell? ⟨bk,off+i*9+3,none⟩=some (.int .i64 x.clk)/\w'.cell? ⟨bk,off+i*9+4,none⟩=some (.int .i64 x.stp)/\w'.cell? ⟨bk,off+i*9+5,none⟩=some (.int .i64 x.lo)/\w'.cell? ⟨bk,off+i*9+6,none⟩=some (.int .i64 x.hi)/\w'.cell? ⟨bk,off+i*9+7,none⟩=some (.int .i64 x.kd)/\w'.cell? ⟨bk,off+i*9+8,none⟩=some (.int .i64 x.vl) from fun w' o=>by
    obtain⟨b',o',e,z⟩:=HA.out.VQ (O1.out.aB o) hlt
    cases e
    rw[hx] at z;exact z)
   have hlt3:(i:Int)<(l.length:Int):=by omega
   by_cases hgt:i<r.length
   focus
    obtain⟨bj,ofj,rfl,-⟩:=HB.out.VQ (aR [] wo) hgt;obtain⟨y,hy⟩:∃ y,r[i]=y:=⟨_,rfl⟩
    have HX:=aA (show ∀ w',Oy [] wr w'->(bk<w'.heap.size/\w'.cell? ⟨bk,off+i*9,none⟩=some (.int .i64 x.at_)/\w'.cell? ⟨bk,off+i*9+1,none⟩=some (.int .i64 x.nd)/\w'.cell? ⟨bk,off+i*9+2,none⟩=some (.int .i64 x.raw)/\w'.cell? ⟨bk,off+i*9+3,none⟩=some (.int .i64 x.clk)/\w'.cell? ⟨bk,off+i*9+4,none⟩=some (.int .i64 x.stp)/\w'.cell? ⟨bk,off+i*9+5,none⟩=some (.int .i64 x.lo)/\w'.cell? ⟨bk,off+i*9+6,none⟩=some (.int .i64 x.hi)/\w'.cell? ⟨bk,off+i*9+7,none⟩=some (.int .i64 x.kd)/\w'.cell? ⟨bk,off+i*9+8,none⟩=some (.int .i64 x.vl))/\(bj<w'.heap.size/\w'.cell? ⟨bj,ofj+i*9,none⟩=some (.int .i64 y.at_)/\w'.cell? ⟨bj,ofj+i*9+1,none⟩=some (.int .i64 y.nd)/\w'.cell? ⟨bj,ofj+i*9+2,none⟩=some (.int .i64 y.raw)/\w'.cell? ⟨bj,ofj+i*9+3,none⟩=some (.int .i64 y.clk)/\w'.cell? ⟨bj,ofj+i*9+4,none⟩=some (.int .i64 y.stp)/\w'.cell? ⟨bj,ofj+i*9+5,none⟩=some (.int .i64 y.lo)/\w'.cell? ⟨bj,ofj+i*9+6,none⟩=some (.int .i64 y.hi)/\w'.cell? ⟨bj,ofj+i*9+7,none⟩=some (.int .i64 y.kd)/\w'.cell? ⟨bj,ofj+i*9+8,none⟩=some (.int .i64 y.vl)) from fun w' o=>by
     obtain⟨b',o',e,z⟩:=HB.out.VQ (O1.out.aB o) hgt
     cases e
     rw[hy] at z;exact⟨HX1.out w' o,z⟩)
    have hgt3:(i:Int)<(r.length:Int):=by omega
    have HNE:=aA (show x≠y->l≠r from fun h e=>by
     subst e;exact h (hx.symm.trans hy))
    have HT:=aA (show x=y->l.take (i+1)=r.take (i+1) from fun h=>by
     rw[eO l hlt,eO r hgt,ht,hx,hy,h])
    clear HX1 hx hy ht;by_cases he:x=y
    ·subst he
     have HT2:=aA (HT.out rfl);obtain⟨x0,x1,x2,x3,x4,x5,x6,x7,x8⟩:=x;dsimp only at HX;clear HNE HT;have m:=bJ wr [];have k:=m.zK;have c:=HX.out wr (aR _ _);go_wp2_with (first|((with_reducible refine iY (id:=2) [0,1,2,3,4,5,6,7,8,9,10,11,12,13,14,15,16,17,18,19,20] [] ?_);simp only[bV];(repeat' (first|go_big_quiet_step (fail)|(refine wpQuiet_step (fun K hK=>?_);go_simp;(first|(refine hK _ ?_;clear hK K)|(split<;>(refine hK _ ?_;clear hK K))))));all_goals (refine wpQuiet_nil ?_;clear k m c;intro w m k;have c:=HX.out w m.zO))|((with_reducible first|refine cU ?_|refine wU ?_);clear k m c;intro w m k;have c:=HX.out w m.zO)|(go_roundw;(case rel=>exact⟨i+1,by omega,by omega,by go_num,HT2.out,O1.out.aB gO⟩);(case measure=>first|(simp[intOf];done)|(simp[intOf];omega))))
    ·have hne:=HNE.out he
     have HNE2:=aA hne;obtain⟨x0,x1,x2,x3,x4,x5,x6,x7,x8⟩:=x;obtain⟨y0,y1,y2,y3,y4,y5,y6,y7,y8⟩:=y;dsimp only at HX;simp only[iD.mk.injEq,not_and] at he;clear HNE HT hne;by_cases e0:x0=y0
     rotate_left
     focus
      have hn:(x0 == y0)=false:=by simpa using e0
      clear he
     rotate_right
     subst e0;by_cases e1:x1=y1
     rotate_left
     focus
      have hn:(x1 == y1)=false:=by simpa using e1
      clear he
     rotate_right
     subst e1;by_cases e2:x2=y2
     rotate_left
     focus
      have hn:(x2 == y2)=false:=by simpa using e2
      clear he
     rotate_right
     subst e2;by_cases e3:x3=y3
     rotate_left
     focus
      have hn:(x3 == y3)=false:=by simpa using e3
      clear he
     rotate_right
     subst e3;by_cases e4:x4=y4
     rotate_left
     focus
      have hn:(x4 == y4)=false:=by simpa using e4
      clear he
     rotate_right
     subst e4;by_cases e5:x5=y5
     rotate_left
     focus
      have hn:(x5 == y5)=false:=by simpa using e5
      clear he
     rotate_right
     subst e5;by_cases e6:x6=y6
     rotate_left
     focus
      have hn:(x6 == y6)=false:=by simpa using e6
      clear he
     rotate_right
     subst e6;by_cases e7:x7=y7
     rotate_left
     focus
      have hn:(x7 == y7)=false:=by simpa using e7
      clear he
     rotate_right
     subst e7;have hn:(x8 == y8)=false:=by simpa using he rfl rfl rfl rfl rfl rfl rfl rfl
     clear he
     all_goals
      have m:=bJ wr [];have k:=m.zK;have c:=HX.out wr (aR _ _);go_wp2_with (first|((with_reducible refine iY (id:=2) [0,1,2,3,4,5,6,7,8,9,10,11,12,13,14,15,16,17,18,19,20] [] ?_);simp only[bV];(repeat' (first|go_big_quiet_step (fail)|(refine wpQuiet_step (fun K hK=>?_);go_simp;(first|(refine hK _ ?_;clear hK K)|(split<;>(refine hK _ ?_;clear hK K))))));all_goals (refine wpQuiet_nil ?_;clear k m c;intro w m k;have c:=HX.out w m.zO))|((with_reducible first|refine cU ?_|refine wU ?_);clear k m c;intro w m k;have c:=HX.out w m.zO)|((with_reducible refine lE (fun w o g k K hK=>⟨rfl,?_⟩));simp[results,Tryz.results32,go_sem];refine hK _ ?_;exact⟨_,_,rfl,ZL (g:=⟨5,_,_⟩) (Has.h w g) (by have:=(O1.out.aB m.zO).size;omega),fun h=>absurd h HNE2.out,fun _=>⟨_,rfl⟩,O1.out.aB o⟩))
   rotate_left
   have hgt3:decide ((i:Int)<(r.length:Int))=false:=dL (by omega);have HNE2:=aA (show l≠r from fun e=>by subst e;exact hgt hlt);have HX:=HX1;clear HX1 hx ht;obtain⟨x0,x1,x2,x3,x4,x5,x6,x7,x8⟩:=x;dsimp only at HX
  rotate_left
  focus
   have hlt3:decide ((i:Int)<(l.length:Int))=false:=dL (by omega);have HX:=aA (fun (w':World) (_:Oy [] wr w')=>trivial);by_cases hgt:i<r.length
   rotate_left
   focus
    have hgt3:decide ((i:Int)<(r.length:Int))=false:=dL (by omega);have HEQ:=aA (WG ht (by omega) (by omega));clear ht;have m:=bJ wr [];have k:=m.zK;have c:=HX.out wr (aR _ _);go_wp2_with (first|((with_reducible refine iY (id:=2) [0,1,2,3,4,5,6,7,8,9,10,11,12,13,14,15,16,17,18,19,20] [] ?_);simp only[bV];(repeat' (first|go_big_quiet_step (fail)|(refine wpQuiet_step (fun K hK=>?_);go_simp;(first|(refine hK _ ?_;clear hK K)|(split<;>(refine hK _ ?_;clear hK K))))));all_goals (refine wpQuiet_nil ?_;clear k m c;intro w m k;have c:=HX.out w m.zO))|((with_reducible first|refine cU ?_|refine wU ?_);clear k m c;intro w m k;have c:=HX.out w m.zO)|((with_reducible refine lE (fun w o g k K hK=>⟨rfl,?_⟩));simp[results,Tryz.results32,go_sem];refine hK _ ?_;exact⟨_,[],rfl,bR _ _,fun _=>rfl,fun h=>absurd HEQ.out h,O1.out.aB o⟩))
   have hgt3:(i:Int)<(r.length:Int):=by omega
   have HNE2:=aA (show l≠r from fun e=>by subst e;exact hlt hgt);clear ht
  rotate_left
  all_goals
   have m:=bJ wr [];have k:=m.zK;have c:=HX.out wr (aR _ _);go_wp2_with (first|((with_reducible refine iY (id:=2) [0,1,2,3,4,5,6,7,8,9,10,11,12,13,14,15,16,17,18,19,20] [] ?_);simp only[bV];(repeat' (first|go_big_quiet_step (fail)|(refine wpQuiet_step (fun K hK=>?_);go_simp;(first|(refine hK _ ?_;clear hK K)|(split<;>(refine hK _ ?_;clear hK K))))));all_goals (refine wpQuiet_nil ?_;clear k m c;intro w m k;have c:=HX.out w m.zO))|((with_reducible first|refine cU ?_|refine wU ?_);clear k m c;intro w m k;have c:=HX.out w m.zO)|((with_reducible refine lE (fun w o g k K hK=>⟨rfl,?_⟩));simp[results,Tryz.results32,go_sem];refine hK _ ?_;exact⟨_,_,rfl,ZL (g:=⟨5,_,_⟩) (Has.h w g) (by have:=(O1.out.aB m.zO).size;omega),fun h=>absurd h HNE2.out,fun _=>⟨_,rfl⟩,O1.out.aB o⟩))
end Go.Proofs.YtppjhbjmfkiejaaGreat
