/- Sb Sc Sd Se -/
import Derived.Test.YtppjhbjmfkiejaaGreatFS8
import Derived.Test.YtppjhbjmfkiejaaGreatFAg7
import Derived.Test.YtppjhbjmfkiejaaGreatFV6
namespace Go.Proofs.YtppjhbjmfkiejaaGreat
set_option maxRecDepth 100000
set_option maxHeartbeats 8000000
open Go.RowKit
open IntKind (wrap)
section
open Go.Sort
def wN (s:Int):List Value:=[.int .i64 s]
theorem oQ (s:Int):(wN s).length=1:=rfl
theorem IL (s:Int):∀ u∈wN s,u.oneCell'=true:=by simp[wN,Value.oneCell']
theorem aU.it {w wr:World} {cap k:Nat} {p:Option Addr} {l:List Int} (hv:aU wN 1 w p l.length cap l) (ho:Oy [] w wr) (hk:k<l.length) :
  ∃ bk off,p=some ⟨bk,off,none⟩/\wr.cell? ⟨bk,off+k,none⟩=some (.int .i64 (l.getD k 0))/\bk<wr.heap.size:=by
 obtain⟨bk,off,hp,hb,hc⟩:=hv.at_ ho (getD_some 0 hk);exact⟨bk,off,hp,by have:=hc 0 _ rfl;rwa [Nat.mul_one,Nat.add_zero] at this,hb⟩
def ndV (n:Nd) (ps:Option Addr) (cs:Nat) (pv:Option Addr) (cv:Nat):Value:=
 .agg #[.int .i64 n.ph,.slice ps n.sg.length cs,.int .i64 n.tol,.bool n.rf,.int .i64 n.er,.int .i64 n.st,.slice pv n.sv.length cv]
def snS (l:List Int) (k:Int):Option Bool:=if k∈l then some true else none
theorem MN {G:World->Prop} {w0 w:World} {S:List Nat} {L:List gG} [m:Mm w0 S w L] (h:∀ w',Mm w0 S w' L->Facts w' L->G w'):G w:=h w m m.zK
theorem WS {l:List Int} {k:Nat} (hk:k<l.length):(fun k'=>if k'=l.getD k 0 then some true else snS (l.take k) k')=snS (l.take (k+1)):=by
 funext k'
 have hgk:=getD_some 0 hk;unfold snS;rw[List.take_add_one,hgk];by_cases hq:k'=l.getD k 0
 ·rw[if_pos hq,if_pos (by simp[hq])]
 ·rw[if_neg hq]
  by_cases hr:k'∈l.take k
  ·rw[if_pos hr,if_pos (by simp[hr])]
  ·rw[if_neg hr,if_neg (by simp only[Option.toList_some,List.mem_append,List.mem_singleton];exact fun q=>q.elim hr hq)]
theorem pNode {w:World} {ps pv:Option Addr} {cs cv:Nat} (n:Nd) (i nodes:Int) (hv:aU TB 2 w ps n.sg.length cs n.sg) (hw:aU wN 1 w pv n.sv.length cv n.sv) (hn:n.sg.length<=100000) (hm:n.sv.length<=100000) :
  Calls Tryz.prog 58 #[ndV n ps cs pv cv,.int .i64 i,.int .i64 nodes] w fun e w'=>e=.returned (.int .i64 (MI n i nodes))/\Oy [] w w':=by
 obtain⟨ph,sg,tol,rf,er,st,sv⟩:=n;have HO:=aA (fun w' (o:Oy [] w w')=>pOsc ph (hv.kept o) hn);have HB:=aA (fun w' (o:Oy [] w w')=>pBound ph (hv.kept o) hn);have HW:=aA hw;obtain⟨V,hV⟩:∃ V,MI ⟨ph,sg,tol,rf,er,st,sv⟩ i nodes=V:=⟨_,rfl⟩;rw[hV];unfold MI at hV;unfold ndV;dsimp only at hV hm |-;clear hv hw hn;generalize fO ph sg=e at HO hV;generalize KL ph sg=bo at HB hV;obtain⟨wo,rfl⟩:∃ wo:World,wo=w:=⟨_,rfl⟩;by_cases hz:e=0
 rotate_left
 focus
  rw[if_neg hz] at hV;have hne:(e != 0)=true:=by simpa using hz
 rotate_left
 subst hz;rw[if_pos rfl] at hV;by_cases h1:tol<0
 focus
  rw[if_neg (by rw[bI];omega)] at hV;have dh1:decide (tol<0)=true:=eY h1
 rotate_left
 have dh1:decide (tol<0)=false:=dL h1;by_cases h2:500000<tol
 focus
  rw[if_neg (by rw[bI];omega)] at hV;have dh2:decide (500000<tol)=true:=eY h2
 rotate_left
 rw[if_pos (bI.2 (by omega))] at hV;have dh2:decide (500000<tol)=false:=dL h2;by_cases h3:tol<bo
 focus
  rw[if_pos h3] at hV;have dh3:decide (tol<bo)=true:=eY h3
 rotate_left
 rw[if_neg h3] at hV;have dh3:decide (tol<bo)=false:=dL h3;by_cases h4:er<0
 focus
  rw[if_neg (fun q=>by have:=bI.1 q.1;omega)] at hV;have dh4:decide (er<0)=true:=eY h4
 rotate_left
 have dh4:decide (er<0)=false:=dL h4;by_cases h5:1125899906842624<er
 focus
  rw[if_neg (fun q=>by have:=bI.1 q.1;omega)] at hV;have dh5:decide (1125899906842624<er)=true:=eY h5
 rotate_left
 have dh5:decide (1125899906842624<er)=false:=dL h5
 have hc:(er≠0/\rf=false)\/(er=0/\rf=false/\12<sv.length)\/(er=0/\rf=false/\sv.length<=12)\/(rf=true/\0<sv.length)\/(rf=true/\sv.length=0):=by
  cases rf
  ·by_cases a:er=0
   ·by_cases b:12<sv.length
    ·exact .inr (.inl ⟨a,rfl,b⟩)
    ·exact .inr (.inr (.inl ⟨a,rfl,by omega⟩))
   ·exact .inl ⟨a,rfl⟩
  ·by_cases b:0<sv.length
   ·exact .inr (.inr (.inr (.inl ⟨rfl,b⟩)))
   ·exact .inr (.inr (.inr (.inr ⟨rfl,by omega⟩)))
 rcases hc with ⟨h6,rfl⟩|⟨h6,rfl,h7⟩|⟨h6,rfl,h7⟩|⟨rfl,h7⟩|⟨rfl,h7⟩
 focus
  rw[if_neg (fun q=>q.2.elim h6 (fun h=>by cases h))] at hV;have hne:(er != 0)=true:=by simpa using h6
 rotate_left
 focus
  rw[if_pos ⟨bI.2 (by omega),.inl h6⟩,if_neg (fun q=>by cases q.1),if_pos h7] at hV;have hne:(er != 0)=false:=by simpa using h6
  have d7:decide ((12:Int)<(sv.length:Int))=true:=eY (by omega)
 rotate_left
 focus
  rw[if_pos ⟨bI.2 (by omega),.inl h6⟩,if_neg (fun q=>by cases q.1),if_neg (by omega)] at hV;have hne:(er != 0)=false:=by simpa using h6
  have d7:decide ((12:Int)<(sv.length:Int))=false:=dL (by omega)
 rotate_left
 focus
  rw[if_pos ⟨show dZ er 0 1125899906842624=true from bI.2 (by omega),.inr rfl⟩,if_pos ⟨rfl,h7⟩] at hV;have d7:decide ((0:Int)<(sv.length:Int))=true:=eY (by omega)
 rotate_left
 focus
  rw[if_pos ⟨show dZ er 0 1125899906842624=true from bI.2 (by omega),.inr rfl⟩,if_neg (fun q=>by have:=q.2;omega),if_neg (by omega)] at hV;have d7:decide (0<sv.length)=false:=dL (by omega);have d9:decide ((0:Int)<(sv.length:Int))=false:=dL (by omega);have d8:decide ((12:Int)<(sv.length:Int))=false:=dL (by omega);clear h7
 all_goals
  have HV:=aA hV;clear hV;have m:=bJ wo [];have k:=m.zK;go_enter Tryz.func58,Tryz.ntmps58
  go_wp2_with (first|((with_reducible first|refine cM (HO.out _ gO) ?_|refine cU ?_|refine wU ?_);clear k m;intro w m k)|((with_reducible refine iY (id:=6) [0,1,2,3,4,5,6] [] ?_);simp only[bV];(repeat' (first|go_big_quiet_step (with_reducible first|exact gX (HB.out _ RH))|(refine wpQuiet_step (fun K hK=>?_);go_simp;(first|(refine hK _ ?_;clear hK K)|(split<;>(refine hK _ ?_;clear hK K))))));all_goals (refine wpQuiet_nil ?_;clear k m;intro w m k))|((with_reducible refine lE (fun w o g k K hK=>⟨rfl,?_⟩));simp[results,Tryz.results58,go_sem];refine hK _ ?_;exact⟨by rw[<-HV.out],o⟩))
 all_goals
  clear h1 h2 h3 h4 h5 dh1 dh2 dh3 dh4 dh5 HO HB;refine MN (G:=fun W=>Oper.upon _ _ _ _ _ ((Sem.run _ _ W).andThen _)) ?_;clear k m;intro w m k;rw[@run_makeMap Tryz.prog];go_upto_region 16 with (fail)
  refine aG (G:=fun w0=>Code.wp _ _ _ _ w0) ?_;intro w5 hb5 ho5 hs5;have O5:=aA (m.zO.aB ho5);have HQ:=aA (ho5.got (gB (w:=w) (b:=wo.heap.size)) (by simp));have HM:=aA (qY (kE:=(fun n:Int=>Value.int .i64 n)) (vE:=Value.bool) hb5);have HGM:=aA (Nat.le_trans m.zO.size (Nat.le_refl w.heap.size));have HNE:=aA (show wo.heap.size≠w.heap.size from fun e=>by have:=aF (gB (w:=w) (b:=wo.heap.size));omega);clear k m hb5 ho5 hs5;generalize w.heap.size=mb at HM HGM HNE |-;have m:=iX HQ.out;have k:=m.zK;go_wp2_with ((with_reducible first|refine cU ?_|refine wU ?_);clear k m;intro w m k)
  clear k m;go_loopw [68] (fun vi wr=>∃ k:Nat,k<=sv.length/\vi=.int .i64 k/\fe (WH sv i nodes) sv.length 0=fe (WH sv i nodes) (sv.length-k) k/\mI (fun n:Int=>Value.int .i64 n) Value.bool wr mb (snS (sv.take k))/\Oy [mb] w5 wr) (fun vi _=>sv.length-(intOf vi).toNat)
  case atStart=>exact⟨0,Nat.zero_le _,rfl,rfl,HM.out,aR _ _⟩
  case round =>
   obtain⟨k,hk,rfl,hF,hmf,ho⟩:=hrel;have HMF:=aA hmf;have OA:=aA (O5.out.trans ho (fun q hq=>.inr (by rw[List.mem_singleton.1 hq];exact HGM.out)));have O1:=aA ho;have hq5:=ho.got HQ.out (by have:=HNE.out;simpa using this);have HF:=aA hF;clear hmf ho hF;by_cases hlt:k<sv.length
   ·have hlt3:(k:Int)<(sv.length:Int):=by omega
    have ek:wrap .i64 ((k:Int)+1)=((k+1:Nat):Int):=by rw[IntKind.wrap_i64];omega
    obtain⟨bk,off,hpv,-⟩:=HW.out.it (aR [] wo) hlt
    have HX:=aA (show ∀ w',Oy [] wr w'->w'.cell? ⟨bk,off+k,none⟩=some (.int .i64 (sv.getD k 0))/\bk<w'.heap.size from fun w' o=>by
     obtain⟨b',o',e,z⟩:=HW.out.it (OA.out.aB o) hlt;rw[hpv] at e
     cases e
     exact z)
    have HLK:=aA (show ∀ w',Oy [] wr w'->(Instr.lookup 102 (.map (some mb)) (.int .i64 (sv.getD k 0)) false).run Tryz.prog w'=.ok (.bool (decide (sv.getD k 0∈sv.take k))) w' from fun w' o=>by
     have h:=kM (kE:=(fun n:Int=>Value.int .i64 n)) (vE:=Value.bool) (eF Tryz.underlying3) Tryz.underlying102 (Tryz.zeroValue4 w') (HMF.out.kept o (by simp)) (sv.getD k 0) false;rw[h];unfold snS;by_cases hq:sv.getD k 0∈sv.take k
     ·rw[if_pos hq,eY hq];rfl
     ·rw[if_neg hq,dL hq];rfl)
    have HST:=aA (WS hlt);obtain⟨q,hq⟩:∃ q,WH sv i nodes k=q:=⟨_,rfl⟩
    have HN:=aA (show q≠0->V=q from fun h=>by
     have e:fe (WH sv i nodes) sv.length 0=q:=by rw[HF.out,CX hlt (by rw[hq];exact h),hq]
     rw[<-HV.out,e,if_neg h])
    have HY:=aA (show q=0->fe (WH sv i nodes) sv.length 0=fe (WH sv i nodes) (sv.length-(k+1)) (k+1) from fun h=>by rw[HF.out,uQ hlt (hq.trans h)]);unfold WH at hq;rw[hpv];rw[hpv] at hq5;generalize sv.getD k 0=x at HX HLK HST hq;by_cases x0:x<0
    focus
     rw[if_neg (by rw[bI];omega)] at hq;have dx0:decide (x<0)=true:=decide_eq_true x0
    rotate_left
    have dx0:decide (x<0)=false:=decide_eq_false x0;by_cases x1:nodes<=x
    focus
     rw[if_neg (by rw[bI];omega)] at hq;have dx1:decide (nodes<=x)=true:=decide_eq_true x1
    rotate_left
    have dx1:decide (nodes<=x)=false:=decide_eq_false x1;rw[if_pos (bI.2 (by omega))] at hq;by_cases x2:x=i
    focus
     rw[if_pos x2] at hq;have ix:(x == i)=true:=by simpa using x2
    rotate_left
    rw[if_neg x2] at hq;have ix:(x == i)=false:=by simpa using x2
    by_cases x3:x∈sv.take k
    focus
     rw[if_pos x3] at hq;have hl:=HLK.out wr (aR _ _);rw[decide_eq_true x3] at hl;clear x3
    rotate_left
    focus
     rw[if_neg x3] at hq;have hl:=HLK.out wr (aR _ _);rw[decide_eq_false x3] at hl;have HY2:=aA (HY.out hq.symm);have lk:=(HX.out wr (aR _ _)).2;have ck:=(HX.out wr (aR _ _)).1;clear x3 hq;go_wp2_with (at_mapUpdate;refine aW ?_)
     refine bH ?_;refine iI (kE:=(fun n:Int=>Value.int .i64 n)) (vE:=Value.bool) rfl _ _ _ 102 rfl 3 4 (eF Tryz.underlying3) Tryz.underlying102 mb _ rfl HMF.out x rfl true rfl ?_;intro w9 hm9 ho9 hs9;have HM9:=aA (show mI (fun n:Int=>Value.int .i64 n) Value.bool w9 mb (snS (sv.take (k+1))) by rw[<-HST.out];exact hm9);have O9:=aA (O1.out.trans ho9 (fun q hq=>.inl hq));clear hm9 ho9 hs9 hl;go_wp2_with fail
     go_roundw
     case rel=>exact⟨k+1,by omega,by go_num,HY2.out,HM9.out,O9.out⟩
     case measure=>first|(simp[intOf];done)|(simp[intOf];omega)
    all_goals
     have HVQ:=aA (HN.out (by omega));subst hq;have m:=iX hq5;have k:=m.zK;have c:=HX.out wr (aR _ _);go_wp2_with (first|((with_reducible first|refine cU ?_|refine wU ?_);clear k m c;intro w m k;have c:=HX.out w m.zO)|((with_reducible refine lE (fun w o g k K hK=>⟨rfl,?_⟩));simp[results,Tryz.results58,go_sem];refine hK _ ?_;exact⟨by rw[HVQ.out],OA.out.aB o⟩))
   ·obtain rfl:k=sv.length:=by omega
    have hlt2:decide ((sv.length:Int)<(sv.length:Int))=false:=by simp
    have hV:=HV.out;rw[HF.out,uR (Nat.le_refl _),if_pos rfl] at hV;by_cases s0:st<0
    focus
     rw[if_neg (by rw[bI];omega)] at hV;have ds0:decide (st<0)=true:=decide_eq_true s0
    rotate_left
    have ds0:decide (st<0)=false:=decide_eq_false s0;by_cases s1:1125899906842624<st
    focus
     rw[if_neg (by rw[bI];omega)] at hV;have ds1:decide (1125899906842624<st)=true:=decide_eq_true s1
    rotate_left
    focus
     rw[if_pos (bI.2 (by omega))] at hV;have ds1:decide (1125899906842624<st)=false:=decide_eq_false s1
    all_goals
     have HVQ:=aA hV.symm;clear hV;have m:=iX hq5;have k:=m.zK;go_wp2_with (first|((with_reducible first|refine cU ?_|refine wU ?_);clear k m;intro w m k)|((with_reducible refine lE (fun w o g k K hK=>⟨rfl,?_⟩));simp[results,Tryz.results58,go_sem];refine hK _ ?_;exact⟨by rw[HVQ.out],OA.out.aB o⟩))
end
structure jA where
 l:Lk
 p:Option Addr
 c:Nat
structure wK where
 n:Nd
 ps:Option Addr
 cs:Nat
 pv:Option Addr
 cv:Nat
def lkC (x:jA):List Value:=[.int .i64 x.l.A,.int .i64 x.l.B,.int .i64 x.l.d0,.int .i64 x.l.d1,.int .i64 x.l.v0,.int .i64 x.l.v1,.int .i64 x.l.lo,.int .u64 x.l.sd,.slice x.p x.l.ch.length x.c]
def slV (x:jA):Value:=.agg #[.int .i64 x.l.A,.int .i64 x.l.B,.int .i64 x.l.d0,.int .i64 x.l.d1,.int .i64 x.l.v0,.int .i64 x.l.v1,.int .i64 x.l.lo,.int .u64 x.l.sd,.slice x.p x.l.ch.length x.c]
def ndC (x:wK):List Value:=[.int .i64 x.n.ph,.slice x.ps x.n.sg.length x.cs,.int .i64 x.n.tol,.bool x.n.rf,.int .i64 x.n.er,.int .i64 x.n.st,.slice x.pv x.n.sv.length x.cv]
theorem Q8 (x:jA):(lkC x).length=9:=rfl
theorem Q6 (x:wK):(ndC x).length=7:=rfl
structure jA.Ok (w:World) (x:jA):Prop where
 row:aU chC 3 w x.p x.l.ch.length x.c x.l.ch
 len:x.l.ch.length<=100000
structure wK.Ok (w:World) (x:wK):Prop where
 seg:aU TB 2 w x.ps x.n.sg.length x.cs x.n.sg
 srv:aU wN 1 w x.pv x.n.sv.length x.cv x.n.sv
 len:x.n.sg.length<=100000
 ren:x.n.sv.length<=100000
theorem jA.Ok.kept {w w':World} {x:jA} (h:x.Ok w) (ho:Oy [] w w'):x.Ok w':=⟨h.row.kept ho,h.len⟩
theorem wK.Ok.kept {w w':World} {x:wK} (h:x.Ok w) (ho:Oy [] w w'):x.Ok w':=⟨h.seg.kept ho,h.srv.kept ho,h.len,h.ren⟩
def jI:jA:=⟨zS,none,0⟩
def bD:wK:=⟨nd0,none,0,none,0⟩
theorem aU.lk {w wr:World} {cap k:Nat} {p:Option Addr} {l:List jA} (hv:aU lkC 9 w p l.length cap l) (ho:Oy [] w wr) (hk:k<l.length) :
  ∃ bk off,p=some ⟨bk,off,none⟩/\bk<wr.heap.size/\wr.cell? ⟨bk,off+k*9,none⟩=some (.int .i64 (l.getD k jI).l.A)/\wr.cell? ⟨bk,off+k*9+1,none⟩=some (.int .i64 (l.getD k jI).l.B)
   /\ wr.cell? ⟨bk,off+k*9+2,none⟩=some (.int .i64 (l.getD k jI).l.d0)/\wr.cell? ⟨bk,off+k*9+3,none⟩=some (.int .i64 (l.getD k jI).l.d1)/\wr.cell? ⟨bk,off+k*9+4,none⟩=some (.int .i64 (l.getD k jI).l.v0)
   /\ wr.cell? ⟨bk,off+k*9+5,none⟩=some (.int .i64 (l.getD k jI).l.v1)/\wr.cell? ⟨bk,off+k*9+6,none⟩=some (.int .i64 (l.getD k jI).l.lo)/\wr.cell? ⟨bk,off+k*9+7,none⟩=some (.int .u64 (l.getD k jI).l.sd)
   /\ wr.cell? ⟨bk,off+k*9+8,none⟩=some (.slice (l.getD k jI).p (l.getD k jI).l.ch.length (l.getD k jI).c):=by
 obtain⟨bk,off,hp,hb,hc⟩:=hv.at_ ho (getD_some jI hk);exact⟨bk,off,hp,hb,hc 0 _ rfl,hc 1 _ rfl,hc 2 _ rfl,hc 3 _ rfl,hc 4 _ rfl,hc 5 _ rfl,hc 6 _ rfl,hc 7 _ rfl,hc 8 _ rfl⟩
theorem aU.nd {w wr:World} {cap k:Nat} {p:Option Addr} {l:List wK} (hv:aU ndC 7 w p l.length cap l) (ho:Oy [] w wr) (hk:k<l.length) :
  ∃ bk off,p=some ⟨bk,off,none⟩/\bk<wr.heap.size/\wr.cell? ⟨bk,off+k*7,none⟩=some (.int .i64 (l.getD k bD).n.ph)/\wr.cell? ⟨bk,off+k*7+1,none⟩=some (.slice (l.getD k bD).ps (l.getD k bD).n.sg.length (l.getD k bD).cs)
   /\ wr.cell? ⟨bk,off+k*7+2,none⟩=some (.int .i64 (l.getD k bD).n.tol)/\wr.cell? ⟨bk,off+k*7+3,none⟩=some (.bool (l.getD k bD).n.rf)/\wr.cell? ⟨bk,off+k*7+4,none⟩=some (.int .i64 (l.getD k bD).n.er)
   /\ wr.cell? ⟨bk,off+k*7+5,none⟩=some (.int .i64 (l.getD k bD).n.st)/\wr.cell? ⟨bk,off+k*7+6,none⟩=some (.slice (l.getD k bD).pv (l.getD k bD).n.sv.length (l.getD k bD).cv):=by
 obtain⟨bk,off,hp,hb,hc⟩:=hv.at_ ho (getD_some bD hk);exact⟨bk,off,hp,hb,hc 0 _ rfl,hc 1 _ rfl,hc 2 _ rfl,hc 3 _ rfl,hc 4 _ rfl,hc 5 _ rfl,hc 6 _ rfl⟩
def clE (x:Lk) (RZ:List Lk) (nodes:Int):Int:=
 if dZ x.A 0 (nodes-1)=true/\dZ x.B 0 (nodes-1)=true then (if x.B<=x.A then 12 else if twin RZ x=true then 10 else fP x) else 3
theorem leE_cl (l:List Lk) (nodes:Int) (i:Nat):NS l nodes i=clE (l.getD i zS) (l.take i) nodes:=rfl
def ClI (w:World) (x:Lk) (ls:List jA) (vi:Value) (wr:World):Prop:=
 ∃ k:Nat,k<=ls.length/\vi=.int .i64 k/\twin ((ls.map jA.l).take k) x=false/\Oy [] w wr
theorem pCLink {w:World} {p:Option Addr} {n cap:Nat} {ls:List jA} (x:jA) (nodes:Int) (hx:x.Ok w) (hv:aU lkC 9 w p n cap ls) (hn:n<=100000) :
  Calls Tryz.prog 59 #[slV x,.slice p n cap,.int .i64 nodes] w fun e w'=>e=.returned (.int .i64 (clE x.l (ls.map jA.l) nodes))/\Oy [] w w':=by
 have hl:=hv.len;subst hl;obtain⟨⟨A,B,d0,d1,v0,v1,lo,sd,ch⟩,pc,cc⟩:=x;have HV:=aA hv;have HX:=aA hx;clear hv hx;have HE:=aA (show clE ⟨A,B,d0,d1,v0,v1,lo,sd,ch⟩ (ls.map jA.l) nodes=if dZ A 0 (nodes-1)=true/\dZ B 0 (nodes-1)=true then (if B<=A then 12 else if twin (ls.map jA.l) ⟨A,B,d0,d1,v0,v1,lo,sd,ch⟩=true then 10 else fP ⟨A,B,d0,d1,v0,v1,lo,sd,ch⟩) else 3 from rfl);have HP:=aA (fun (w':World) (ho:Oy [] w w')=>QN (n:=ch.length) ⟨A,B,d0,d1,v0,v1,lo,sd,ch⟩ (HX.out.row.kept ho) HX.out.len);unfold slV;dsimp only at HP |-;unfold VR at HP;dsimp only at HP;generalize clE ⟨A,B,d0,d1,v0,v1,lo,sd,ch⟩ (ls.map jA.l) nodes=res at HE |-;clear HX;go_enter Tryz.func59,Tryz.ntmps59
 go_upto_region 1 with (fail)
 refine aG (G:=fun w0=>Code.wp _ _ _ _ w0) ?_;intro w1 hb1 ho1 hs1;have B1:=aA hb1;have O1:=aA ho1;clear hb1 ho1 hs1;have g0:=aC B1.out 0;have g1:=aC B1.out 1;have l0:=aF B1.out;by_cases hA:dZ A 0 (nodes-1)=true
 ·obtain⟨hA0,hA1⟩:=bI.1 hA
  have hAx:decide (A<0)=false:=by simp;omega
  have hAy:decide (A >= nodes)=false:=by simp;omega
  have hAz:decide (nodes<=A)=false:=by simp;omega
  by_cases hB:dZ B 0 (nodes-1)=true
  ·obtain⟨hB0,hB1⟩:=bI.1 hB
   have hBx:decide (B<0)=false:=by simp;omega
   have hBy:decide (B >= nodes)=false:=by simp;omega
   have hBz:decide (nodes<=B)=false:=by simp;omega
   by_cases ho:B<=A
   ·have ox:decide (A >= B)=true:=eY ho
    have oy:decide (B<=A)=true:=eY ho;have HQ:Hid (res=12):=aA (by rw[HE.out,if_pos ⟨hA,hB⟩,if_pos ho]);clear ho hA hB;go_wp2;go_ret
    exact⟨by rw[HQ.out];rfl,O1.out⟩
   ·have ox:decide (A >= B)=false:=dL ho
    have oy:decide (B<=A)=false:=dL ho;have HR:Hid (res=if twin (ls.map jA.l) ⟨A,B,d0,d1,v0,v1,lo,sd,ch⟩=true then 10 else fP ⟨A,B,d0,d1,v0,v1,lo,sd,ch⟩):=aA (by rw[HE.out,if_pos ⟨hA,hB⟩,if_neg ho]);clear ho hA hB;go_wp2;clear hAx hAy hAz hBx hBy hBz ox oy hA0 hA1 hB0 hB1;go_loopw [36] (fun vi wr=>ClI w1 ⟨A,B,d0,d1,v0,v1,lo,sd,ch⟩ ls vi wr) (fun vi _=>ls.length-(intOf vi).toNat)
    case atStart=>exact⟨0,Nat.zero_le _,rfl,rfl,aR _ _⟩
    case round =>
     clear g0 g1 l0;obtain⟨k,hk,rfl,htw,ho⟩:=hrel;have HT:=aA htw;have OO:=aA ho;have OA:=aA (O1.out.aB ho);have B2:=aA (ho.got B1.out (by simp));clear htw ho;by_cases hlt:k<ls.length
     ·obtain⟨bk,off,hp,lb,c0,c1,c2,c3,c4,c5,c6,c7,c8⟩:=HV.out.lk OA.out hlt
      subst hp;have hgk:=getD_some jI hlt
      have htk:twin ((ls.map jA.l).take (k+1)) ⟨A,B,d0,d1,v0,v1,lo,sd,ch⟩=(decide ((ls.getD k jI).l.A=A) && decide ((ls.getD k jI).l.B=B)):=by
       rw[List.take_add_one,List.getElem?_map,hgk];have:=HT.out;unfold twin at this |-;simp only[Option.map_some,Option.toList_some,List.any_append,this,Bool.false_or,List.any_cons,List.any_nil,Bool.or_false]
      have HTF:Hid (twin ((ls.map jA.l).take (k+1)) ⟨A,B,d0,d1,v0,v1,lo,sd,ch⟩=true->res=10):=aA (fun h=>by
       rw[HR.out,if_pos];unfold twin at h |-;rw[List.any_eq_true] at h |-;obtain⟨y,hy,hq⟩:=h;exact⟨y,List.mem_of_mem_take hy,hq⟩)
      generalize ls.getD k jI=c at c0 c1 c2 c3 c4 c5 c6 c7 c8 htk;have HTK:=aA htk;clear hgk htk;go_upto_region 9 with (fail)
      refine aG (G:=fun w0=>Code.wp _ _ _ _ w0) ?_;intro w4 hb4 ho4 hs4;have E4:=aA hb4;have O4:=aA (OO.out.aB ho4);have OB:=aA (OA.out.aB ho4);have B4:=aA (ho4.got B2.out (by simp));clear hb4 ho4 hs4 c0 c1 c2 c3 c4 c5 c6 c7 c8 lb;have c0:=aC E4.out 0;have c1:=aC E4.out 1;have le:=aF E4.out;have g0:=aC B4.out 0;have g1:=aC B4.out 1;have l0:=aF B4.out;by_cases ha:c.l.A=A
      ·have ax:(c.l.A == A)=true:=by simp[ha]
       by_cases hb:c.l.B=B
       ·have bx:(c.l.B == B)=true:=by simp[hb]
        have HQ:Hid (res=10):=aA (HTF.out (by rw[HTK.out,ha,hb];simp));clear ha hb;go_wp2;go_ret
        exact⟨by rw[HQ.out];rfl,OB.out⟩
       ·have bx:(c.l.B == B)=false:=by simp[hb]
        have HQ:=aA (HTK.out.trans (by rw[dL hb,Bool.and_false]));clear ha hb;go_wp2;go_roundw
        case rel=>exact⟨k+1,by omega,by go_num,HQ.out,O4.out⟩
        case measure=>first|(simp[intOf];done)|(simp[intOf];omega)
      ·have ax:(c.l.A == A)=false:=by simp[ha]
       have HQ:=aA (HTK.out.trans (by rw[dL ha,Bool.false_and]));clear ha;go_wp2;go_roundw
       case rel=>exact⟨k+1,by omega,by go_num,HQ.out,O4.out⟩
       case measure=>first|(simp[intOf];done)|(simp[intOf];omega)
     ·obtain rfl:k=ls.length:=by omega
      have HQ:Hid (res=fP ⟨A,B,d0,d1,v0,v1,lo,sd,ch⟩):=aA (by
       have:=HT.out;rw[List.take_of_length_le (by simp)] at this;rw[HR.out,if_neg (by rw[this];simp)])
      have g2:=aC B2.out 2;have g3:=aC B2.out 3;have g4:=aC B2.out 4;have g5:=aC B2.out 5;have g6:=aC B2.out 6;have g7:=aC B2.out 7;have g8:=aC B2.out 8;have l0:=aF B2.out;go_wp2_with fail
      refine (HP.out wr OA.out).mono ?_;rintro e w5 ⟨rfl,ho5⟩;go_wp2;go_ret
      exact⟨by rw[HQ.out];rfl,OA.out.aB ho5⟩
  ·have HQ:Hid (res=3):=aA (by rw[HE.out,if_neg (fun q=>hB q.2)])
   rcases kD hB with hq|⟨hq,hr⟩
   ·have hBx:decide (B<0)=true:=by simp;omega
    clear hA hB;go_wp2;go_ret
    exact⟨by rw[HQ.out];rfl,O1.out⟩
   ·have hBx:decide (B<0)=false:=by simp;omega
    have hBy:decide (B >= nodes)=true:=by simp;omega
    have hBz:decide (nodes<=B)=true:=by simp;omega
    clear hA hB;go_wp2;go_ret
    exact⟨by rw[HQ.out];rfl,O1.out⟩
 ·have HQ:Hid (res=3):=aA (by rw[HE.out,if_neg (fun q=>hA q.1)])
  rcases kD hA with hq|⟨hq,hr⟩
  ·have hAx:decide (A<0)=true:=by simp;omega
   clear hA;go_wp2;go_ret
   exact⟨by rw[HQ.out];rfl,O1.out⟩
  ·have hAx:decide (A<0)=false:=by simp;omega
   have hAy:decide (A >= nodes)=true:=by simp;omega
   have hAz:decide (nodes<=A)=true:=by simp;omega
   clear hA;go_wp2;go_ret
   exact⟨by rw[HQ.out];rfl,O1.out⟩
structure dW where
 nd:List wK
 lk:List jA
 ft:List Ft
 un:Int
 sd:Int
 pn:Option Addr
 cn:Nat
 pl:Option Addr
 cl:Nat
 pf:Option Addr
 cf:Nat
def dW.sc (s:dW):eU:=⟨s.nd.map wK.n,s.lk.map jA.l,s.ft,s.un,s.sd⟩
def fT (s:dW):Value:=.agg #[.slice s.pn s.nd.length s.cn,.slice s.pl s.lk.length s.cl,.slice s.pf s.ft.length s.cf,.int .i64 s.un,.int .u64 s.sd]
structure dW.Ok (w:World) (s:dW):Prop where
 nd:aU ndC 7 w s.pn s.nd.length s.cn s.nd
 lk:aU lkC 9 w s.pl s.lk.length s.cl s.lk
 ft:aU ftC 5 w s.pf s.ft.length s.cf s.ft
 ndo:∀ x∈s.nd,x.Ok w
 lko:∀ x∈s.lk,x.Ok w
 ln:s.nd.length<=100000
 ll:s.lk.length<=100000
 lf:s.ft.length<=100000
theorem dW.Ok.kept {w w':World} {s:dW} (h:s.Ok w) (ho:Oy [] w w'):s.Ok w':=
 ⟨h.nd.kept ho,h.lk.kept ho,h.ft.kept ho,fun x hx=>(h.ndo x hx).kept ho,fun x hx=>(h.lko x hx).kept ho,h.ln,h.ll,h.lf⟩
def UL (o:Option (Nat × Bool)):Value:=match o with
 | none=>.tuple #[.int .i64 (-1),.int .i64 0]
 | some (i,false)=>.tuple #[.int .i64 i,.int .i64 0]
 | some (i,true)=>.tuple #[.int .i64 i,.int .i64 1]
theorem UM {a b:Int} {l:List Lk} {k:Nat} (hk:k<l.length):NR a b (l.drop k) k=if (l.getD k zS).A=a/\(l.getD k zS).B=b then some (k,false) else if (l.getD k zS).A=b/\(l.getD k zS).B=a then some (k,true) else NR a b (l.drop (k+1)) (k+1):=by
 rw[List.drop_eq_getElem_cons hk,show l.getD k zS=l[k] by simp[List.getD_eq_getElem?_getD,hk]];rfl
def LnI (w:World) (a b:Int) (ls:List jA) (vi:Value) (wr:World):Prop:=
 ∃ k:Nat,k<=ls.length/\vi=.int .i64 k/\UN (ls.map jA.l) a b=NR a b ((ls.map jA.l).drop k) k/\Oy [] w wr
theorem pLnk {w:World} (s:dW) (a b:Int) (hs:s.Ok w) :
  Calls Tryz.prog 60 #[fT s,.int .i64 a,.int .i64 b] w fun e w'=>e=.returned (UL (UN s.sc.lk a b))/\Oy [] w w':=by
 obtain⟨nd,ls,ft,un,sd,pn,cn,p,cap,pf,cf⟩:=s;have hn:=hs.ll;have HV:=aA hs.lk;clear hs;show Calls _ _ _ _ (fun e w'=>e=.returned (UL (UN (ls.map jA.l) a b))/\_)
 unfold fT;dsimp only at hn HV |-;obtain⟨res,hres⟩:∃ res,res=UN (ls.map jA.l) a b:=⟨_,rfl⟩;rw[<-hres];have HRS:=aA hres;clear hres;go_enter Tryz.func60,Tryz.ntmps60
 go_upto_region 1 with (fail)
 refine aG (G:=fun w0=>Code.wp _ _ _ _ w0) ?_;intro w1 hb1 ho1 hs1;have B1:=aA hb1;have O1:=aA ho1;clear hb1 ho1 hs1;have g1:=aC B1.out 1;have l0:=aF B1.out;go_wp2;go_loopw [13] (fun vi wr=>LnI w1 a b ls vi wr) (fun vi _=>ls.length-(intOf vi).toNat)
 case atStart=>exact⟨0,Nat.zero_le _,rfl,rfl,aR _ _⟩
 case round =>
  clear g1 l0;obtain⟨k,hk,rfl,hln,ho⟩:=hrel;have HL:=aA (HRS.out.trans hln);have HL0:=aA hln;have OO:=aA ho;have OA:=aA (O1.out.aB ho);clear hln ho;by_cases hlt:k<ls.length
  ·obtain⟨bk,off,hp,lb,c0,c1,c2,c3,c4,c5,c6,c7,c8⟩:=HV.out.lk OA.out hlt
   subst hp;have hdr:=UM (a:=a) (b:=b) (l:=ls.map jA.l) (k:=k) (by simpa using hlt);rw[show (ls.map jA.l).getD k zS=(ls.getD k jI).l by simp[List.getD_eq_getElem?_getD,hlt]] at hdr;generalize ls.getD k jI=c at c0 c1 c2 c3 c4 c5 c6 c7 c8 hdr;have HD:=aA hdr;clear hdr;go_upto_region 4 with (fail)
   refine aG (G:=fun w0=>Code.wp _ _ _ _ w0) ?_;intro w4 hb4 ho4 hs4;have E4:=aA hb4;have O4:=aA (OO.out.aB ho4);have OB:=aA (OA.out.aB ho4);clear hb4 ho4 hs4 c0 c1 c2 c3 c4 c5 c6 c7 c8 lb;have c0:=aC E4.out 0;have c1:=aC E4.out 1;have le:=aF E4.out;by_cases h1:c.l.A=a/\c.l.B=b
   ·have HQ:Hid (res=some (k,false)):=aA (by rw[HL.out,HD.out,if_pos h1])
    have ax:(c.l.A == a)=true:=by simp[h1.1]
    have bx:(c.l.B == b)=true:=by simp[h1.2]
    clear h1;go_wp2;refine bodyPost_ret (v:=.tuple #[.int .i64 k,.int .i64 0]) (by simp[results,Tryz.results60,go_sem]) rfl ⟨by rw[HQ.out];rfl,OB.out⟩
   ·by_cases h2:c.l.A=b/\c.l.B=a
    ·have HQ:Hid (res=some (k,true)):=aA (by rw[HL.out,HD.out,if_neg h1,if_pos h2])
     have ay:(c.l.A == b)=true:=by simp[h2.1]
     have bY:(c.l.B == a)=true:=by simp[h2.2]
     by_cases h3:c.l.A=a
     focus
      have ax:(c.l.A == a)=true:=by simp[h3]
      have bx:(c.l.B == b)=false:=by rw[beq_eq_false_iff_ne];exact fun q=>h1 ⟨h3,q⟩
     rotate_left
     focus
      have ax:(c.l.A == a)=false:=by simp[h3]
     rotate_left
     all_goals
      clear h1 h2 h3;go_wp2;refine bodyPost_ret (v:=.tuple #[.int .i64 k,.int .i64 1]) (by simp[results,Tryz.results60,go_sem]) rfl ⟨by rw[HQ.out];rfl,OB.out⟩
    ·have HQ:=aA (HL0.out.trans (by rw[HD.out,if_neg h1,if_neg h2]))
     have hAB:∃ x1 x2 x3 x4:Bool,(c.l.A == a)=x1/\(c.l.B == b)=x2/\(c.l.A == b)=x3/\(c.l.B == a)=x4/\(x1 && x2)=false/\(x3 && x4)=false:=by
      refine⟨_,_,_,_,rfl,rfl,rfl,rfl,?_,?_⟩
      ·rw[Bool.eq_false_iff];intro q;rw[Bool.and_eq_true,beq_iff_eq,beq_iff_eq] at q;exact h1 q
      ·rw[Bool.eq_false_iff];intro q;rw[Bool.and_eq_true,beq_iff_eq,beq_iff_eq] at q;exact h2 q
     clear h1 h2;obtain⟨x1,x2,x3,x4,e1,e2,e3,e4,q1,q2⟩:=hAB
     cases x1<;>cases x3
     rotate_left
     focus
      obtain rfl:x4=false:=by simpa using q2
     rotate_left
     focus
      obtain rfl:x2=false:=by simpa using q1
     rotate_left
     focus
      obtain rfl:x2=false:=by simpa using q1
      obtain rfl:x4=false:=by simpa using q2
     rotate_left
     all_goals
      clear q1 q2;go_wp2;go_roundw
      case rel=>exact⟨k+1,by omega,by go_num,HQ.out,O4.out⟩
      case measure=>first|(simp[intOf];done)|(simp[intOf];omega)
  ·obtain rfl:k=ls.length:=by omega
   have HQ:Hid (res=none):=aA (by rw[HL.out,List.drop_of_length_le (by simp)];rfl);go_wp2;refine bodyPost_ret (v:=.tuple #[.int .i64 (-1),.int .i64 0]) (by simp[results,Tryz.results60,go_sem]) rfl ⟨by rw[HQ.out];rfl,OA.out⟩
def chk5 (m:Nat) (ft:List Ft) (un:Int):Int:=if ft.all (fun f=>decide (f.n<m))=true then (if dZ un 1 1125899906842624=true then 0 else 3) else 3
def chk4 (m:Nat) (ft:List Ft) (un:Int):Int:=if tX ft=0 then chk5 m ft un else tX ft
def chk3 (N:List Nd) (L:List Lk) (m:Nat) (ft:List Ft) (un:Int):Int:=if fe (fun i=>Z6 L i (N.getD i nd0)) m 0=0 then chk4 m ft un else 11
def chk2 (N:List Nd) (L:List Lk) (m q:Nat) (ft:List Ft) (un:Int):Int:=if fe (NS L m) q 0=0 then chk3 N L m ft un else fe (NS L m) q 0
def chk1 (N:List Nd) (L:List Lk) (m q:Nat) (ft:List Ft) (un:Int):Int:=if fe (fun i=>MI (N.getD i nd0) i m) m 0=0 then chk2 N L m q ft un else fe (fun i=>MI (N.getD i nd0) i m) m 0
theorem chkS_eq (s:dW):sV s.sc=if s.nd.length=0 then 14 else if 24<s.nd.length\/64<s.lk.length then 6 else chk1 (s.nd.map wK.n) (s.lk.map jA.l) s.nd.length s.lk.length s.ft s.un:=by
 unfold sV dW.sc chk1 chk2 chk3 chk4 chk5;dsimp only;rw[List.length_map,List.length_map]
theorem E9 {ns:List wK} {k:Nat} (hk:k<ns.length):(ns.map wK.n).getD k nd0=(ns.getD k bD).n:=by simp[List.getD_eq_getElem?_getD,hk]
theorem lk_at {ns:List jA} {k:Nat} (hk:k<ns.length):(ns.map jA.l).getD k zS=(ns.getD k jI).l:=by simp[List.getD_eq_getElem?_getD,hk]
theorem bS {α:Type} {l:List α} {k:Nat} (z:α) (h:k<l.length):l.getD k z∈l:=List.mem_of_getElem? (getD_some z h)
def FeI (w:World) (F:Nat->Int) (n:Nat) (vi:Value) (wr:World):Prop:=∃ k:Nat,k<=n/\vi=.int .i64 k/\fe F n 0=fe F (n-k) k/\Oy [] w wr
def AlI {α:Type} (w:World) (P:α->Bool) (l:List α) (vi:Value) (wr:World):Prop:=∃ k:Nat,k<=l.length/\vi=.int .i64 k/\(l.take k).all P=true/\Oy [] w wr
theorem LZ {α:Type} {P:α->Bool} {l:List α} {k:Nat} (z:α) (hk:k<l.length) (h:(l.take k).all P=true):(l.take (k+1)).all P=P (l.getD k z):=by
 rw[List.take_add_one,getD_some z hk];simp[List.all_append,h]
theorem all_no {α:Type} {P:α->Bool} {l:List α} {k:Nat} (z:α) (hk:k<l.length) (h:P (l.getD k z)=false):¬ l.all P=true:=by
 intro q;rw[List.all_eq_true] at q;rw[q _ (bS z hk)] at h
 cases h
theorem XL {w:World} (s:dW) (hs:s.Ok w) :
  Calls Tryz.prog 37 #[fT s] w fun e w'=>e=.returned (.int .i64 (sV s.sc))/\Oy [] w w':=by
 have hE:=chkS_eq s;have hlnk:=fun (a b:Int) (w':World) (ho:Oy [] w w')=>pLnk s a b (hs.kept ho);generalize sV s.sc=res at hE |-;obtain⟨ns,ls,ft,un,sd,pn,cn,pl,cl,pf,cf⟩:=s;have hn:=hs.ln;have hl:=hs.ll;have hf:=hs.lf;have HN:=aA hs.nd;have HL:=aA hs.lk;have HFT:=aA hs.ft;have HNO:=aA hs.ndo;have HLO:=aA hs.lko;clear hs;unfold fT at hlnk |-;dsimp only[dW.sc] at hlnk hE hn hl hf HN HL HFT HNO HLO |-;have HE:=aA hE;have HLNK:=aA hlnk;clear hE hlnk;go_enter Tryz.func37,Tryz.ntmps37
 go_upto_region 1 with (fail)
 refine aG (G:=fun w0=>Code.wp _ _ _ _ w0) ?_;intro w1 hb1 ho1 hs1;have B1:=aA hb1;have O1:=aA ho1;clear hb1 ho1 hs1;have g0:=aC B1.out 0;have g1:=aC B1.out 1;have g2:=aC B1.out 2;have g3:=aC B1.out 3;have g4:=aC B1.out 4;have l0:=aF B1.out;by_cases h0:ns.length=0
 ·have z0:((ns.length:Int) == 0)=true:=by rw[h0];rfl
  have HQ:Hid (res=14):=aA (by rw[HE.out,if_pos h0]);go_wp2;go_ret
  exact⟨by rw[HQ.out];rfl,O1.out⟩
 ·have z0 : ((ns.length:Int) == 0)=false:=by rw[beq_eq_false_iff_ne];omega
  by_cases h24:24<ns.length
  ·have z1:decide ((ns.length:Int) > 24)=true:=eY (by omega)
   have z2:decide (24<(ns.length:Int))=true:=eY (by omega);have HQ:Hid (res=6):=aA (by rw[HE.out,if_neg h0,if_pos (.inl h24)]);go_wp2;go_ret
   exact⟨by rw[HQ.out];rfl,O1.out⟩
  ·have z1 : decide ((ns.length:Int) > 24)=false:=dL (by omega)
   have z2:decide (24<(ns.length:Int))=false:=dL (by omega);by_cases h64:64<ls.length
   ·have z3:decide ((ls.length:Int) > 64)=true:=eY (by omega)
    have z4:decide (64<(ls.length:Int))=true:=eY (by omega);have HQ:Hid (res=6):=aA (by rw[HE.out,if_neg h0,if_pos (.inr h64)]);go_wp2;go_ret
    exact⟨by rw[HQ.out];rfl,O1.out⟩
   ·have z3 : decide ((ls.length:Int) > 64)=false:=dL (by omega)
    have z4:decide (64<(ls.length:Int))=false:=dL (by omega);have z5:True:=trivial;have H1:Hid (res=chk1 (ns.map wK.n) (ls.map jA.l) ns.length ls.length ft un):=aA (by rw[HE.out,if_neg h0,if_neg (fun q=>q.elim h24 h64)]);clear h0 h24 h64;go_wp2;clear z0 z1 z2 z3 z4 z5;go_loopw [35] (fun vi wr=>FeI w1 (fun i=>MI ((ns.map wK.n).getD i nd0) i ns.length) ns.length vi wr) (fun vi _=>ns.length-(intOf vi).toNat)
    case atStart=>exact⟨0,Nat.zero_le _,rfl,rfl,aR _ _⟩
    case round =>
     clear g0 g1 g2 g3 g4 l0;obtain⟨k,hk,rfl,hfe,ho⟩:=hrel;have HF:=aA hfe;have OO:=aA ho;have OA:=aA (O1.out.aB ho);have BB:=aA (ho.got B1.out (by simp));clear hfe ho;by_cases hlt:k<ns.length
     ·obtain⟨bk,off,hp,lb,c0,c1,c2,c3,c4,c5,c6⟩:=HN.out.nd OA.out hlt
      subst hp;have HXO:=aA (HNO.out _ (bS bD hlt));have HNV:=aA (fun (w':World) (ho:Oy [] w w')=>pNode (ns.getD k bD).n k ns.length (HXO.out.seg.kept ho) (HXO.out.srv.kept ho) HXO.out.len HXO.out.ren)
      have HNN:Hid (MI (ns.getD k bD).n k ns.length≠0->res=MI (ns.getD k bD).n k ns.length):=aA (fun h=>by
       have h2:=HF.out.trans (CX hlt (by rw[E9 hlt];exact h));try dsimp only at h2
       rw[E9 hlt] at h2;rw[H1.out];unfold chk1;rw[h2,if_neg h])
      have HNY:Hid (MI (ns.getD k bD).n k ns.length=0->fe (fun i=>MI ((ns.map wK.n).getD i nd0) i ns.length) ns.length 0=fe (fun i=>MI ((ns.map wK.n).getD i nd0) i ns.length) (ns.length-(k+1)) (k+1)):=aA (fun h=>HF.out.trans (uQ hlt (by rw[E9 hlt];exact h)));generalize ns.getD k bD=x at c0 c1 c2 c3 c4 c5 c6 HXO HNV HNN HNY;unfold ndV at HNV;generalize MI x.n k ns.length=er at HNV HNN HNY;go_upto_region 9 with (fail)
      refine aG (G:=fun w0=>Code.wp _ _ _ _ w0) ?_;intro w6 hb6 ho6 hs6;have E6:=aA hb6;have O6:=aA (OO.out.aB ho6);have OB:=aA (OA.out.aB ho6);have B6:=aA (ho6.got BB.out (by simp));clear hb6 ho6 hs6 c0 c1 c2 c3 c4 c5 c6 lb;have c0:=aC E6.out 0;have c1:=aC E6.out 1;have c2:=aC E6.out 2;have c3:=aC E6.out 3;have c4:=aC E6.out 4;have c5:=aC E6.out 5;have c6:=aC E6.out 6;have le:=aF E6.out;have g0:=aC B6.out 0;have g1:=aC B6.out 1;have g2:=aC B6.out 2;have g3:=aC B6.out 3;have g4:=aC B6.out 4;have l0:=aF B6.out;go_wp2_with fail
      refine (HNV.out w6 OB.out).mono ?_;rintro e w7 ⟨rfl,ho7⟩;have O7:=aA (O6.out.aB ho7);have OC:=aA (OB.out.aB ho7);clear ho7 c0 c1 c2 c3 c4 c5 c6 le;clear g0 g1 g2 g3 g4 l0;by_cases h0:er=0
      ·have HQ:=aA (HNY.out h0)
       have ex:(er != 0)=false:=by simp[h0]
       have ey:(er == 0)=true:=by simp[h0]
       clear h0;go_wp2;go_roundw
       case rel=>exact⟨k+1,by omega,by go_num,HQ.out,O7.out⟩
       case measure=>first|(simp[intOf];done)|(simp[intOf];omega)
      ·have HQ:=aA (HNN.out h0)
       have ex:(er != 0)=true:=by simp[h0]
       have ey:(er == 0)=false:=by simp[h0]
       clear h0;go_wp2;go_ret
       exact⟨by rw[HQ.out];rfl,OC.out⟩
     ·have HX0 : fe (fun i=>MI ((ns.map wK.n).getD i nd0) i ns.length) ns.length 0=0:=by rw[HF.out,uR (by omega)]
      obtain rfl:k=ns.length:=by omega
      have H2:Hid (res=chk2 (ns.map wK.n) (ls.map jA.l) ns.length ls.length ft un):=aA (by rw[H1.out];unfold chk1;rw[if_pos HX0]);clear HX0;obtain⟨w2,hwo⟩:∃ wo:World,wo=wr:=⟨_,rfl⟩;subst hwo;have B2:=BB;have O2:=OA;clear BB OA OO HF;have g0:=aC B2.out 0;have g1:=aC B2.out 1;have g2:=aC B2.out 2;have g3:=aC B2.out 3;have g4:=aC B2.out 4;have l0:=aF B2.out;go_wp2;go_loopw [53] (fun vi wr=>FeI w2 (NS (ls.map jA.l) ns.length) ls.length vi wr) (fun vi _=>ls.length-(intOf vi).toNat)
      case atStart=>exact⟨0,Nat.zero_le _,rfl,rfl,aR _ _⟩
      case round =>
       clear g0 g1 g2 g3 g4 l0;obtain⟨k,hk,rfl,hfe,ho⟩:=hrel;have HF:=aA hfe;have OO:=aA ho;have OA:=aA (O2.out.aB ho);have BB:=aA (ho.got B2.out (by simp));clear hfe ho;by_cases hlt:k<ls.length
       ·obtain⟨bk,off,hp,lb,c0,c1,c2,c3,c4,c5,c6,c7,c8⟩:=HL.out.lk OA.out hlt
        have hlc:=HL.out.le;have HXO:=aA (HLO.out _ (bS jI hlt));have hle:NS (ls.map jA.l) ns.length k=clE (ls.getD k jI).l ((ls.take k).map jA.l) ns.length:=by rw[leE_cl,lk_at hlt,List.map_take]
        have HLV:=aA (fun (w':World) (ho:Oy [] w w')=>pCLink (ls.getD k jI) ns.length (HXO.out.kept ho) ((HL.out.take k (Nat.le_of_lt hlt)).kept ho) (by omega));rw[<-hle] at HLV
        have HLN:Hid (NS (ls.map jA.l) ns.length k≠0->res=NS (ls.map jA.l) ns.length k):=aA (fun h=>by
         have h2:=HF.out.trans (CX hlt h);rw[H2.out];unfold chk2;rw[h2,if_neg h])
        have HLY:Hid (NS (ls.map jA.l) ns.length k=0->fe (NS (ls.map jA.l) ns.length) ls.length 0=fe (NS (ls.map jA.l) ns.length) (ls.length-(k+1)) (k+1)):=aA (fun h=>HF.out.trans (uQ hlt h));subst hp;clear hle;generalize ls.getD k jI=x at c0 c1 c2 c3 c4 c5 c6 c7 c8 HXO HLV;unfold slV at HLV;generalize NS (ls.map jA.l) ns.length k=er at HLV HLN HLY;go_upto_region 16 with (fail)
        refine aG (G:=fun w0=>Code.wp _ _ _ _ w0) ?_;intro w6 hb6 ho6 hs6;have E6:=aA hb6;have O6:=aA (OO.out.aB ho6);have OB:=aA (OA.out.aB ho6);have B6:=aA (ho6.got BB.out (by simp));clear hb6 ho6 hs6 c0 c1 c2 c3 c4 c5 c6 c7 c8;have c0:=aC E6.out 0;have c1:=aC E6.out 1;have c2:=aC E6.out 2;have c3:=aC E6.out 3;have c4:=aC E6.out 4;have c5:=aC E6.out 5;have c6:=aC E6.out 6;have c7:=aC E6.out 7;have c8:=aC E6.out 8;have le:=aF E6.out;have g0:=aC B6.out 0;have g1:=aC B6.out 1;have g2:=aC B6.out 2;have g3:=aC B6.out 3;have g4:=aC B6.out 4;have l0:=aF B6.out;have z1:(k:Int)<=(cl:Int):=by omega
        have z2:k<=cl:=by omega
        refine aP [0,1,2,3,4,5,6,7] [8,9] (by kernel_rfl) (by kernel_rfl) ?_;simp only[bV];iterate 8 (refine wpQuiet_step (fun K hK=>?_);go_simp;refine hK _ ?_;clear hK K)
        refine wpQuiet_nil ?_;intro w7 hw7;have O7:=aA (O6.out.aB (aN hw7));have OC:=aA (OB.out.aB (aN hw7));clear hw7 c0 c1 c2 c3 c4 c5 c6 c7 c8 le g0 g1 g2 g3 g4 l0 z1 z2;go_wp2_with fail
        refine (HLV.out w7 OC.out).mono ?_;rintro e w8 ⟨rfl,ho8⟩;have O8:=aA (O7.out.aB ho8);have OD:=aA (OC.out.aB ho8);clear ho8;by_cases h0:er=0
        ·have HQ:=aA (HLY.out h0)
         have ex:(er != 0)=false:=by simp[h0]
         have ey:(er == 0)=true:=by simp[h0]
         clear h0;go_wp2;go_roundw
         case rel=>exact⟨k+1,by omega,by go_num,HQ.out,O8.out⟩
         case measure=>first|(simp[intOf];done)|(simp[intOf];omega)
        ·have HQ:=aA (HLN.out h0)
         have ex:(er != 0)=true:=by simp[h0]
         have ey:(er == 0)=false:=by simp[h0]
         clear h0;go_wp2;go_ret
         exact⟨by rw[HQ.out];rfl,OD.out⟩
       ·have HX0:fe (NS (ls.map jA.l) ns.length) ls.length 0=0:=by rw[HF.out,uR (by omega)]
        obtain rfl:k=ls.length:=by omega
        have H3:Hid (res=chk3 (ns.map wK.n) (ls.map jA.l) ns.length ft un):=aA (by rw[H2.out];unfold chk2;rw[if_pos HX0]);clear HX0;obtain⟨w3,hwo⟩:∃ wo:World,wo=wr:=⟨_,rfl⟩;subst hwo;have B3:=BB;have O3:=OA;clear BB OA OO HF;have g0:=aC B3.out 0;have g1:=aC B3.out 1;have g2:=aC B3.out 2;have g3:=aC B3.out 3;have g4:=aC B3.out 4;have l0:=aF B3.out;go_wp2;go_loopw [74] (fun vi wr=>FeI w3 (fun i=>Z6 (ls.map jA.l) i ((ns.map wK.n).getD i nd0)) ns.length vi wr) (fun vi _=>ns.length-(intOf vi).toNat)
        case atStart=>exact⟨0,Nat.zero_le _,rfl,rfl,aR _ _⟩
        case round =>
         clear g0 g1 g2 g3 g4 l0;obtain⟨k,hk,rfl,hfe,ho⟩:=hrel;have HF:=aA hfe;have OO:=aA ho;have OA:=aA (O3.out.aB ho);have BB:=aA (ho.got B3.out (by simp));clear hfe ho;by_cases hlt:k<ns.length
         ·obtain⟨bk,off,hp,lb,c0,c1,c2,c3,c4,c5,c6⟩:=HN.out.nd OA.out hlt
          subst hp;have HXO:=aA (HNO.out _ (bS bD hlt))
          have HJN:Hid (Z6 (ls.map jA.l) k (ns.getD k bD).n=11->res=11):=aA (fun h=>by
           have h2:=HF.out.trans (CX hlt (by rw[E9 hlt,h];decide));try dsimp only at h2
           rw[E9 hlt,h] at h2;rw[H3.out];unfold chk3;rw[h2];rfl)
          have HJY:Hid (Z6 (ls.map jA.l) k (ns.getD k bD).n=0->fe (fun i=>Z6 (ls.map jA.l) i ((ns.map wK.n).getD i nd0)) ns.length 0=fe (fun i=>Z6 (ls.map jA.l) i ((ns.map wK.n).getD i nd0)) (ns.length-(k+1)) (k+1)):=aA (fun h=>HF.out.trans (uQ hlt (by rw[E9 hlt,h])));generalize ns.getD k bD=x at c0 c1 c2 c3 c4 c5 c6 HXO HJN HJY;have hxr:=HXO.out.ren;go_upto_region 23 with (fail)
          refine aG (G:=fun w0=>Code.wp _ _ _ _ w0) ?_;intro w6 hb6 ho6 hs6;have E6:=aA hb6;have O6:=aA (OO.out.aB ho6);have OB:=aA (OA.out.aB ho6);have B6:=aA (ho6.got BB.out (by simp));clear hb6 ho6 hs6 c0 c1 c2 c3 c4 c5 c6 lb;have s6:=aC E6.out 6;have ls6:=aF E6.out;have g0:=aC B6.out 0;have g1:=aC B6.out 1;have g2:=aC B6.out 2;have g3:=aC B6.out 3;have g4:=aC B6.out 4;have l0:=aF B6.out;go_wp2;go_loopw [82] (fun vi wr=>AlI w6 (fun v=>(UN (ls.map jA.l) k v).isSome) x.n.sv vi wr) (fun vi _=>x.n.sv.length-(intOf vi).toNat)
          case atStart=>exact⟨0,Nat.zero_le _,rfl,rfl,aR _ _⟩
          case round =>
           clear s6 ls6 g0 g1 g2 g3 g4 l0;obtain⟨j,hj,rfl,hall,ho⟩:=hrel;have HA:=aA hall;have OO':=aA (O6.out.aB ho);have OA':=aA (OB.out.aB ho);have BB':=aA (ho.got B6.out (by simp));have OI:=aA ho;clear hall ho;by_cases hlj:j<x.n.sv.length
           ·obtain⟨bk,off,hp,c0,lb⟩:=(HXO.out.srv).it OA'.out hlj
            have hp6:=hp;have HTK:=aA (LZ (P:=fun v=>(UN (ls.map jA.l) k v).isSome) 0 hlj HA.out);have HBD:Hid ((UN (ls.map jA.l) k (x.n.sv.getD j 0)).isSome=false->Z6 (ls.map jA.l) k x.n=11):=aA (fun h=>by unfold Z6;rw[if_neg (all_no (P:=fun v=>(UN (ls.map jA.l) k v).isSome) 0 hlj h)]);generalize x.n.sv.getD j 0=v at c0 HTK HBD;have g0:=aC BB'.out 0;have g1:=aC BB'.out 1;have g2:=aC BB'.out 2;have g3:=aC BB'.out 3;have g4:=aC BB'.out 4;have l0:=aF BB'.out;rw[hp];clear hp6;go_wp2_with fail
            refine (HLNK.out k v wr OA'.out).mono ?_;rintro e w7 ⟨rfl,ho7⟩;have O7:=aA (OI.out.aB ho7);have OC:=aA (OA'.out.aB ho7);clear ho7;clear g0 g1 g2 g3 g4 l0 c0 lb;generalize UN (ls.map jA.l) k v=o at HTK HBD |-;rcases o with _|⟨i,d⟩
            ·have HQ:Hid (res=11):=aA (HJN.out (HBD.out rfl))
             unfold UL;dsimp only;go_wp2;go_ret
             exact⟨by rw[HQ.out];rfl,OC.out⟩
            ·have ix:decide ((i:Int)<0)=false:=dL (by omega)
             have HQ:=aA (HTK.out.trans rfl)
             cases d
             rotate_left
             rotate_left
             all_goals
              unfold UL;dsimp only;go_wp2;go_roundw
              case rel=>exact⟨j+1,by omega,by go_num,HQ.out,O7.out⟩
              case measure=>first|(simp[intOf];done)|(simp[intOf];omega)
           ·obtain rfl:j=x.n.sv.length:=by omega
            have hal:=HA.out;rw[List.take_of_length_le (Nat.le_refl _)] at hal;have HQ:=aA (HJY.out (by unfold Z6;rw[if_pos hal]));clear hal;go_wp2;go_roundw
            case rel=>exact⟨k+1,by omega,by go_num,HQ.out,OO'.out⟩
            case measure=>first|(simp[intOf];done)|(simp[intOf];omega)
         ·have HX0:fe (fun i=>Z6 (ls.map jA.l) i ((ns.map wK.n).getD i nd0)) ns.length 0=0:=by rw[HF.out,uR (by omega)]
          obtain rfl:k=ns.length:=by omega
          have H4:Hid (res=chk4 ns.length ft un):=aA (by rw[H3.out];unfold chk3;rw[if_pos HX0]);clear HX0;obtain⟨w4,hwo⟩:∃ wo:World,wo=wr:=⟨_,rfl⟩;subst hwo;have B4:=BB;have O4:=OA;clear BB OA OO HF;have g0:=aC B4.out 0;have g1:=aC B4.out 1;have g2:=aC B4.out 2;have g3:=aC B4.out 3;have g4:=aC B4.out 4;have l0:=aF B4.out;go_wp2_with fail
          refine (NG (HFT.out.kept O4.out) hf).mono ?_;rintro e w5 ⟨rfl,ho5⟩;have B5:=aA (ho5.got B4.out (by simp));have O5:=aA (O4.out.aB ho5);clear ho5;clear g0 g1 g2 g3 g4 l0;have g0:=aC B5.out 0;have g1:=aC B5.out 1;have g2:=aC B5.out 2;have g3:=aC B5.out 3;have g4:=aC B5.out 4;have l0:=aF B5.out;by_cases hc:tX ft=0
          ·have H5:Hid (res=chk5 ns.length ft un):=aA (by rw[H4.out];unfold chk4;rw[if_pos hc])
           rw[hc];clear hc;go_wp2;go_loopw [106] (fun vi wr=>AlI w5 (fun f:Ft=>decide (f.n<(ns.length:Int))) ft vi wr) (fun vi _=>ft.length-(intOf vi).toNat)
           case atStart=>exact⟨0,Nat.zero_le _,rfl,rfl,aR _ _⟩
           case round =>
            clear g0 g1 g2 g3 g4 l0;obtain⟨k,hk,rfl,hfe,ho⟩:=hrel;have HF:=aA hfe;have OO:=aA ho;have OA:=aA (O5.out.aB ho);have BB:=aA (ho.got B5.out (by simp));clear hfe ho;by_cases hlt:k<ft.length
            ·obtain⟨bk,off,hp,c0,c1,c2,c3,c4,lb⟩:=HFT.out.ft OA.out hlt
             subst hp;have HTK:=aA (LZ mD hlt HF.out);have HBD:Hid (decide ((ft.getD k mD).n<(ns.length:Int))=false->res=3):=aA (fun h=>by rw[H5.out];unfold chk5;rw[if_neg (all_no (P:=fun f:Ft=>decide (f.n<(ns.length:Int))) mD hlt h)]);generalize ft.getD k mD=f at c0 c1 c2 c3 c4 HTK HBD;go_upto_region 37 with (fail)
             refine aG (G:=fun w0=>Code.wp _ _ _ _ w0) ?_;intro w6 hb6 ho6 hs6;have E6:=aA hb6;have O6:=aA (OO.out.aB ho6);have OB:=aA (OA.out.aB ho6);have B6:=aA (ho6.got BB.out (by simp));clear hb6 ho6 hs6 c0 c1 c2 c3 c4 lb;have c0:=aC E6.out 0;have le:=aF E6.out;have g0:=aC B6.out 0;have l0:=aF B6.out;by_cases hc:f.n<(ns.length:Int)
             ·have cx:decide (f.n >= (ns.length:Int))=false:=dL (by omega)
              have cy:decide ((ns.length:Int)<=f.n)=false:=dL (by omega);have HQ:=aA (HTK.out.trans (eY hc));clear hc;go_wp2;go_roundw
              case rel=>exact⟨k+1,by omega,by go_num,HQ.out,O6.out⟩
              case measure=>first|(simp[intOf];done)|(simp[intOf];omega)
             ·have cx:decide (f.n >= (ns.length:Int))=true:=eY (by omega)
              have cy:decide ((ns.length:Int)<=f.n)=true:=eY (by omega);have HQ:=aA (HBD.out (dL hc));clear hc;go_wp2;go_ret
              exact⟨by rw[HQ.out];rfl,OB.out⟩
            ·obtain rfl:k=ft.length:=by omega
             have hal:=HF.out;rw[List.take_of_length_le (Nat.le_refl _)] at hal;have HU:Hid (res=if dZ un 1 1125899906842624=true then 0 else 3):=aA (by rw[H5.out];unfold chk5;rw[if_pos hal]);clear hal;have g0:=aC BB.out 0;have g1:=aC BB.out 1;have g2:=aC BB.out 2;have g3:=aC BB.out 3;have g4:=aC BB.out 4;have l0:=aF BB.out;by_cases hu:dZ un 1 1125899906842624=true
             ·obtain⟨u0,u1⟩:=bI.1 hu
              have ux:decide (un<1)=false:=dL (by omega);have uy:decide (un > 1125899906842624)=false:=dL (by omega);have uz:decide (1125899906842624<un)=false:=dL (by omega);have HQ:Hid (res=0):=aA (by rw[HU.out,if_pos hu]);clear hu;go_wp2;go_ret
              exact⟨by rw[HQ.out];rfl,OA.out⟩
             ·have HQ:Hid (res=3):=aA (by rw[HU.out,if_neg hu])
              rcases kD hu with hq|⟨hq,hr⟩
              ·have ux:decide (un<1)=true:=eY (by omega)
               clear hu;go_wp2;go_ret
               exact⟨by rw[HQ.out];rfl,OA.out⟩
              ·have ux:decide (un<1)=false:=dL (by omega)
               have uy:decide (un > 1125899906842624)=true:=eY (by omega);have uz:decide (1125899906842624<un)=true:=eY (by omega);clear hu;go_wp2;go_ret
               exact⟨by rw[HQ.out];rfl,OA.out⟩
          ·have HQ:Hid (res=tX ft):=aA (by rw[H4.out];unfold chk4;rw[if_neg hc])
           have cx:(tX ft != 0)=true:=by simp[hc]
           have cy:(tX ft == 0)=false:=by simp[hc]
           clear hc;go_wp2;go_ret
           exact⟨by rw[HQ.out];rfl,O5.out⟩
end Go.Proofs.YtppjhbjmfkiejaaGreat
