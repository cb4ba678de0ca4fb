/- O8 Ob O9 Oc -/
import Derived.Test.YtppjhbjmfkiejaaGreatFO7
import Derived.Test.YtppjhbjmfkiejaaGreatFNw
import Derived.Deep.LoopGhost
import Derived.Handy
namespace Go.Proofs.YtppjhbjmfkiejaaGreat
set_option linter.all false
open IntKind (wrap_i64)
set_option maxRecDepth 100000
set_option maxHeartbeats 8000000
open Go.RowKit Go.Sort
open IntKind (wrap)
def StpE (R:List (Int × Int)) (s:eU) (st:bT) (t:Int) (e:EvS) (st':bT):Prop:=match e with
 | .poll p=>st'=pX R s st t p
 | .req p h=>st'=sQ s st t p h
 | .dep p h v=>st'=C8 R s st t p h v
 | .rep p h v=>EL s st t p h v st'
theorem tH.of {R:List (Int × Int)} {s:eU} {st st':bT} {x:Ev} {r:List Ev} (hq:st.q=x::r) {e:EvS} (he:st.ev.getD x.x.toNat U2=e) (h:StpE R s { st with q:=r,tm:=x.t } x.t e st'):tH R s st st':=by
 refine⟨x,r,hq,?_⟩;unfold U2 at he;rw[he]
 cases e<;>exact h
def hapF:EvS->FuncId
 | .poll _=>144
 | .req _ _=>171
 | .dep _ _ _=>228
 | .rep _ _ _=>229
def HapE (R:List (Int × Int)) (w0 wb:World) (own:Col) (s:dW) (p:kI) (st:bT) (t:Int) (b:Nat) (e:EvS) (r:Ending) (w':World):Prop:=
 ∃ ok st' e',r=.returned (.bool ok)/\pO w0 wb own s p st' b e' w'/\FM e'=FM e/\oC s.sc e'.trp/\st'.lgs=st.lgs/\StpE R s.sc st t e (if ok=true then iW s.sc st' e' t else st')
theorem hap_req {w0 w:World} {own:Col} {s:dW} {p:kI} {st:bT} (h:aX w0 w own s p st) (hs0:fK w0 s) (hpu:st.pu=st.ev.length) (hle:st.ev.length<=1000000000) (t:Int) (t0:0<=t) (t1:t<=1125899906842624) (q:AJ) (z:Np) (he:oC s.sc q) (hV:∀ i c,gW st i=some c->yL c) {b j:Nat} (hb:own b=some (.V j)) (hc:w.heap[b]? = some (.cells (wD (.req q z)).toArray (xP (.req q z)) (0,0))) {R:List (Int × Int)} :
  Calls Tryz.prog (hapF (.req q z)) #[.pointer (some ⟨b,0,none⟩),.pointer (some ⟨p.bw,0,none⟩),.int .i64 t] w (HapE R w0 w own s p st t b (.req q z)):=by
 have hs:=hs0.kept h.only
 cases ha:(fG s.sc st q.s z t).2.2 with
 | false =>
  refine (BQ h hs hpu hle t t0 t1 q z he (fun c=>hV _ c) (RR:=st) (by rw[ha,if_neg (by decide)]) hb hc).mono ?_;rintro r w' ⟨rfl,hr⟩;refine⟨true,st,.req q z,rfl,hr,rfl,he,rfl,?_⟩;show _=sQ s.sc st t q z
  unfold sQ;dsimp only;rw[ha,if_pos rfl,if_neg (by decide)]
 | true =>
  cases hd:(mG s.ft q.s t (fG s.sc st q.s z t).1 (fG s.sc st q.s z t).2.1).drop with
  | true =>
   refine (BQ h hs hpu hle t t0 t1 q z he (fun c=>hV _ c) (RR:=st) (by rw[ha,if_pos rfl,hd,if_pos rfl]) hb hc).mono ?_;rintro r w' ⟨rfl,hr⟩;refine⟨true,st,.req q z,rfl,hr,rfl,he,rfl,?_⟩;show _=sQ s.sc st t q z
   unfold sQ;dsimp only;rw[ha,if_pos rfl,if_pos rfl,if_pos (show (mG s.sc.ft q.s t (fG s.sc st q.s z t).1 (fG s.sc st q.s z t).2.1).drop=true from hd)]
  | false =>
   refine (BQ h hs hpu hle t t0 t1 q z he (fun c=>hV _ c) (by rw[ha,if_pos rfl,hd,if_neg (by decide)]) hb hc).mono ?_;rintro r w' ⟨rfl,hr⟩;refine⟨true,_,.req q z,rfl,hr,rfl,he,(eT ..).2.2.2.1,?_⟩;show _=sQ s.sc st t q z
   unfold sQ;dsimp only;rw[ha,if_pos rfl,if_pos rfl,if_neg (show ¬ (mG s.sc.ft q.s t (fG s.sc st q.s z t).1 (fG s.sc st q.s z t).2.1).drop=true by rw[show (mG s.sc.ft q.s t (fG s.sc st q.s z t).1 (fG s.sc st q.s z t).2.1).drop=false from hd];decide)];rfl
theorem pHappen {w0 w:World} {own:Col} {s:dW} {p:kI} {st:bT} (h:aX w0 w own s p st) (hs0:fK w0 s) {R:List (Int × Int)} (hR0:rQ w0 R) (hI:eB s.sc st) (hF:wM s.sc st) (hle:tot s.sc st+10<=1000000000) (t:Int) (t0:0<=t) (t1:t<=1125899906842624) (e:EvS) (he:DZ s.sc e)
  {b j:Nat} (hb:own b=some (.V j)) (hj:∀ x∈st.q,x.x≠j) (hjl:j<st.ev.length) (hc:w.heap[b]? = some (.cells (wD e).toArray (xP e) (0,0))) :
  Calls Tryz.prog (hapF e) #[.pointer (some ⟨b,0,none⟩),.pointer (some ⟨p.bw,0,none⟩),.int .i64 t] w (HapE R w0 w own s p st t b e):=by
 have hs:=hs0.kept h.only;have hR:=hR0.kept h.only;have htr:=arv_ev he
 have hb2:st.ev.length+2<=1000000000/\st.sent+2<=1000000000/\st.mks.length<=1000000000:=by
  unfold tot at hle;have:=hI.sn;omega
 have hcl:∃ c,gW st e.trp.c=some c:=by
  obtain⟨⟨i,_,h1,_,h3,_,h5⟩,_⟩:=htr;obtain⟨c,hc⟩:=hF i h3 h5;exact⟨c,by rw[h1];exact sK.2 hc⟩
 obtain⟨c,hcl⟩:=hcl
 cases e with
 | poll q =>
  refine (pPoll h hs0 hR0 hI.pu (by omega) hI.sn (by omega) t t0 t1 q htr hcl (hI.of hcl) hb hj hjl hc).mono ?_;rintro r w' ⟨rfl,hr⟩;refine⟨_,_,_,rfl,hr,?_,?_,?_,polS_eq hcl ▸ rfl⟩
  ·unfold vO;split<;>rfl
  ·unfold vO
   split
   ·exact htr.num hI.sn (by omega)
   ·exact htr
  ·unfold vO
   split
   ·have e1:=(eT s.sc st (t+16000000000) (.poll ⟨q.c,q.i,q.s,0⟩)).2.2.2.1
    dsimp only;split
    ·exact e1
    ·rw[(eT ..).2.2.2.1];exact e1
   ·exact (eT ..).2.2.2.1
 | req q z=>exact hap_req h hs0 hI.pu (by omega) t t0 t1 q z htr (fun i c hc=>hI.of hc) hb hc
 | dep q z y =>
  refine (pDepart h hs hR hI.pu (by omega) t t0 t1 q z y htr hb hc).mono ?_;rintro r w' ⟨rfl,hr⟩;refine⟨true,_,.dep q z y,rfl,hr,rfl,htr,?_,?_⟩
  ·split
   ·rfl
   ·exact (eT ..).2.2.2.1
  ·show _=C8 R s.sc st t q z y
   rw[if_pos rfl];rfl
 | rep q z y =>
  refine (pRepl h hs0 hb2.2.2 t t0 t1 q z y htr he.2 hcl (hI.of hcl) hb hc).mono ?_;rintro r w' ⟨a,er,c2,hu,rfl,hr⟩;refine⟨true,_,.rep q z y,rfl,hr,rfl,htr,?_,?_⟩
  ·split<;>rfl
  ·show EL s.sc st t q z y _
   unfold EL;rw[show gW st q.c=some c from hcl];exact⟨a,er,c2,hu,by rw[if_pos rfl]⟩
section
def nwV (x:wK):Value:=.agg #[.int .i64 x.n.ph,.slice x.ps x.n.sg.length x.cs,.int .i64 x.n.tol,.bool x.n.rf,.int .i64 x.n.er,.int .i64 x.n.st,.slice x.pv x.n.sv.length x.cv]
def iC (n:Nd) (k:Nat):Int:=n.st+k*1000000
def jR (un:Int) (n:Nd):Nat->Int
 | 0=>0
 | k+1=>jR un n k+(if iC n k<=un then (un-iC n k) / 16000000000+1 else 0)
def nL (s:eU):Nat->Int
 | 0=>0
 | i+1=>nL s i+(if uP (bX s i)=true then jR s.un (bX s i) (bX s i).sv.length else 0)
def BO (s:eU):Int:=nL s s.nd.length
theorem BP {un:Int} {n:Nd} (h0:0<=n.st) (h1:un<=1125899906842624):∀ k,0<=jR un n k/\jR un n k<=k*70369
 | 0=>by simp[jR]
 |k+1=>by
  have:=BP (n:=n) h0 h1 k;unfold jR;split
  ·unfold iC at *;omega
  ·omega
theorem J7 {s:eU} (h:∀ i:Nat,0<=(bX s i).st/\(bX s i).sv.length<=12) (h1:s.un<=1125899906842624):∀ k,0<=nL s k/\nL s k<=k*844428
 | 0=>by simp[nL]
 |k+1=>by
  have:=J7 h h1 k;have h2:=h k;have:=BP (n:=bX s k) h2.1 h1 (bX s k).sv.length;unfold nL;split<;>omega
theorem EY (x:wK) (w:World) :
  Calls Tryz.prog 41 #[nwV x] w fun e w'=>e=.returned (.bool (uP x.n))/\Oy [] w w':=by
 obtain⟨⟨n1,n2,n3,n4,n5,n6,n7⟩,ps,cs,pv,cv⟩:=x;unfold nwV uP;dsimp only;generalize n7.length=l at *
 cases n4
 focus
  have h:decide (0<(l:Int))=decide (0<l):=by rw[Bool.eq_iff_iff];simp
 rotate_left
 rotate_left
 all_goals
  have m:=bJ w [];have k:=m.zK;go_enter Tryz.func41,Tryz.ntmps41
  go_wp2_with (first|((with_reducible refine wU ?_);clear k m;intro w m k)|((with_reducible refine lE (fun w o g k K hK=>⟨rfl,?_⟩));simp[results,Tryz.results41,go_sem];refine hK _ ?_;exact⟨rfl,o⟩))
theorem Y5 (x:wK) (k:Nat) (h0:0<=x.n.st/\x.n.st<=1125899906842624) (h1:k<=1000) (w:World) :
  Calls Tryz.prog 45 #[nwV x,.int .i64 k] w fun e w'=>e=.returned (.int .i64 (iC x.n k))/\Oy [] w w':=by
 obtain⟨⟨n1,n2,n3,n4,n5,n6,n7⟩,ps,cs,pv,cv⟩:=x;unfold nwV iC
 dsimp only at h0 |-;have e1:wrap .i64 ((k:Int)*1000000)=(k:Int)*1000000:=by rw[wrap_i64];omega
 have e2:wrap .i64 (n6+(k:Int)*1000000)=n6+(k:Int)*1000000:=by rw[wrap_i64];omega
 have m:=bJ w [];have k:=m.zK;go_enter Tryz.func45,Tryz.ntmps45
 go_wp2_with (first|((with_reducible refine wU ?_);clear k m;intro w m k)|((with_reducible refine lE (fun w o g k K hK=>⟨rfl,?_⟩));simp[results,Tryz.results45,go_sem];refine hK _ ?_;exact⟨rfl,o⟩))
theorem pPolls {w:World} {s:dW} (hs:fK w s) :
  Calls Tryz.prog 39 #[fT s] w fun e w'=>e=.returned (.int .i64 (BO s.sc))/\Oy [] w w':=by
 have HS:=aA hs;have HV:=aA hs.ok.nd;have hun:=hs.un;have hnl:=hs.nl;have hln:=hs.ok.ln
 have HBD:=aA (show ∀ k,0<=nL s.sc k/\nL s.sc k<=k*844428 from J7 (fun i=>by
  rw[fH];by_cases hi:i<s.nd.length
  ·have hm:=bS bD hi
   exact⟨(hs.nst _ hm).1,hs.nsv _ hm⟩
  ·rw[List.getD_eq_getElem?_getD,List.getElem?_eq_none (by omega)]
   exact⟨Int.le_refl _,Nat.zero_le _⟩) hun.2)
 have hpf:BO s.sc=nL s.sc s.nd.length:=by unfold BO;congr 1;unfold dW.sc;simp
 rw[hpf]
 have HSTEP:=aA (fun i=>show nL s.sc (i+1)=nL s.sc i+(if uP (s.nd.getD i bD).n=true then jR s.un (s.nd.getD i bD).n (s.nd.getD i bD).n.sv.length else 0) by
  conv=>lhs;unfold nL
  rw[fH];rfl)
 clear hs hpf;obtain⟨f,hf⟩:∃ f,f=nL s.sc:=⟨_,rfl⟩;rw[<-hf] at HBD |-;have HST:=aA (fun i=>by have:=HSTEP.out i;rw[<-hf] at this;exact this);have HZ:=aA (show f 0=0 by rw[hf];rfl);clear hf HSTEP;obtain⟨nd,lk,ft,un,sd,pn,cn,pl,cl,pf,cf⟩:=s;unfold fT;dsimp only at *;obtain⟨wo,rfl⟩:∃ wo:World,wo=w:=⟨_,rfl⟩;have m:=bJ wo [];have k:=m.zK;go_enter Tryz.func39,Tryz.ntmps39
 go_wp2_with ((with_reducible first|refine cU ?_|refine wU ?_);clear k m;intro w m k)
 have OB:=aA m.zO;have hbx:=gB (w:=w) (b:=wo.heap.size);generalize wo.heap.size=bs at hbx |-;have HBX:=aA hbx;clear k m hbx;obtain⟨wl,rfl⟩:∃ wl:World,wl=w:=⟨_,rfl⟩;go_loopw [3,11] (fun vc vi wr=>∃ i:Nat,i<=nd.length/\vi=.int .i64 i/\vc=.int .i64 (f i)/\Oy [] wl wr) (fun _ vi _=>nd.length-(intOf vi).toNat)
 case atStart=>exact⟨0,Nat.zero_le _,rfl,by rw[HZ.out],aR _ _⟩
 case round =>
  obtain⟨i,hi,rfl,rfl,ho⟩:=hrel;have OO:=aA ho;have HB:=aA (ho.got HBX.out (by simp));clear ho;by_cases hlt:i<nd.length
  ·have hlt2:(i:Int)<(nd.length:Int):=by omega
   obtain⟨bk,off,rfl,-⟩:=HV.out.nd (aR [] wo) hlt;have hm:=bS bD hlt;have hn:=HS.out.nst _ hm;have hv:=HS.out.nsv _ hm;have HF:=aA (fun w' k h=>Y5 (nd.getD i bD) k hn h w');have HIC:=aA (fun w'=>EY (nd.getD i bD) w')
   have HX:=aA (show ∀ w',Oy [] wr w'->bk<w'.heap.size/\w'.cell? ⟨bk,off+i*7,none⟩=some (.int .i64 (nd.getD i bD).n.ph)/\w'.cell? ⟨bk,off+i*7+1,none⟩=some (.slice (nd.getD i bD).ps (nd.getD i bD).n.sg.length (nd.getD i bD).cs)/\w'.cell? ⟨bk,off+i*7+2,none⟩=some (.int .i64 (nd.getD i bD).n.tol)/\w'.cell? ⟨bk,off+i*7+3,none⟩=some (.bool (nd.getD i bD).n.rf)/\w'.cell? ⟨bk,off+i*7+4,none⟩=some (.int .i64 (nd.getD i bD).n.er)/\w'.cell? ⟨bk,off+i*7+5,none⟩=some (.int .i64 (nd.getD i bD).n.st)/\w'.cell? ⟨bk,off+i*7+6,none⟩=some (.slice (nd.getD i bD).pv (nd.getD i bD).n.sv.length (nd.getD i bD).cv) from fun w' o=>by
    obtain⟨b',o',e,c1,c2,c3,c4,c5,c6,c7,c8⟩:=HV.out.nd ((OB.out.aB OO.out).aB o) hlt
    cases e
    exact⟨c1,c2,c3,c4,c5,c6,c7,c8⟩)
   have hst:=HST.out i;have hb1:=HBD.out i;have hb2:=HBD.out (i+1);have ei:wrap .i64 ((i:Int)+1)=((i+1:Nat):Int):=by rw[wrap_i64];omega
   have HNB:=aA (fun k=>BP (un:=un) (n:=(nd.getD i bD).n) hn.1 hun.2 k);clear hm;have hlt3:i<nd.length:=hlt;generalize nd.getD i bD=x at HF HIC HX hst hn hv HNB;obtain⟨⟨x1,x2,x3,x4,x5,x6,x7⟩,ps,cs,pv,cv⟩:=x;unfold nwV at HF HIC;dsimp only at HF HIC HX hst hn hv HNB;have HST2:=aA hst;clear hst;have m:=iX HB.out;have k:=m.zK;have c:=HX.out wr (aR _ _)
   cases hic:uP ⟨x1,x2,x3,x4,x5,x6,x7⟩ with
   | false =>
    rw[hic] at HIC;have hs2:=HST2.out;rw[hic,if_neg (by decide)] at hs2;have HE:=aA (show f (i+1)=f i by omega);clear hs2;go_wp2_with (first|((with_reducible first|refine cM (HIC.out _) ?_|refine cU ?_|refine wU ?_);clear k m c;intro w m k;have c:=HX.out w m.zO)|(go_roundw;(case rel=>exact⟨i+1,by omega,by go_num,by rw[HE.out],OO.out.trans gO (by simp)⟩);(case measure=>first|(simp[intOf];done)|(simp[intOf];omega))))
   | true =>
    rw[hic] at HIC;have hs2:=HST2.out;rw[hic,if_pos rfl] at hs2;have HE:=aA hs2;clear hs2;go_wp2_with ((with_reducible first|refine cM (HIC.out _) ?_|refine cU ?_|refine wU ?_);clear k m c;intro w m k;have c:=HX.out w m.zO)
    have OBI:=aA (OO.out.trans m.zO (by simp));have hbs2:=gB (w:=w) (b:=bs);have hbn:=gB (w:=w) (b:=wr.heap.size);have hnn:=gN w (b:=wr.heap.size) (c:=bs);generalize wr.heap.size=bn at hbn hnn |-;have HBS2:=aA hbs2;have HBN:=aA hbn;clear k m c hbs2 hbn;obtain⟨wm,rfl⟩:∃ wm:World,wm=w:=⟨_,rfl⟩;go_loopw [3,21] (fun vc vk wr2=>∃ k:Nat,k<=x7.length/\vk=.int .i64 k/\vc=.int .i64 (f i+jR un ⟨x1,x2,x3,x4,x5,x6,x7⟩ k)/\Oy [] wm wr2) (fun _ vk _=>x7.length-(intOf vk).toNat)
    case atStart=>exact⟨0,Nat.zero_le _,rfl,by simp[jR],aR _ _⟩
    case round =>
     obtain⟨kk,hk,rfl,rfl,ho⟩:=hrel;have O2:=aA ho;have hbs2:=ho.got HBS2.out (by simp);have hbn:=ho.got HBN.out (by simp);clear ho;have m:Mm wr [] wr _:=⟨((Mem.start wr []).ext false hbs2 (by simp) (by simp)).ext false hbn (by simpa using hnn) (by simp)⟩;have k:=m.zK;clear hbs2 hbn;by_cases hk2:kk<x7.length
     ·have hk3:(kk:Int)<(x7.length:Int):=by omega
      have HF1:=aA (fun w'=>HF.out w' kk (by omega));have ek:wrap .i64 ((kk:Int)+1)=((kk+1:Nat):Int):=by rw[wrap_i64];omega
      have hp:=HNB.out kk;have hp2:=HNB.out (kk+1);have hpk:jR un ⟨x1,x2,x3,x4,x5,x6,x7⟩ (kk+1)=jR un ⟨x1,x2,x3,x4,x5,x6,x7⟩ kk+(if iC ⟨x1,x2,x3,x4,x5,x6,x7⟩ kk<=un then (un-iC ⟨x1,x2,x3,x4,x5,x6,x7⟩ kk) / 16000000000+1 else 0):=rfl;have hfb:0<=iC ⟨x1,x2,x3,x4,x5,x6,x7⟩ kk:=by unfold iC;dsimp only;omega
      have HPK:=aA hpk;rw[hpk] at hp2;clear hpk;generalize iC ⟨x1,x2,x3,x4,x5,x6,x7⟩ kk=fk at HPK hfb HF1 hp2
      have hi0:=HBD.out i;by_cases hfu:fk<=un
      ·have dfu:decide (fk<=un)=true:=eY hfu
       rw[if_pos hfu] at HPK hp2;have e1:wrap .i64 (un-fk)=un-fk:=by rw[wrap_i64];omega
       have e2:(un-fk).tdiv 16000000000=(un-fk) / 16000000000:=Int.tdiv_eq_ediv_of_nonneg (by omega);have e3:wrap .i64 ((un-fk) / 16000000000)=(un-fk) / 16000000000:=by rw[wrap_i64];omega
       have e4:wrap .i64 ((un-fk) / 16000000000+1)=(un-fk) / 16000000000+1:=by rw[wrap_i64];omega
       have e5:wrap .i64 (f i+jR un ⟨x1,x2,x3,x4,x5,x6,x7⟩ kk+((un-fk) / 16000000000+1))=f i+jR un ⟨x1,x2,x3,x4,x5,x6,x7⟩ kk+((un-fk) / 16000000000+1):=by rw[wrap_i64];omega
       have HV2:=aA (show f i+jR un ⟨x1,x2,x3,x4,x5,x6,x7⟩ (kk+1)=f i+jR un ⟨x1,x2,x3,x4,x5,x6,x7⟩ kk+((un-fk) / 16000000000+1) by rw[HPK.out];omega);clear HPK hp hp2 hfb hi0;go_wp2_with (first|((with_reducible first|refine cM (HF1.out _) ?_|refine cU ?_|refine wU ?_);clear k m;intro w m k)|(go_roundw;(case rel=>exact⟨kk+1,by omega,by go_num,by rw[HV2.out],O2.out.trans gO (by simp)⟩);(case measure=>first|(simp[intOf];done)|(simp[intOf];omega))))
      ·have dfu:decide (fk<=un)=false:=dL hfu
       rw[if_neg hfu] at HPK hp2;have HV2:=aA (show f i+jR un ⟨x1,x2,x3,x4,x5,x6,x7⟩ (kk+1)=f i+jR un ⟨x1,x2,x3,x4,x5,x6,x7⟩ kk by rw[HPK.out];omega);clear HPK hp hp2 hfb hi0;go_wp2_with (first|((with_reducible first|refine cM (HF1.out _) ?_|refine cU ?_|refine wU ?_);clear k m;intro w m k)|(go_roundw;(case rel=>exact⟨kk+1,by omega,by go_num,by rw[HV2.out],O2.out.trans gO (by simp)⟩);(case measure=>first|(simp[intOf];done)|(simp[intOf];omega))))
     ·obtain rfl:kk=x7.length:=by omega
      have hk3:decide ((x7.length:Int)<(x7.length:Int))=false:=by simp
      go_wp2_with (first|((with_reducible first|refine cU ?_|refine wU ?_);clear k m;intro w m k)|(go_roundw;(case rel=>exact⟨i+1,by omega,by go_num,by rw[HE.out],(OBI.out.trans O2.out (by simp)).trans gO (by simp)⟩);(case measure=>first|(simp[intOf];done)|(simp[intOf];omega))))
  ·obtain rfl:i=nd.length:=by omega
   have hlt2:decide ((nd.length:Int)<(nd.length:Int))=false:=by simp
   have m:=iX HB.out;have k:=m.zK;go_wp2_with (first|((with_reducible refine wU ?_);clear k m;intro w m k)|((with_reducible refine lE (fun w o g k K hK=>⟨rfl,?_⟩));simp[results,Tryz.results39,go_sem];refine hK _ ?_;exact⟨rfl,(OB.out.aB OO.out).aB o⟩))
end
section
inductive VJ (R:List (Int × Int)) (s:eU):bT->bT->Prop
 | refl {st:bT}:VJ R s st st
 | tail {a b c:bT} (h:VJ R s a b) (k:tH R s b c):VJ R s a c
theorem VJ.run {R:List (Int × Int)} {s:eU} {a b:bT} (h:VJ R s a b):∀ {c:bT},rP R s b c->rP R s a c:=by
 induction h with
 | refl=>exact fun k=>k
 | tail _ k ih=>exact fun j=>ih (.step k j)
theorem el_head {l q:List Ev} {x:Ev} {r:List Ev} (hh:Heap l.length (el l)) (hl:∀ e,e∈l↔e∈q) (hq:q=x::r) (hs:QSrt q):el l 0=x/\0<l.length:=by
 subst hq;have hx:x∈l:=(hl x).2 (List.mem_cons_self ..);have hpos:0<l.length:=List.length_pos_of_mem hx;have h0:el l 0∈l:=List.mem_of_getElem? (cZ hpos);obtain⟨i,hi,he⟩:=List.getElem_of_mem hx;have hm:=aAa hh i hi;rw[el_of (l:=l) (i:=i) (e:=x) (by rw[List.getElem?_eq_getElem hi,he])] at hm;rcases List.mem_cons.1 ((hl _).1 h0) with h1|h1
 ·exact⟨h1,hpos⟩
 ·have:=(List.pairwise_cons.1 hs).1 _ h1
  unfold ge at hm;omega
theorem ZT {l q:List Ev} {x:Ev} {r:List Ev} (hl:∀ e,e∈l↔e∈q) (hq:q=x::r) (hd:q.Pairwise fun x y=>x.i≠y.i) (e:Ev):(e∈l/\e.i≠x.i)↔e∈r:=by
 subst hq;obtain⟨h1,-⟩:=List.pairwise_cons.1 hd;rw[hl,List.mem_cons];constructor
 ·rintro⟨rfl|h,hn⟩
  ·exact absurd rfl hn
  ·exact h
 ·exact fun h=>⟨.inr h,Ne.symm (h1 e h)⟩
def RunI (R:List (Int × Int)) (w0:World) (s:dW) (bw:Nat) (st:bT) (k:Nat) (wr:World):Prop:=
 ∃ st1 own1 p1,p1.bw=bw/\aX w0 wr own1 s p1 st1/\eB s.sc st1/\wM s.sc st1/\tot s.sc st1=k/\k<=900000000/\VJ R s.sc st st1
theorem pRun {w0 w:World} {own:Col} {s:dW} {p:kI} {st:bT} (h:aX w0 w own s p st) (hs0:fK w0 s) {R:List (Int × Int)} (hR0:rQ w0 R) (hI:eB s.sc st) (hF:wM s.sc st) (ht:tot s.sc st<=900000000) :
  Calls Tryz.prog 24 #[.pointer (some ⟨p.bw,0,none⟩)] w fun r w'=>r=.returned (.tuple #[])/\∃ st' own' p',p'.bw=p.bw/\aX w0 w' own' s p' st'/\rP R s.sc st st':=by
 have HS:=aA hs0;have HR:=aA hR0;have H0:=aA (show RunI R w0 s p.bw st (tot s.sc st) w from ⟨st,own,p,rfl,h,hI,hF,rfl,ht,.refl⟩);generalize p.bw=bw at H0 |-;clear h hI hF hs0 hR0;go_enter Tryz.func24,Tryz.ntmps24
 go_wp2;go_loopg [] (tot s.sc st) (fun k wr=>RunI R w0 s bw st k wr)
 case atStart=>exact H0.out
 case round =>
  obtain⟨st1,own1,p1,rfl,h,hI,hF,rfl,hk,hst⟩:=hrel;have hbw:=h.wa.2;have HH:=aA h;have HPOP:=aA (fun w' (o:Oy [] wr w')=>pop_gen (h.qa.1.kept o (by simp)))
  cases hq:st1.q with
  | nil =>
   have hl0:p1.l.length=0:=by rw[h.qa.2.2.2,hq];rfl
   have hdec:decide (0<p1.l.length)=false:=by rw[hl0];decide
   have hst1:({ st1 with q:=[],tm:=st1.tm,pu:=st1.pu }:bT)=st1:=by rw[<-hq]
   have HRUN:=aA (hst.run (.done hq));have m:=iX hbw;have k:=m.zK;clear hbw;go_wp2_with ((with_reducible first|refine cU ?_|refine wU ?_);clear k m;intro w m k)
   refine (HPOP.out wr m.zO).mono ?_;rintro r w2 ⟨rfl,tm',l',hq',hoF,htm,hl',hmem⟩;rw[if_neg (by omega)] at htm;subst htm;have h2:=HH.out.que (q':=[]) hq' hoF (fun k hk=>.inl hk) (fun e=>by have:l'=[]:=List.length_eq_zero_iff.1 (by omega);rw[this]) (by rw[hl',hl0];rfl) (fun x hx=>absurd hx (by simp));rw[hst1] at h2;have H2:=aA h2;clear h2 hq' hoF hmem m k h;have m:=bJ w2 [];have k:=m.zK;go_wp2_with (first|((with_reducible refine wU ?_);clear k m;intro w m k)|((with_reducible refine lE (fun w o g k K hK=>⟨rfl,?_⟩));simp[results,Tryz.results24,go_sem];refine hK _ ?_;exact⟨rfl,st1,_,{ p1 with F:=p1.F,l:=l' },rfl,H2.out.kept o,HRUN.out⟩))
  | cons x r =>
   obtain⟨hel,hpos⟩:=el_head h.qa.1.heap h.qa.2.2.1 hq hI.srt;have hdec:decide (0<p1.l.length)=true:=by simpa using hpos
   obtain⟨hIp,hge,heok,htot,ht0,ht1,hdis⟩:=hI.pop hq;obtain⟨j,e,b,hxj,hev,heb,hcb,hob⟩:=h.ea.2 x (by rw[hq];exact List.mem_cons_self ..);have hgd:st1.ev.getD x.x.toNat U2=e:=by rw[List.getD_eq_getElem?_getD,hxj,Int.toNat_natCast,hev];rfl
   have hjl:=(List.getElem?_eq_some_iff.1 hev).1;have hbF:b ∉ p1.F:=fun hm=>by have:=h.qa.2.1 b hm;rw[hob] at this;cases this
   have hwF:p1.bw ∉ p1.F:=fun hm=>by have:=h.qa.2.1 _ hm;rw[h.wa.1] at this;cases this
   have hmr:=ZT h.qa.2.2.1 hq hI.nd;have hlen:p1.l.length-1=r.length:=by rw[h.qa.2.2.2,hq];rfl
   rw[hel] at HPOP;rw[hgd] at heok htot;have HSTP:=aA (fun st' (h:StpE R s.sc { st1 with q:=r,tm:=x.t } x.t e st')=>tH.of hq hgd h);have hebl:=h.ea.1;have HI:=aA hI;have HF:=aA hF;have HIP:=aA hIp;have HST:=aA hst;have hun:=HS.out.un;have hnl:s.sc.nd.length<=1000:=by have:=HS.out.nl;unfold dW.sc;simp;omega
   have hsun:s.sc.un=s.un:=rfl;rw[hsun] at ht1 htot;obtain⟨x1,x2,x3⟩:=x;dsimp only at hxj ht0 ht1 hdis HPOP hmr HSTP HIP htot;subst hxj;have m:=iX hbw;have k:=m.zK;have HBW:=aA hbw;clear hbw h hI hF hIp hst;go_wp2_with ((with_reducible first|refine cU ?_|refine wU ?_);clear k m;intro w m k)
   refine (HPOP.out wr m.zO).mono ?_;rintro rr w2 ⟨rfl,tm',l',hq',hoF,htm,hl',hmem⟩;rw[if_pos hpos] at htm;subst htm;have h2:=HH.out.que (q':=r) hq' hoF (fun k hk=>.inl hk) (fun e=>(hmem e).trans (hmr e)) (by rw[hl',hlen]) (fun y hy=>by rw[hq];exact List.mem_cons_of_mem _ hy);have hob2:=(bW (own:=own1) (t:=.Q) hbF).trans hob;have hcb2:=hoF.got hcb hbF;have hbw2:=hoF.got HBW.out hwF;generalize dJ own1 p1.F .Q=own2 at h2 hob2;obtain⟨vp,vc,hve,hvv⟩:=h2.ev.1.dI zW;dsimp only at hve hvv;rw[hve] at hbw2;obtain⟨bk,off,hvp,hbk,hcell⟩:=hvv.cell j (FM e,b) heb;subst hvp;have hcell:=hcell 0 _ rfl;rw[Nat.mul_one,Nat.add_zero] at hcell;have HX:=aA (fun w' (o:Oy [] w2 w')=>show bk<w'.heap.size/\w'.cell? ⟨bk,off+j,none⟩=some (.iface (FM e) (.pointer (some ⟨b,0,none⟩))) from ⟨Nat.lt_of_lt_of_le hbk o.size,(o.cell hbk (by simp)).trans hcell⟩);have HAP:=aA (fun w' (o:Oy [] w2 w')=>pHappen (h2.kept o) HS.out HR.out HIP.out (show wM s.sc _ from HF.out) (by omega) tm' ht0 (by omega) e heok hob2 (fun y hy e=>hdis y hy e) hjl (o.got hcb2 (by simp)));clear m k hq' hoF hmem hvv hve hcell hcb2 hmr hob hcb hev heb HPOP HH;rw[hebl] at hbw2;have hsl:=hjl;have hsi:(j:Int)<(st1.ev.length:Int):=by omega
   obtain⟨wd,rfl⟩:∃ wd:World,wd=w2:=⟨_,rfl⟩;have m:=iX hbw2;have k:=m.zK;have c:=HX.out _ (aR [] wd);clear hbw2;rcases e with q|⟨q,z⟩|⟨q,z,y⟩|⟨q,z,y⟩
   all_goals
    unfold FM at HX c;dsimp only at HX c;go_wp2_with (first|((with_reducible refine iY (id:=2) [0,1,2,3,4,5,6,7,8] [] ?_);simp only[bV];(repeat' (first|go_big_quiet_step (fail)|(refine wpQuiet_step (fun K hK=>?_);go_simp;(first|(refine hK _ ?_;clear hK K)|(split<;>(refine hK _ ?_;clear hK K))))));all_goals (refine wpQuiet_nil ?_;clear k m c;intro w m k;have c:=HX.out w m.zO))|((with_reducible first|refine cU ?_|refine wU ?_);clear k m c;intro w m k;have c:=HX.out w m.zO))
    have hnx:=gB (w:=w) (b:=wd.heap.size);have hfr:own2 wd.heap.size=none:=h2.fresh (Nat.le_refl _);refine (HAP.out w m.zO).mono ?_;rintro rr w5 ⟨ok,st',e',rfl,⟨⟨own',p',hbw',hsim,hcb',hob'⟩,hkp⟩,hev',htr,hlg,hstp⟩;have hbb:b≠p'.bw:=fun e=>by have:=hob'.trans hob2;rw[e,hsim.wa.1] at this;cases this
    cases ok with
    | false =>
     rw[if_neg (by decide)] at hstp;have hst':=HSTP.out st' hstp;obtain⟨i1,i2,i3⟩:=tH.inv HI.out HF.out hnl (by omega) hst';have HREL:=aA (fun w' (o:Oy [] w5 w')=>(show RunI R w0 s p1.bw st (tot s.sc st') w' from ⟨st',own',p',hbw',hsim.kept o,i1,i2,rfl,by omega,.tail HST.out hst'⟩));clear m k c HAP HX hsim hcb' hob' hstp hst' i1 i2;have m:=bJ w5 [];have k:=m.zK;go_wp2_with ((with_reducible first|refine cU ?_|refine wU ?_);clear k m;intro w m k)
     go_roundg (tot s.sc st')
     case measure=>omega
     case rel=>exact HREL.out _ m.zO
    | true =>
     rw[if_pos rfl] at hstp;have hst':=HSTP.out _ hstp;obtain⟨i1,i2,i3⟩:=tH.inv HI.out HF.out hnl (by omega) hst'
     have HN:=aA (fun w' (o:Oy [] w5 w')=>by
      have:=pNote (hsim.kept o) (HS.out.kept (hsim.only.aB o)) (by have:st'.lgs=st1.lgs:=hlg;rw[this];unfold tot at hk;omega) tm' ht0 (by omega) e' htr (o.got hcb' (by simp)) hbb;rw[hbw',hev'] at this;exact this)
     unfold FM at HN;dsimp only at HN;have hnx5:=(hkp _ (aF hnx) hfr).trans hnx;clear m k c HAP HX hcb' hob' hstp hkp hnx;have m:=iX hnx5;have k:=m.zK;clear hnx5;go_wp2_with ((with_reducible first|refine cU ?_|refine wU ?_);clear k m;intro w m k)
     refine (HN.out w5 m.zO).mono ?_;rintro rr w6 ⟨rfl,own'',p'',hbw'',-,hsim'',-⟩;have HREL:=aA (fun w' (o:Oy [] w6 w')=>(show RunI R w0 s p1.bw st (tot s.sc (iW s.sc st' e' tm')) w' from ⟨_,own'',p'',hbw''.trans hbw',hsim''.kept o,i1,i2,rfl,by omega,.tail HST.out hst'⟩));clear hsim hsim'' hst' i1 i2 m k HN;have m:=bJ w6 [];have k:=m.zK;go_wp2_with ((with_reducible first|refine cU ?_|refine wU ?_);clear k m;intro w m k)
     go_roundg (tot s.sc (iW s.sc st' e' tm'))
     case measure=>omega
     case rel=>exact HREL.out _ m.zO
end
theorem fK.qV {w:World} {s:dW} (h:s.Ok w) (hc:sV s.sc=0):fK w s:=by
 have ho:=chkS_ok hc;have hnl:s.sc.nd.length=s.nd.length:=by unfold dW.sc;simp
 have hll:s.sc.lk.length=s.lk.length:=by unfold dW.sc;simp
 have hn:∀ x∈s.nd,∃ i:Nat,NdOk x.n i s.nd.length:=fun x hx=>by
  obtain⟨i,hi,rfl⟩:=List.getElem_of_mem hx;have:=ho.nd i (by omega);rw[hnl] at this;refine⟨i,?_⟩
  have e:s.sc.nd.getD i nd0=s.nd[i].n:=by
   unfold dW.sc;rw[List.getD_eq_getElem?_getD,List.getElem?_map,List.getElem?_eq_getElem hi];rfl
  rw[e] at this;exact this
 refine⟨h,fun x hx=>?_,fun x hx=>?_,ho.fc,?_,fun x hx=>?_,by have:=ho.n1;omega,fun x hx=>?_,fun x hx=>?_,fun x hx=>?_,fun x hx v hv=>?_⟩
 ·obtain⟨i,q⟩:=hn x hx;exact q.osc
 ·obtain⟨i,hi,rfl⟩:=List.getElem_of_mem hx
  have:=(ho.lk i (by omega)).lk
  have e:s.sc.lk.getD i zS=s.lk[i].l:=by
   unfold dW.sc;rw[List.getD_eq_getElem?_getD,List.getElem?_map,List.getElem?_eq_getElem hi];rfl
  rw[e] at this;exact this
 ·have:=bI.1 ho.un
  exact⟨by have:s.sc.un=s.un:=rfl;omega,this.2⟩
 ·obtain⟨i,q⟩:=hn x hx;exact bI.1 q.er
 ·obtain⟨i,q⟩:=hn x hx;exact bI.1 q.st
 ·obtain⟨i,q⟩:=hn x hx;exact q.len
 ·obtain⟨i,q⟩:=hn x hx;exact bI.1 q.tol
 ·obtain⟨i,q⟩:=hn x hx
  obtain⟨k,hk,rfl⟩:=List.getElem_of_mem hv;have:=q.sv k hk;unfold WH at this;split at this
  ·rename_i hr
   have:=bI.1 hr;rw[List.getD_eq_getElem?_getD,List.getElem?_eq_getElem hk] at this;simp only[Option.getD_some] at this;omega
  ·exact absurd this (by decide)
def RX (c:Cf):Cf:={ c with servers:=1,tol:=0 }
def iT (s:eU) (c:Cf):Int:=if sV s=0 then (if eZ (RX c)=0 then (if 400<BO s then 6 else 0) else eZ (RX c)) else sV s
theorem pNCheck {w:World} (s:dW) (c:Cf) (hs:s.Ok w) :
  Calls Tryz.prog 22 #[fT s,JB c] w fun e w'=>e=.returned (.int .i64 (iT s.sc c))/\Oy [] w w':=by
 have HC:=aA (fun w' (o:Oy [] w w')=>XL s (hs.kept o));have HP:=aA (fun (h:sV s.sc=0) w' (o:Oy [] w w')=>pPolls ((fK.qV hs h).kept o));have HK:=aA (fun w'=>QW (RX c) w');obtain⟨T,HT⟩:∃ T,Hid (T=iT s.sc c):=⟨_,aA rfl⟩;rw[<-HT.out];unfold iT at HT;generalize sV s.sc=e1 at HC HP HT;generalize eZ (RX c)=e2 at HK HT;generalize BO s.sc=e3 at HP HT;obtain⟨c1,c2,c3,c4,⟨c5,c6,c7,c8,c9⟩,ca,cb,cc⟩:=c;unfold RX at HK;unfold JB at HK |-;unfold fT at HC HP |-;dsimp only at HK HC HP |-;clear hs;by_cases h1:e1=0
 ·subst h1
  have HP2:=aA (HP.out rfl);have h:=HT.out;rw[if_pos rfl] at h;by_cases h2:e2=0
  focus
   subst h2;rw[if_pos rfl] at h;by_cases h3:400<e3
   focus
    have d3:decide (400<e3)=true:=eY h3;rw[if_pos h3] at h
   rotate_left
   focus
    have d3:decide (400<e3)=false:=dL h3;rw[if_neg h3] at h
   rotate_left
  rotate_left 2
  focus
   have d2:(e2 != 0)=true:=by simpa using h2
   rw[if_neg h2] at h
  rotate_left
  all_goals
   subst h;clear HT;have m:=bJ w [];have k:=m.zK;go_enter Tryz.func22,Tryz.ntmps22
   go_wp2_with (first|((with_reducible first|refine cM (HC.out _ gO) ?_|refine cM (HK.out _) ?_|refine cM (HP2.out _ gO) ?_|refine wU ?_);clear k m;intro w m k)|((with_reducible refine lE (fun w o g k K hK=>⟨rfl,?_⟩));simp[results,Tryz.results22,go_sem];refine hK _ ?_;exact⟨rfl,o⟩))
 ·have d1:(e1 != 0)=true:=by simpa using h1
  have h:=HT.out;rw[if_neg h1] at h;subst h;clear HT HP;have m:=bJ w [];have k:=m.zK;go_enter Tryz.func22,Tryz.ntmps22
  go_wp2_with (first|((with_reducible first|refine cM (HC.out _ gO) ?_|refine wU ?_);clear k m;intro w m k)|((with_reducible refine lE (fun w o g k K hK=>⟨rfl,?_⟩));simp[results,Tryz.results22,go_sem];refine hK _ ?_;exact⟨rfl,o⟩))
end Go.Proofs.YtppjhbjmfkiejaaGreat
