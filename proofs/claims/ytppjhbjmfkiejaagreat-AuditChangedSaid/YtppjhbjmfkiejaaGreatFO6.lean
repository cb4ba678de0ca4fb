/- netsim: a client sends a request. Conditions: those named in each theorem. -/
import Derived.Test.YtppjhbjmfkiejaaGreatFOa
namespace Go.Proofs.YtppjhbjmfkiejaaGreat
set_option linter.all false
open List (mem_cons mem_singleton)
open IntKind (wrap)
set_option maxRecDepth 100000
set_option maxHeartbeats 3000000
open Go.RowKit Go.Sort
theorem AO {P:Program} {Q:Exit->Act->World->Prop} {c:Code} {a:Act} {w:World} {F:Nat->World->Prop} {A:Nat->Act} (h:c.wp P (fun e a' w'=>e=.normal/\∃ n,a'=A n/\F n w') a w) (k:∀ n w',F n w'->Q .normal (A n) w'):c.wp P Q a w:=
 Code.wp_mono (fun e a' w' ⟨h1,n,h2,h3⟩=>by subst h1;subst h2;exact k n w' h3) h
def vO (R:List (Int × Int)) (s:eU) (st:bT) (t:Int) (p:AJ) (c:Cl):bT × Bool × EvS:=
 if (dP c p.i (bN s p.c t) (max (gU R s.sd st.sent) 1)).1.2=0 then
  (match xV R s p.c p.s t st.sent with
   | none=>{ dS (fE s st (t+16000000000) (.poll ⟨p.c,p.i,p.s,0⟩)) p.c (dP c p.i (bN s p.c t) (max (gU R s.sd st.sent) 1)).2 with sent:=st.sent+1 }
   | some u=>fE s { dS (fE s st (t+16000000000) (.poll ⟨p.c,p.i,p.s,0⟩)) p.c (dP c p.i (bN s p.c t) (max (gU R s.sd st.sent) 1)).2 with sent:=st.sent+1 } u (.req ⟨p.c,p.i,p.s,st.sent⟩ (dP c p.i (bN s p.c t) (max (gU R s.sd st.sent) 1)).1.1),true,.poll ⟨p.c,p.i,p.s,st.sent⟩)
 else (dS (fE s st (t+16000000000) (.poll ⟨p.c,p.i,p.s,0⟩)) p.c (dP c p.i (bN s p.c t) (max (gU R s.sd st.sent) 1)).2,false,.poll p)
theorem polS_eq {R:List (Int × Int)} {s:eU} {st:bT} {t:Int} {p:AJ} {c:Cl} (h:gW st p.c=some c):pX R s st t p=if (vO R s st t p c).2.1=true then iW s (vO R s st t p c).1 (vO R s st t p c).2.2 t else (vO R s st t p c).1:=by
 obtain⟨e1,e2,-⟩:=eT s st (t+16000000000) (.poll ⟨p.c,p.i,p.s,0⟩);have h1:gW (fE s st (t+16000000000) (.poll ⟨p.c,p.i,p.s,0⟩)) p.c=some c:=by unfold gW at h |-;rw[e1];exact h
 have e3:∀ c',(dS (fE s st (t+16000000000) (.poll ⟨p.c,p.i,p.s,0⟩)) p.c c').sent=st.sent:=fun c'=>e2;unfold pX;dsimp only;rw[h1];dsimp only;simp only[e2,e3];obtain⟨f,hf⟩:∃ f:bT × Bool × EvS->bT,f=fun r=>if r.2.1=true then iW s r.1 r.2.2 t else r.1:=⟨_,rfl⟩
 show _=(fun r:bT × Bool × EvS=>if r.2.1=true then iW s r.1 r.2.2 t else r.1) (vO R s st t p c)
 rw[<-hf];unfold vO;by_cases he:(dP c p.i (bN s p.c t) (max (gU R s.sd st.sent) 1)).1.2=0
 ·rw[if_pos he,if_pos he,hf]
  cases xV R s p.c p.s t st.sent<;>rfl
 ·rw[if_neg he,if_neg he,hf]
  rfl
theorem rV (st:bT) (i:Nat) (c:Cl):dS st i c={ st with cl:=st.cl.set i (some c) }:=by unfold dS;rw[Int.toNat_natCast]
theorem aX.cnt2 {w0 w w1:World} {own:Col} {s:dW} {p:kI} {st:bT} (h:aX w0 w own s p st) {n:Int} {b j:Nat} (hb:own b=some (.V j)) (hj:∀ x∈st.q,x.x≠j) (ho:Oy [b,p.bw] w w1) (hw:SI w1 own s p { st with sent:=n }):aX w0 w1 own s p { st with sent:=n }:=by
 have hw0:=h.wa.1
 have no:∀ {t:Tag},t≠ .W->t≠ .V j->∀ x∈[b,p.bw],own x≠some t:=fun h1 h2 x hx q=>by
  rcases mem_cons.1 hx with rfl|hx
  ·rw[hb] at q;exact h2 (Option.some.inj q).symm
  ·rw[mem_singleton.1 hx,hw0] at q;exact h1 (Option.some.inj q).symm
 refine⟨h.only.trans ho fun x hx=>.inr ?_,fun b t q=>⟨(h.lt b t q).1,Nat.lt_of_lt_of_le (h.lt b t q).2 ho.size⟩,hw,?_,?_,?_,?_,?_,?_,?_⟩
 ·rcases mem_cons.1 hx with rfl|hx
  ·exact (h.lt _ _ hb).1
  ·rw[mem_singleton.1 hx];exact (h.lt _ _ hw0).1
 ·exact h.aa.kept ho (no (by simp) (by simp))
 ·exact h.ca.kept ho fun x hx i=>no (by simp) (by simp) x hx
 ·exact h.qa.kept ho (no (by simp) (by simp))
 ·exact h.ev.kept ho (no (by simp) (by simp))
 ·exact h.ea.kept ho fun x hx y hy i hi=>no (by simp) (by intro e;cases e;exact hj y hy hi) x hx
 ·exact h.ms.kept ho (no (by simp) (by simp))
 ·exact h.ls.kept ho (no (by simp) (by simp))
theorem pO.trans {w0 w w1 w':World} {own own1:Col} {s:dW} {p p1:kI} {st:bT} {b:Nat} {e:EvS} (h:pO w0 w1 own1 s p1 st b e w') (hp:p1.bw=p.bw) (ho:own1 b=own b) (hk:JM own w w1) (hs:w.heap.size<=w1.heap.size) (hc:∀ x,x<w.heap.size->own x=none->own1 x=none):pO w0 w own s p st b e w':=by
 obtain⟨⟨own',p',a,b',c,d⟩,e⟩:=h;exact⟨⟨own',p',a.trans hp,b',c,d.trans ho⟩,hk.trans e hs hc⟩
theorem pPoll {w0 w:World} {own:Col} {s:dW} {p:kI} {st:bT} (h:aX w0 w own s p st) (hs0:fK w0 s) {R:List (Int × Int)} (hR0:rQ w0 R) (hpu:st.pu=st.ev.length) (hle:st.ev.length+1<=1000000000) (hn0:0<=st.sent) (hn1:st.sent+1<=1000000000) (t:Int) (t0:0<=t) (t1:t<=1125899906842624) (q:AJ) (he:oC s.sc q) {c:Cl} (hcl:gW st q.c=some c) (hv:yL c)
  {b j:Nat} (hb:own b=some (.V j)) (hj:∀ x∈st.q,x.x≠j) (hjl:j<st.ev.length) (hc:w.heap[b]? = some (.cells (wD (.poll q)).toArray (xP (.poll q)) (0,0))) :
  Calls Tryz.prog 144 #[.pointer (some ⟨b,0,none⟩),.pointer (some ⟨p.bw,0,none⟩),.int .i64 t] w fun r w'=>r=.returned (.bool (vO R s.sc st t q c).2.1)/\pO w0 w own s p (vO R s.sc st t q c).1 b (vO R s.sc st t q c).2.2 w':=by
 have hs:=hs0.kept h.only;have hR:=hR0.kept h.only;generalize hT:vO R s.sc st t q c=T;obtain⟨⟨i,jj,hci,hsj,hi,-,-⟩,-,-⟩:=he;have hnl:s.sc.nd.length=s.nd.length:=by unfold dW.sc;simp
 rw[hnl] at hi;obtain⟨q1,q2,q3,q4⟩:=q;dsimp only at hci hsj hcl;subst hci;clear hsj hnl;unfold vO at hT;dsimp only at hT;have ho:=hs.osc _ (bS bD hi);have hob:=IC ho t0 t1;have hraw:bN s.sc i t=qR (s.nd.getD i bD).n.ph (s.nd.getD i bD).n.sg t:=by unfold bN;rw[fH]
 rw[<-hraw] at hob;clear hraw;rw[show s.sc.sd=s.sd from rfl] at hT;have hmx:=xE (R:=R) s.sd st.sent;obtain⟨e1,he1⟩:∃ e1,e1=EvS.poll ⟨i,q2,q3,0⟩:=⟨_,rfl⟩;have HE1:Hid (wD e1=[.int .i64 i,.int .i64 q2,.int .i64 q3,.int .i64 0]/\xP e1=134/\FM e1=130):=aA (by rw[he1];exact⟨rfl,rfl,rfl⟩);rw[<-he1] at hT;have HSC:=aA (fun w' (o:Oy [] w w') c hb hb0 hc=>nN (h.kept o) hpu (by omega) (t+16000000000) e1 (b:=c) hb hb0 hc);simp only[HE1.out.2.2] at HSC;have et:wrap .i64 (t+16000000000)=t+16000000000:=by rw[IntKind.wrap_i64];omega
 have HS:=aA h;have hbw:=h.wa.2;have hbb:b≠p.bw:=fun e=>by rw[e,h.wa.1] at hb;cases hb
 have HC:=aA hc;have HB:=aA hb;have HFR:=aA (fun c (hc:w.heap.size<=c)=>h.fresh hc);have HB0:=aA h.base;have HBL:=aA (aF hc);have HSM:=aA (eT s.sc st (t+16000000000) e1)
 have HEV:Hid (∀ x∈(fE s.sc st (t+16000000000) e1).q,x.x≠j):=aA (fun x hx=>by
  unfold fE at hx;split at hx
  ·exact hj x hx
  ·split at hx
   ·rcases lD.1 hx with rfl|hx
    ·dsimp only;omega
    ·exact hj x hx
   ·exact hj x hx)
 have HPU:Hid ((fE s.sc st (t+16000000000) e1).pu=(fE s.sc st (t+16000000000) e1).ev.length/\(fE s.sc st (t+16000000000) e1).ev.length<=st.ev.length+1):=aA (by
  unfold fE;split
  ·exact⟨hpu,by omega⟩
  ·split
   ·exact⟨by simp[hpu],by simp⟩
   ·exact⟨hpu,by omega⟩)
 generalize hst1:fE s.sc st (t+16000000000) e1=st1 at HSC HSM HEV HPU hT;unfold wD xP WC at hc;dsimp only at hc;clear he1 h hs hR hb hj hjl ho;obtain⟨wo,rfl⟩:∃ wo:World,wo=w:=⟨_,rfl⟩;have m:Mm wo [] wo _:=⟨((Mem.start wo []).ext false hbw (by simp) (by simp)).ext false hc (by simpa using hbb) (by simp)⟩;have k:=m.zK;clear hbw hc;go_enter Tryz.func144,Tryz.ntmps144
 go_wp2_with ((with_reducible first|refine cU ?_|refine wU ?_);clear k m;intro w m k)
 refine rY (id:=1) [0,1,2,3,4,5,6,7,8,9,10,11,12,13,14,15,16,17,18,19] [] [22] 3 (by kernel_rfl) (by kernel_rfl) ?_;simp only[bV]
 (repeat (first|(refine aQ (fun K hK=>?_);go_simp;refine hK _ ?_;clear hK K)));refine aS ?_;(repeat (refine aJ (fun K hK=>?_);go_simp;refine hK _ ?_;clear hK K));refine aK ?_
 clear k m;intro w oW m k;refine yM [20] (by kernel_rfl) rfl (.inr oW) ?_;clear k m;intro w oN m k;replace oW:=oW.aB oN;simp only[eD];refine aD rfl ?_;go_wp2;simp only[bA];have HSZ:=aA m.zO.size;obtain⟨nc,hnc⟩:∃ n,n=w.heap.size:=⟨_,rfl⟩;refine yA ?_;clear k m oN;intro w oN m k;replace oW:=oW.aB oN;rw[<-hnc] at m HSZ |-;clear hnc k;have k:=m.zK;refine yP [21] 1 rfl (by kernel_rfl) ?_;simp only[bV]
 (repeat (refine aJ (fun K hK=>?_);go_simp;refine hK _ ?_;clear hK K))
 refine aK ?_;refine yM [22] (by kernel_rfl) rfl (.inr oW) ?_;clear k m;intro w oN m k;replace oW:=oW.aB oN;simp only[eD];refine aD rfl ?_;go_wp2_with fail
 have HO5:=aA m.zO;refine (HSC.out w m.zO nc (HFR.out nc HSZ.out) (Nat.le_trans HB0.out HSZ.out) (by rw[HE1.out.1,HE1.out.2.1];exact gB)).mono ?_;rintro r w5 ⟨rfl,hsch⟩;have HSCH:=aA hsch;clear hsch k m;have m:=bJ w5 [];have k:=m.zK;go_wp2;simp only[bA];refine yE (by kernel_rfl) (.inl (aT (by kernel_rfl))) ?_;clear k m;intro w m k;have O5:=m.zO;clear k m;obtain⟨own1,p1,hbw1,hpl1,h1,hold1,S1,hS1,hC1⟩:=HSCH.out;replace h1:=h1.kept O5;have hb1:own1 b=some (.V j):=(hold1 b (Nat.lt_of_lt_of_le HBL.out HO5.out.size) (fun e=>by have:=HFR.out nc HSZ.out;rw[<-e,HB.out] at this;cases this)).trans HB.out;have hc1:=O5.got (hS1.got (HO5.out.got HC.out (by simp)) (fun hm=>by rcases hC1 b hm with q|q | q<;>rw[HB.out] at q<;>cases q)) (by simp);have HBE:=aA (show own1 b=own b by rw[hb1,HB.out]);have HK1:=aA (show JM own wo w from JM.only ((HO5.out.mono (S':=S1) (by simp)).trans (hS1.trans O5 (by simp)) fun y hy=>.inl hy) fun x hx hn=>by rcases hC1 x hx with q|q | q<;>rw[hn] at q<;>cases q);have HZ1:=aA (show wo.heap.size<=w.heap.size from Nat.le_trans HO5.out.size (Nat.le_trans hS1.size O5.size));have HN1:=aA (show ∀ x,x<wo.heap.size->own x=none->own1 x=none from fun x hx hn=>(hold1 x (Nat.lt_of_lt_of_le hx HO5.out.size) (fun e=>by have:=HSZ.out;omega)).trans hn);clear HSCH HSC HFR HBL HB0 HS HC hold1 hS1 hC1 O5 HO5 HSZ;have hs1:=hs0.kept h1.only;have hR1:=hR0.kept h1.only;obtain⟨P,hP,hpi,hcii,hat,hcol⟩:=h1.I7 (show gW st1 (i:Int)=some c by unfold gW at hcl |-;rw[HSM.out.1];exact hcl);have hbw2:=h1.wa.2;rw[hbw1,HSM.out.2.1] at hbw2;have ho:=hs1.osc _ (bS bD hi);have HRW:=aA (fun w' (o:Oy [] w w')=>by have:=pRaw (h1.wa.kept o (by simp)) (hs1.ok.kept o) hi ho t t0 t1;rw[hbw1] at this;exact this);have HX:=aA (fun w' (o:Oy [] w w')=>by have:=h1.cell hi o;rw[hP] at this;exact this);dsimp only[Option.map_some] at HX;have HM:=aA (fun w' (o:Oy [] w w')=>pMix s.sd st.sent (hR1.kept o));have eu:wrap .u64 st.sent=st.sent:=by rw[IntKind.wrap_u64];omega
 generalize bN s.sc i t=raw at *;have HSND:=aA (fun w' (o:Oy [] w w')=>cSend (hat.kept o) hv.u.ok.ck raw (by omega) (by omega) q2 (max (gU R s.sd st.sent) 1));generalize dP c q2 raw (max (gU R s.sd st.sent) 1)=cs at HSND hT;obtain⟨⟨x,er⟩,c'⟩:=cs;dsimp only at HSND hT;have HT:=aA hT;clear hT;have HH1:=aA h1;have HAT:=aA hat;have HB1:=aA hb1;have HC1:=aA hc1;have HBW1:=aA hbw1;have HPI:=aA hpi;have HCII:=aA hcii;have HCOL:=aA hcol;unfold wD xP WC at hc1;dsimp only at hc1;clear hs1 hR1 hat h1 hb1 hpi hcii hcol ho hpl1;obtain⟨wb,rfl⟩:∃ wb:World,wb=w:=⟨_,rfl⟩;have m:Mm wb [] wb _:=⟨((Mem.start wb []).ext false hbw2 (by simp) (by simp)).ext false hc1 (by simpa using hbb) (by simp)⟩;have k:=m.zK;have c:=HX.out _ (aR [] wb);clear hbw2 hc1;go_wp2_with (first|((with_reducible refine iY (id:=2) [0,1,2,3,4,5,6,7,8,9,10,11,12] [] ?_);simp only[bV];(repeat' (first|go_big_quiet_step (with_reducible first|exact gX (HM.out _ RH))|(refine wpQuiet_step (fun K hK=>?_);go_simp;(first|(refine hK _ ?_;clear hK K)|(split<;>(refine hK _ ?_;clear hK K))))));all_goals (refine wpQuiet_nil ?_;clear k m c;intro w m k;have c:=HX.out w m.zO))|((with_reducible first|refine cU ?_|refine wU ?_);clear k m c;intro w m k;have c:=HX.out w m.zO))
 apply AO (F:=fun nh w3=>wb.heap.size<=nh/\bP w3 P c'/\Oy P.all wb w3/\w3.heap[nh]? = some (.cells (ZQ x).toArray 185 (0,0)))
 case h =>
  refine rY (id:=3) [0,1,2,3,4,5,6,7,8,9,10,11,12,13,14,15,16,17,18,19,20,21,22,23,24] [] [25,30,31] 7 (by kernel_rfl) (by kernel_rfl) ?_;simp only[bV]
  (repeat (first|(refine aQ (fun K hK=>?_);go_simp;refine hK _ ?_;clear hK K)|(refine cG (by kernel_rfl) ⟨_,_,_,?_,fun w' o=>HRW.out _ (m.zO.aB o),?_⟩;(focus (intro w;go_simp;done)))));refine aS ?_;(repeat (refine aJ (fun K hK=>?_);go_simp;refine hK _ ?_;clear hK K));refine aK ?_
  intro w oW m k;have HSZ:=aA m.zO.size;refine yM [25,29] (by kernel_rfl) rfl (.inr oW) ?_;clear k m;intro w oN m k;replace oW:=oW.aB oN;simp only[mem_cons,List.not_mem_nil,or_false,forall_eq_or_imp,forall_eq];refine⟨?_,?_⟩
  ·refine aD rfl ?_
   go_wp2_with fail
   with_reducible refine (HSND.out w m.zO).mono ?_
   rintro r w2 ⟨rfl,hat2,ho2⟩;have HA2:=aA hat2;have HO2:=aA (show Oy P.all wb w2 from (m.zO.mono (by simp)).trans ho2 fun y hy=>.inl hy);have HS2:=aA (Nat.le_trans m.zO.size ho2.size);clear hat2 ho2 k m;have m:=bJ w2 [];have k:=m.zK;go_wp2;simp only[bA];refine yP [26,27,28] 3 rfl (by kernel_rfl) ?_;simp only[bV]
   (repeat (refine aJ (fun K hK=>?_);go_simp;refine hK _ ?_;clear hK K))
   refine aK ?_;refine yM [29] (by kernel_rfl) rfl (.inl (aT (by kernel_rfl))) ?_;clear k m;intro w oN m k;clear oN;simp only[eD];refine aD rfl ?_;go_wp2;simp only[bA];obtain⟨nh,hnh⟩:∃ n,n=w.heap.size:=⟨_,rfl⟩;have HNH:=aA (show wb.heap.size<=nh by rw[hnh];exact Nat.le_trans HS2.out m.zO.size);refine yA ?_;clear k m;intro w oN m k;clear oN;rw[<-hnh] at m |-;clear hnh k;have k:=m.zK;refine yM [30] (by kernel_rfl) rfl (.inl (aT (by kernel_rfl))) ?_;clear k m;intro w oN m k;clear oN;simp only[eD];refine aD rfl ?_;refine iL (ty:=185) (b:=nh) (cs:=ZQ x) ?_ ?_ ?_ ?_ ?_ ?_
   ·simp[Act.eval]
   ·simp[Act.eval];rfl
   ·kernel_rfl
   ·rfl
   ·rfl
   clear k m;intro w m;have k:=m.zK;go_wp2;simp only[bA];refine yM [31] (by kernel_rfl) rfl (.inl (aT (by kernel_rfl))) ?_;clear k m;intro w oN m k;clear oN;simp only[eD];refine aD rfl ?_;go_wp2;simp only[bA];refine yE (by kernel_rfl) (.inl (aT (by kernel_rfl))) ?_;clear k m;intro w m k;exact⟨rfl,nh,rfl,HNH.out,HA2.out.kept m.zO,HO2.out.trans m.zO (by simp),gB⟩
  ·refine aD rfl ?_
   go_wp2;simp only[bA];obtain⟨nh,hnh⟩:∃ n,n=w.heap.size:=⟨_,rfl⟩;have HNH:=aA (show wb.heap.size<=nh by rw[hnh];exact m.zO.size);refine yA ?_;clear k m oN;intro w oN m k;replace oW:=oW.aB oN;rw[<-hnh] at m |-;clear hnh k;have k:=m.zK;refine yM [25] (by kernel_rfl) rfl (.inr oW) ?_;clear k m oN;intro w oN m k;replace oW:=oW.aB oN;simp only[eD];have HZ:=aA (gB (w:=w) (b:=nh));have HNP:nh ∉ P.all:=fun hm=>by have h1:=HAT.out.lt _ hm;have h2:=HNH.out;omega
   refine aD rfl ?_;go_wp2_with fail
   with_reducible refine (HSND.out w m.zO).mono ?_
   rintro r w2 ⟨rfl,hat2,ho2⟩;have HA2:=aA hat2;have HO2:=aA (show Oy P.all wb w2 from (m.zO.mono (by simp)).trans ho2 fun y hy=>.inl hy);have hz2:=ho2.got HZ.out HNP;clear hat2 ho2 k m;have m:=kV hz2;have k:=m.zK;clear hz2;go_wp2;simp only[bA];refine yP [26,27,28] 2 rfl (by kernel_rfl) ?_;simp only[bV]
   (repeat (refine aJ (fun K hK=>?_);go_simp;refine hK _ ?_;clear hK K))
   refine aK ?_;refine yM [30] (by kernel_rfl) rfl (.inl (aT (by kernel_rfl))) ?_;clear k m;intro w oN m k;clear oN;simp only[eD];refine aD rfl ?_;refine iL (ty:=185) (b:=nh) (cs:=ZQ x) ?_ ?_ ?_ ?_ ?_ ?_
   ·simp[Act.eval]
   ·simp[Act.eval];rfl
   ·kernel_rfl
   ·rfl
   ·rfl
   clear k m;intro w m;have k:=m.zK;go_wp2;simp only[bA];refine yM [31] (by kernel_rfl) rfl (.inl (aT (by kernel_rfl))) ?_;clear k m;intro w oN m k;clear oN;simp only[eD];refine aD rfl ?_;go_wp2;simp only[bA];refine yE (by kernel_rfl) (.inl (aT (by kernel_rfl))) ?_;clear k m;intro w m k;exact⟨rfl,nh,rfl,HNH.out,HA2.out.off m.zO (fun y hy hm=>HNP (by rw[mem_singleton.1 hm] at hy;exact hy)),HO2.out.trans m.zO (fun y hy=>.inr (by rw[mem_singleton.1 hy];exact HNH.out)),gB⟩
 case k =>
  intro nh w3 hF;obtain⟨hnh,hat3,ho3,hh3⟩:=hF;have hbP:b ∉ P.all:=fun hm=>by have:=HCOL.out b hm;rw[HB1.out] at this;cases this
  have h3:=HH1.out.cli HPI.out HCII.out hat3 rfl (fun _ h=>.inl h) ho3;have hc3:=ho3.got HC1.out hbP;have hb3:=(bW (own:=own1) (t:=.C i) hbP).trans HB1.out;have HBE3:=aA ((bW (own:=own1) (t:=.C i) hbP).trans HBE.out);have HZ3:=aA (Nat.le_trans HZ1.out ho3.size);have HK3:=aA (HK1.out.trans (JM.only (own:=own1) ho3 fun x hx hn=>by have:=HCOL.out x hx;rw[hn] at this;cases this) HZ1.out HN1.out);have HN3:=aA (show ∀ x,x<wo.heap.size->own x=none->dJ own1 P.all (.C i) x=none from fun x hx hn=>(bW fun hm=>by have:=HCOL.out x hm;rw[HN1.out x hx hn] at this;cases this).trans (HN1.out x hx hn));rw[rV] at HT;generalize dJ own1 P.all (.C i)=own2 at h3 hb3 HBE3 HN3;have hp2:(show kI from { p1 with pl:=p1.pl.set i (some P) }).bw=p.bw:=HBW1.out;generalize hpp:({ p1 with pl:=p1.pl.set i (some P) }:kI)=p2 at h3 hp2;have HEV3:Hid (∀ x∈({ st1 with cl:=st1.cl.set i (some c') }:bT).q,x.x≠j):=HEV;have HPU3:Hid (({ st1 with cl:=st1.cl.set i (some c') }:bT).pu=(({ st1 with cl:=st1.cl.set i (some c') }:bT).ev.length:Int)/\({ st1 with cl:=st1.cl.set i (some c') }:bT).ev.length<=st.ev.length+1):=HPU;have hst2:({ st1 with cl:=st1.cl.set i (some c') }:bT).sent=st.sent:=HSM.out.2.1;generalize ({ st1 with cl:=st1.cl.set i (some c') }:bT)=st2 at *
  have hnb:nh≠p.bw:=fun e=>by
   have h1:=(HH1.out.lt _ _ HH1.out.wa.1).2;rw[HBW1.out,<-e] at h1;omega
  have hne:nh≠b:=fun e=>by
   have h1:=(HH1.out.lt _ _ HB1.out).2;rw[<-e] at h1;omega
  clear HSND HX HRW HM HAT HH1 HB1 HC1 HBW1 HPI HCII HCOL HBE HEV HPU HSM hat3 ho3 hpp hnh;have HH3:=aA h3;have HB3:=aA hb3;have HC3:=aA hc3;have HP2:=aA hp2;have hbw3:=h3.wa.2;rw[hp2,hst2] at hbw3;unfold wD xP WC at hc3
  (try dsimp only at hc3)
  unfold ZQ at hh3
  (try dsimp only at hh3)
  by_cases her:er=0
  ·subst her
   have hT:=HT.out;rw[if_pos rfl] at hT;have m:Mm w3 [b,p.bw] w3 _:=⟨(((Mem.start w3 [b,p.bw]).ext false hh3 (by simp) (by simp)).ext true hbw3 (by simpa using Ne.symm hnb) (by simp)).ext true hc3 (by simpa using ⟨hbb,Ne.symm hne⟩) (by simp)⟩;have k:=m.zK;have es:wrap .i64 (st.sent+1)=st.sent+1:=by rw[IntKind.wrap_i64];omega
   clear h3 hb3 hc3 hp2 hbw3 hh3;go_wp2_with ((with_reducible first|refine cU ?_|refine wU ?_);clear k m;intro w m k)
   have O7:=m.zO;have g1:=gB (w:=w) (b:=p.bw);have g2:=gB (w:=w) (b:=b);have g3:=gB (w:=w) (b:=nh);clear k m;have h5:aX w0 w own2 s p2 { st2 with sent:=st.sent+1 }:=HH3.out.cnt2 HB3.out HEV3.out (by rw[HP2.out];exact O7) ⟨HH3.out.wa.1,by rw[HP2.out];exact g1⟩;have hs5:=hs0.kept h5.only;have hR5:=hR0.kept h5.only;have HA:=aA (fun w' (o:Oy [] w w')=>by have:=KI (h5.wa.kept o (by simp)) (hs5.kept o) (hR5.kept o) i q3 t st.sent t0 t1 hn0 (by omega);rw[HP2.out] at this;exact this);have HSC2:=aA (fun u e2 w' (o:Oy [] w w') c hb hb0 hc=>by have:=nN (h5.kept o) HPU3.out.1 (by have:=HPU3.out.2;dsimp only;omega) u e2 (b:=c) hb hb0 hc;rw[HP2.out] at this;exact this);have HFR2:=aA (fun c (hc:w.heap.size<=c)=>h5.fresh hc);have HB02:=aA h5.base;have HBL2:=aA (aF g2);have HC5:=aA (show w.heap[b]? = some (.cells (wD (.poll ⟨i,q2,q3,st.sent⟩)).toArray (xP (.poll ⟨i,q2,q3,st.sent⟩)) (0,0)) from g2);have HH5:=aA h5;have HZ5:=aA (Nat.le_trans HZ3.out O7.size)
   have HK5:=aA (HK3.out.trans (JM.only (own:=own2) O7 fun x hx hn=>by
    rcases mem_cons.1 hx with rfl|hx
    ·rw[HB3.out] at hn;cases hn
    ·rw[mem_singleton.1 hx,<-HP2.out,HH3.out.wa.1] at hn;cases hn) HZ3.out HN3.out)
   clear O7 HEV3 HPU3 HH3 HC3 hs5 hR5 h5 hst2 HT;generalize xV R s.sc i q3 t st.sent=rr at HA hT;obtain⟨wc,rfl⟩:∃ wc:World,wc=w:=⟨_,rfl⟩;have m:Mm wc [] wc _:=⟨(((Mem.start wc []).ext false g3 (by simp) (by simp)).ext false g1 (by simpa using Ne.symm hnb) (by simp)).ext false g2 (by simpa using ⟨hbb,Ne.symm hne⟩) (by simp)⟩;have k:=m.zK;clear g1 g2 g3
   cases rr with
   | none =>
    unfold zG at HA;dsimp only at HA hT;subst hT;go_wp2_with (first|((with_reducible first|refine cM (HA.out _ gO) ?_|refine cU ?_|refine wU ?_);clear k m;intro w m k)|((with_reducible refine iY (id:=8) [0,1,2,3,4,5,6,7,8,9,10,11,12,13,14,15,16,17,18,19,20,21,22] [] ?_);simp only[bV];(repeat' (first|go_big_quiet_step (with_reducible first|exact gX (HA.out _ RH))|(refine wpQuiet_step (fun K hK=>?_);go_simp;(first|(refine hK _ ?_;clear hK K)|(split<;>(refine hK _ ?_;clear hK K))))));all_goals (refine wpQuiet_nil ?_;clear k m;intro w m k))|((with_reducible refine lE (fun w o g k K hK=>⟨rfl,?_⟩));simp[results,Tryz.results144,go_sem];refine hK _ ?_;exact⟨rfl,(pO.same HH5.out HC5.out o).trans HP2.out HBE3.out HK5.out HZ5.out HN3.out⟩))
   | some u =>
    unfold zG at HA;dsimp only at HA hT;obtain⟨e2,he2⟩:∃ e2,e2=EvS.req ⟨i,q2,q3,st.sent⟩ x:=⟨_,rfl⟩;have HE2:Hid (wD e2=[.int .i64 i,.int .i64 q2,.int .i64 q3,.int .i64 st.sent,.int .i64 x.leap,.int .i64 x.ver,.int .i64 x.mode,.int .i64 x.strat,.int .i64 x.poll,.int .i64 x.prec,.int .u32 x.rdel,.int .u32 x.rdsp,.int .u32 x.rid,.int .u64 x.ref,.int .u64 x.org,.int .u64 x.rcv,.int .u64 x.xmt]/\xP e2=195/\FM e2=193):=aA (by rw[he2];exact⟨rfl,rfl,rfl⟩);rw[<-he2] at hT;have HSC2:=aA (HSC2.out u e2);simp only[HE2.out.2.2] at HSC2;clear he2;subst hT;go_wp2_with (first|((with_reducible refine iY (id:=8) [0,1,2,3,4,5,6,7,8,9,10,11,12,13,14,15,16,17,18,19,20,21,22] [] ?_);simp only[bV];(repeat' (first|go_big_quiet_step (with_reducible first|exact gX (HA.out _ RH))|(refine wpQuiet_step (fun K hK=>?_);go_simp;(first|(refine hK _ ?_;clear hK K)|(split<;>(refine hK _ ?_;clear hK K))))));all_goals (refine wpQuiet_nil ?_;clear k m;intro w m k))|((with_reducible first|refine cU ?_|refine wU ?_);clear k m;intro w m k))
    refine rY (id:=10) [0,1,2,3,4,5,6,7] [] [10] 3 (by kernel_rfl) (by kernel_rfl) ?_;simp only[bV]
    (repeat (first|(refine aQ (fun K hK=>?_);go_simp;refine hK _ ?_;clear hK K)));refine aS ?_;(repeat (refine aJ (fun K hK=>?_);go_simp;refine hK _ ?_;clear hK K));refine aK ?_
    clear k m;intro w oW m k;refine yM [8] (by kernel_rfl) rfl (.inr oW) ?_;clear k m;intro w oN m k;replace oW:=oW.aB oN;simp only[eD];refine aD rfl ?_;go_wp2;simp only[bA];have HSZ:=aA m.zO.size;obtain⟨nc,hnc⟩:∃ n,n=w.heap.size:=⟨_,rfl⟩;refine yA ?_;clear k m oN;intro w oN m k;replace oW:=oW.aB oN;rw[<-hnc] at m HSZ |-;clear hnc k;have k:=m.zK;refine yP [9] 1 rfl (by kernel_rfl) ?_;simp only[bV]
    (repeat (refine aJ (fun K hK=>?_);go_simp;refine hK _ ?_;clear hK K))
    refine aK ?_;refine yM [10] (by kernel_rfl) rfl (.inr oW) ?_;clear k m;intro w oN m k;replace oW:=oW.aB oN;simp only[eD];refine aD rfl ?_;go_wp2_with fail
    have HO5:=aA m.zO;refine (HSC2.out w m.zO nc (HFR2.out nc HSZ.out) (Nat.le_trans HB02.out HSZ.out) (by rw[HE2.out.1,HE2.out.2.1];exact gB)).mono ?_;rintro r w5 ⟨rfl,hsch⟩;have HSCH:=aA hsch;clear hsch k m;have m:=bJ w5 [];have k:=m.zK;go_wp2;simp only[bA];refine yE (by kernel_rfl) (.inl (aT (by kernel_rfl))) ?_;clear k m;intro w m k;go_wp2_with (first|((with_reducible refine wU ?_);clear k m;intro w m k)|((with_reducible refine lE (fun w o g k K hK=>⟨rfl,?_⟩));simp[results,Tryz.results144,go_sem];refine hK _ ?_;exact⟨rfl,(pO.NI HSCH.out HB3.out (Nat.lt_of_lt_of_le HBL2.out HO5.out.size) (HFR2.out nc HSZ.out) (HO5.out.got HC5.out (by simp)) o HO5.out).trans HP2.out HBE3.out HK5.out HZ5.out HN3.out⟩))
  ·have hT:=HT.out
   rw[if_neg her] at hT;subst hT;have der:(er != 0)=true:=by simpa using her
   have HFIN:=aA (fun w' (o:Oy [] w3 w')=>(⟨⟨_,_,hp2,h3.kept o,o.got HC3.out (by simp),HBE3.out⟩,HK3.out.trans (JM.only (own:=own2) o (by simp)) HZ3.out HN3.out⟩:pO w0 wo own s p st2 b (.poll ⟨i,q2,q3,q4⟩) w'));clear h3 hb3 hc3 hp2 hbw3 hh3 HT;have m:=bJ w3 [];have k:=m.zK;go_wp2_with (first|((with_reducible refine wU ?_);clear k m;intro w m k)|((with_reducible refine lE (fun w o g k K hK=>⟨rfl,?_⟩));simp[results,Tryz.results144,go_sem];refine hK _ ?_;exact⟨rfl,HFIN.out _ o⟩))
end Go.Proofs.YtppjhbjmfkiejaaGreat
