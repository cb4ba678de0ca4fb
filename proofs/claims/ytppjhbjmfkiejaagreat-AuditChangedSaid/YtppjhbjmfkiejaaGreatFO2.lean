/- O2 O3 -/
import Derived.Test.YtppjhbjmfkiejaaGreatFNw
namespace Go.Proofs.YtppjhbjmfkiejaaGreat
set_option linter.all false
set_option maxRecDepth 100000
set_option maxHeartbeats 8000000
open Go.RowKit Go.Sort
open IntKind (wrap)
def NotR (w0 w:World) (own:Col) (s:dW) (p:kI) (st':bT) (w':World):Prop:=
 ∃ own' p',p'.bw=p.bw/\p'.pl=p.pl/\aX w0 w' own' s p' st'/\∀ x,x<w.heap.size->own' x=own x
theorem lgC_one (x:Ent):∀ u∈lgC x,u.oneCell'=true:=by simp[lgC,Value.oneCell']
theorem Z4 {w:World} {b:Nat} {k n p m t:Int} {T:TypeId} (h:w.heap[b]? = some (.cells #[.int .i64 k,.int .i64 n,.int .i64 p,.int .i64 m,.int .i64 t,.int .i64 0] T (0,0))):∀ j u,(lgC ⟨k,n,p,m,t⟩)[j]? = some u->w.cell? ⟨b,j,none⟩=some u:=fun j u hj=>by rw[aC h,<-hj];simp[lgC]
theorem PL {G:World->Prop} {w:World} {o:Obj} (h:∀ w3,w3.heap[w.heap.size]? = some o->Oy [] w w3->G w3):∀ w3,Oy [] (w.alloc o) w3->G w3:=fun w3 o3 =>
 h w3 (o3.got (bG w o) (by simp)) (((aR [] w).alloc o).aB o3)
@[go_sem] theorem as_poll_poll (v:Value) (w:World):(Instr.typeAssert (.iface 130 v) 140 130 true).run Tryz.prog w=.ok (.tuple #[v,.bool true]) w:=by kernel_rfl
@[go_sem] theorem VU (v:Value) (w:World):(Instr.typeAssert (.iface 130 v) 140 193 true).run Tryz.prog w=.ok (.tuple #[.pointer none,.bool false]) w:=by kernel_rfl
@[go_sem] theorem SA (v:Value) (w:World):(Instr.typeAssert (.iface 130 v) 140 196 true).run Tryz.prog w=.ok (.tuple #[.pointer none,.bool false]) w:=by kernel_rfl
@[go_sem] theorem as_poll_reply (v:Value) (w:World):(Instr.typeAssert (.iface 130 v) 140 199 true).run Tryz.prog w=.ok (.tuple #[.pointer none,.bool false]) w:=by kernel_rfl
@[go_sem] theorem VT (v:Value) (w:World):(Instr.typeAssert (.iface 193 v) 140 130 true).run Tryz.prog w=.ok (.tuple #[.pointer none,.bool false]) w:=by kernel_rfl
@[go_sem] theorem PG (v:Value) (w:World):(Instr.typeAssert (.iface 193 v) 140 193 true).run Tryz.prog w=.ok (.tuple #[v,.bool true]) w:=by kernel_rfl
@[go_sem] theorem LV (v:Value) (w:World):(Instr.typeAssert (.iface 193 v) 140 196 true).run Tryz.prog w=.ok (.tuple #[.pointer none,.bool false]) w:=by kernel_rfl
@[go_sem] theorem VG (v:Value) (w:World):(Instr.typeAssert (.iface 193 v) 140 199 true).run Tryz.prog w=.ok (.tuple #[.pointer none,.bool false]) w:=by kernel_rfl
@[go_sem] theorem SC (v:Value) (w:World):(Instr.typeAssert (.iface 196 v) 140 130 true).run Tryz.prog w=.ok (.tuple #[.pointer none,.bool false]) w:=by kernel_rfl
@[go_sem] theorem LW (v:Value) (w:World):(Instr.typeAssert (.iface 196 v) 140 193 true).run Tryz.prog w=.ok (.tuple #[.pointer none,.bool false]) w:=by kernel_rfl
@[go_sem] theorem JF (v:Value) (w:World):(Instr.typeAssert (.iface 196 v) 140 196 true).run Tryz.prog w=.ok (.tuple #[v,.bool true]) w:=by kernel_rfl
@[go_sem] theorem PK (v:Value) (w:World):(Instr.typeAssert (.iface 196 v) 140 199 true).run Tryz.prog w=.ok (.tuple #[.pointer none,.bool false]) w:=by kernel_rfl
@[go_sem] theorem as_reply_poll (v:Value) (w:World):(Instr.typeAssert (.iface 199 v) 140 130 true).run Tryz.prog w=.ok (.tuple #[.pointer none,.bool false]) w:=by kernel_rfl
@[go_sem] theorem VH (v:Value) (w:World):(Instr.typeAssert (.iface 199 v) 140 193 true).run Tryz.prog w=.ok (.tuple #[.pointer none,.bool false]) w:=by kernel_rfl
@[go_sem] theorem PI (v:Value) (w:World):(Instr.typeAssert (.iface 199 v) 140 196 true).run Tryz.prog w=.ok (.tuple #[.pointer none,.bool false]) w:=by kernel_rfl
@[go_sem] theorem as_reply_reply (v:Value) (w:World):(Instr.typeAssert (.iface 199 v) 140 199 true).run Tryz.prog w=.ok (.tuple #[v,.bool true]) w:=by kernel_rfl
theorem not_end {w0 w w3 w6 w8:World} {own:Col} {s:dW} {p:kI} {st:bT} {v6:Value} {x:Ent} (h:aX w0 w own s p st) (o3:Oy [] w w3) (h6:Own lgC 192 6 w0.heap.size w6 v6 (st.lgs ++ [x])) (hk:∀ k∈v6.ownBlock.toList,k∈p.vl.ownBlock.toList\/w3.heap.size<=k)
  (o6:Oy p.vl.ownBlock.toList w3 w6) (o8:Oy [p.bw] w6 w8) (g:(w8.heap[p.bw]?)=some (.cells #[.slice s.pn s.nd.length s.cn,.slice s.pl s.lk.length s.cl,.slice s.pf s.ft.length s.cf,.int .i64 s.un,.int .u64 s.sd,.slice (some ⟨p.ca,0,none⟩) s.nd.length s.nd.length,.pointer (some ⟨p.qb,0,none⟩),p.ve,.int .i64 st.sent,p.vm,v6] 92 (0,0))) :
  NotR w0 w own s p { st with lgs:=st.lgs ++ [x] } w8:=by
 have hk':∀ k∈v6.ownBlock.toList,k∈p.vl.ownBlock.toList\/w.heap.size<=k:=fun k hm=>(hk k hm).imp id fun q=>Nat.le_trans o3.size q;have hq:∀ b∈v6.ownBlock.toList,own b=some .L\/w.heap.size<=b:=fun b hb=>(hk' b hb).imp (h.ls.2 b) id;refine⟨_,{ p with vl:=v6 },rfl,rfl,h.ent (S:=p.bw::p.vl.ownBlock.toList) (v':=v6) (x:=x) ?_ ?_ (h6.off o8 ?_) hk' ⟨h.wa.1,g⟩,fun y hy=>r9 hq hy⟩
 ·exact (((o3.mono (by simp)).trans o6 fun y hy=>.inl (List.mem_cons_of_mem _ hy)).trans o8 fun y hy=>.inl (by rw[List.mem_singleton.1 hy];simp))
 ·intro y hy
  rcases List.mem_cons.1 hy with rfl|hy
  ·exact .inr h.wa.1
  ·exact .inl (h.ls.2 y hy)
 ·intro k hm hb
  rw[List.mem_singleton.1 hb] at hm;rcases hq _ hm with q|q
  ·rw[h.wa.1] at q;cases q
  ·have:=(h.lt _ _ h.wa.1).2
   omega
theorem pNote {w0 w:World} {own:Col} {s:dW} {p:kI} {st:bT} (h:aX w0 w own s p st) (hs:fK w s) (hlg:st.lgs.length<=1000000000) (t:Int) (t0:0<=t) (t1:t<=1125899906842624) (e:EvS) (he:oC s.sc e.trp) {b:Nat} (hc:w.heap[b]? = some (.cells (wD e).toArray (xP e) (0,0))) (hbb:b≠p.bw) :
  Calls Tryz.prog 47 #[.pointer (some ⟨p.bw,0,none⟩),.iface (FM e) (.pointer (some ⟨b,0,none⟩)),.int .i64 t] w fun r w'=>r=.returned (.tuple #[])/\NotR w0 w own s p (iW s.sc st e t) w':=by
 have HS:=aA h;have hw:=h.wa;have hbw:=h.wa.2;have hnl:s.sc.nd.length=s.nd.length:=by unfold dW.sc;simp
 rcases e with q|⟨q,z⟩|⟨q,z,y⟩|⟨q,z,y⟩;focus (obtain⟨⟨i,j,hi0,hj0,hi,hj,-⟩,hn0,hn1⟩:=(he:oC s.sc q))
 rotate_left
 focus (obtain⟨⟨j,i,hj0,hi0,hj,hi,-⟩,hn0,hn1⟩:=(he:oC s.sc q))
 rotate_left
 focus (obtain⟨⟨j,i,hj0,hi0,hj,hi,-⟩,hn0,hn1⟩:=(he:oC s.sc q))
 rotate_left
 focus (obtain⟨⟨i,j,hi0,hj0,hi,hj,-⟩,hn0,hn1⟩:=(he:oC s.sc q))
 rotate_left
 all_goals
  rw[hnl] at hi hj;obtain⟨q1,q2,q3,q4⟩:=q;replace hn0:0<=q4:=hn0;replace hn1:q4<=1000000000:=hn1;subst hi0;subst hj0;unfold iW;dsimp only;rw[fH];have hnw:=hs.ok.ndo _ (bS bD hi);have ho:=hs.osc _ (bS bD hi);have HR:=aA (fun w' (o:Oy [] w w')=>pRaw (hw.kept o (by simp)) (hs.ok.kept o) hi ho t t0 t1);have HV:=aA hs.ok.nd;have hl:=hs.ok.ln;obtain⟨bk,off,hpn,-⟩:=HV.out.nd (aR [] w) hi
  have HX:=aA (show ∀ w',Oy [] w w'->bk<w'.heap.size/\w'.cell? ⟨bk,off+i*7+3,none⟩=some (.bool (s.nd.getD i bD).n.rf) from fun w' o=>by
   obtain⟨b',o',e,c1,-,-,-,c5,-⟩:=HV.out.nd o hi;rw[hpn] at e
   cases e
   exact⟨c1,c5⟩)
  obtain⟨vp,vc,hvl,hvv⟩:=h.ls.1.dI IK;rw[hvl] at hbw;rw[hpn] at hbw;have hi2:(i:Int)<(s.nd.length:Int):=by omega
  have hsl:=hi;have e1:wrap .i64 (2*q4)=2*q4:=by rw[IntKind.wrap_i64];omega
  have e2:wrap .i64 (2*q4+1)=2*q4+1:=by rw[IntKind.wrap_i64];omega
  unfold wD xP WC at hc
  (try unfold ZQ at hc)
  unfold FM
  (try simp only[List.cons_append,List.nil_append] at hc)
  dsimp only at hc |-;clear hnw hs hw HV h;generalize (s.nd.getD i bD).n=nd at HX |-;generalize bN s.sc i t=rw_ at HR |-;obtain⟨wo,rfl⟩:∃ wo:World,wo=w:=⟨_,rfl⟩;have m:Mm wo [] wo _:=⟨((Mem.start wo []).ext false hbw (by simp) (by simp)).ext false hc (by simpa using hbb) (by simp)⟩;have k:=m.zK;have c:=HX.out _ (aR [] wo);have HB:=aA hbw;clear hbw hc
  cases hrf:nd.rf<;>rw[hrf] at HX c
 all_goals
  go_enter Tryz.func47,Tryz.ntmps47
  go_wp2_with (first|((with_reducible first|refine cM (HR.out _ gO) ?_|refine cU ?_|refine wU ?_);clear k m c;intro w m k;have c:=HX.out w m.zO)|((with_reducible refine iY (id:=4) [0,1,2,3,4,5,6,7,8,9,10,11,12,13,14,15,16] [17] ?_);simp only[bV];(repeat' (first|go_big_quiet_step (fail)|(refine wpQuiet_step (fun K hK=>?_);go_simp;(first|(refine hK _ ?_;clear hK K)|(split<;>(refine hK _ ?_;clear hK K))))));all_goals (refine wpQuiet_nil ?_;clear k m c;intro w m k;have c:=HX.out w m.zO))|((with_reducible refine iY (id:=7) [0,1,2,3,4,5,6,7,8,9,10,11,12,13,14,15,16] [17] ?_);simp only[bV];(repeat' (first|go_big_quiet_step (fail)|(refine wpQuiet_step (fun K hK=>?_);go_simp;(first|(refine hK _ ?_;clear hK K)|(split<;>(refine hK _ ?_;clear hK K))))));all_goals (refine wpQuiet_nil ?_;clear k m c;intro w m k;have c:=HX.out w m.zO))|((with_reducible refine iY (id:=10) [0,1,2,3,4,5,6,7,8,9,10,11,12,13,14,15,16,17] [18] ?_);simp only[bV];(repeat' (first|go_big_quiet_step (fail)|(refine wpQuiet_step (fun K hK=>?_);go_simp;(first|(refine hK _ ?_;clear hK K)|(split<;>(refine hK _ ?_;clear hK K))))));all_goals (refine wpQuiet_nil ?_;clear k m c;intro w m k;have c:=HX.out w m.zO))|((with_reducible refine iY (id:=13) [0,1,2,3,4,5,6,7,8,9,10,11,12,13,14,15,16,17] [18] ?_);simp only[bV];(repeat' (first|go_big_quiet_step (fail)|(refine wpQuiet_step (fun K hK=>?_);go_simp;(first|(refine hK _ ?_;clear hK K)|(split<;>(refine hK _ ?_;clear hK K))))));all_goals (refine wpQuiet_nil ?_;clear k m c;intro w m k;have c:=HX.out w m.zO))|((with_reducible refine iY (id:=15) [0,1,2,3,4,5,6,7,8,9,10] [] ?_);simp only[bV];(repeat' (first|go_big_quiet_step (fail)|(refine wpQuiet_step (fun K hK=>?_);go_simp;(first|(refine hK _ ?_;clear hK K)|(split<;>(refine hK _ ?_;clear hK K))))));all_goals (refine wpQuiet_nil ?_;clear k m c;intro w m k;have c:=HX.out w m.zO)))
  refine rA (id:=17) [1,2,3,4,5] [0] 6 [7,8,9,10] (by kernel_rfl) (by kernel_rfl) ?_;simp only[bV]
  (repeat (first|(refine aQ (fun K hK=>?_);go_simp;refine hK _ ?_;clear hK K)|(refine cG (by kernel_rfl) ⟨_,_,_,?_,fun w' o=>HR.out _ gO,?_⟩;(focus (intro w;go_simp;done)))));refine aS ?_;(repeat (refine aJ (fun K hK=>?_);go_simp;refine hK _ ?_;clear hK K));refine aK ?_
  clear k m c;intro w o m k;refine aD rfl ?_;go_wp2;simp only[bA];refine⟨o.alloc _,PL fun w3 b3 o3=>?_⟩;have OB:=aA (m.zO.aB o3);have B3:=aA b3;clear b3 o3;clear k m o;unfold aV;refine aD rfl ?_;have hE:=(HS.out.ls.kept OB.out (by simp)).1;rw[hvl] at hE;have HB3:=aA (OB.out.got HB.out (by simp));refine bQ (B:=w0.heap.size) rfl _ _ 90 rfl 192 (.agg #[.int .i64 0,.int .i64 0,.int .i64 0,.int .i64 0,.int .i64 0,.int .i64 0]) 6 48 Tryz.underlying90 (by kernel_rfl) rfl (by decide) lgC IK lgC_one st.lgs (.slice vp st.lgs.length vc) rfl hE _ _ rfl (Z4 B3.out) (by simp[maxLen];omega) (by omega) (Nat.le_trans HS.out.base OB.out.size) ?_;intro v6 w6 hown6 hk6 ho6;rw[<-hvl] at hk6 ho6;obtain⟨vp6,vc6,hv6,-⟩:=hown6.dI IK;rw[List.length_append,List.length_singleton] at hv6;subst hv6;have HE6:=aA (fun w8 o8 g8=>not_end (w8:=w8) HS.out OB.out hown6 hk6 ho6 o8 g8);have HB6:=aA (ho6.got HB3.out (fun hm=>by have:=HS.out.ls.2 _ hm;rw[HS.out.wa.1] at this;cases this));clear hE B3 hown6 hk6 ho6 HB3 OB HX HR;go_wp2;intro w7 o7;have HB7:=aA (o7.got HB6.out (by simp));have O7:=aA o7;clear o7;have m:=kV HB7.out;have k:=m.zK;unfold aV;refine aD rfl ?_;go_wp2;simp only[bA];refine tW ?_;clear k m;intro w m k;unfold aV;refine aD rfl ?_;go_wp2;simp only[bA];refine tW ?_;clear k m;intro w m k;unfold aV;refine aD rfl ?_;go_wp2;simp only[bA];refine tW ?_;clear k m;intro w m k;unfold aV;go_wp2;refine lN rfl rfl fun w8 o8 g8=>?_;exact⟨rfl,HE6.out w8 ((O7.out.mono (by simp)).trans o8 fun _ h=>.inl h) (by have:=g8.1;rw[<-hpn] at this;exact this)⟩
def JM (own:Col) (w w':World):Prop:=∀ x,x<w.heap.size->own x=none->w'.heap[x]? = w.heap[x]?
theorem JM.only {own:Col} {w w':World} {S:List Nat} (ho:Oy S w w') (hS:∀ x∈S,own x≠none):JM own w w':=fun x hx hn=>ho.block x hx fun hm=>hS x hm hn
theorem JM.trans {own own1:Col} {w w1 w2:World} (h:JM own w w1) (h1:JM own1 w1 w2) (hs:w.heap.size<=w1.heap.size) (hc:∀ x,x<w.heap.size->own x=none->own1 x=none):JM own w w2:=fun x hx hn=>(h1 x (Nat.lt_of_lt_of_le hx hs) (hc x hx hn)).trans (h x hx hn)
def pO (w0 wb:World) (own:Col) (s:dW) (p:kI) (st':bT) (b:Nat) (e':EvS) (w':World):Prop:=
 (∃ own' p',p'.bw=p.bw/\aX w0 w' own' s p' st'/\w'.heap[b]? = some (.cells (wD e').toArray (xP e') (0,0))/\own' b=own b)/\JM own wb w'
theorem pO.NI {w0 wb w w1 w':World} {own:Col} {s:dW} {p:kI} {st':bT} {b c j:Nat} {e:EvS} (h:SchR w0 w own s p st' c w1) (hb:own b=some (.V j)) (hbl:b<w.heap.size) (hc:own c=none) (hq:w.heap[b]? = some (.cells (wD e).toArray (xP e) (0,0))) (o:Oy [] w1 w') (o0:Oy [] wb w):pO w0 wb own s p st' b e w':=by
 obtain⟨own',p',h1,_,h3,h4,S,h5,h6⟩:=h;refine⟨⟨own',p',h1,h3.kept o,(h5.trans o (by simp)).got hq fun hm=>?_,h4 b hbl fun e=>by rw[e,hc] at hb;cases hb⟩,JM.only ((o0.mono (S':=S) (by simp)).trans (h5.trans o (by simp)) fun y hy=>.inl hy) fun x hx hn=>?_⟩
 ·rcases h6 b hm with q|q | q<;>rw[hb] at q<;>cases q
 ·rcases h6 x hx with q|q | q<;>rw[hn] at q<;>cases q
theorem pO.same {w0 w w':World} {own:Col} {s:dW} {p:kI} {st:bT} {b:Nat} {e:EvS} (h:aX w0 w own s p st) (hq:w.heap[b]? = some (.cells (wD e).toArray (xP e) (0,0))) (o:Oy [] w w'):pO w0 w own s p st b e w':=
 ⟨⟨own,p,rfl,h.kept o,o.got hq (by simp),rfl⟩,JM.only o (by simp)⟩
theorem pDepart {w0 w:World} {own:Col} {s:dW} {p:kI} {st:bT} (h:aX w0 w own s p st) (hs:fK w s) {R:List (Int × Int)} (hR:rQ w R) (hpu:st.pu=st.ev.length) (hle:st.ev.length<=1000000000) (t:Int) (t0:0<=t) (t1:t<=1125899906842624) (q:AJ) (z:Np) (y:Iv) (he:oC s.sc q) {b j:Nat} (hb:own b=some (.V j)) (hc:w.heap[b]? = some (.cells (wD (.dep q z y)).toArray (xP (.dep q z y)) (0,0))) :
  Calls Tryz.prog 228 #[.pointer (some ⟨b,0,none⟩),.pointer (some ⟨p.bw,0,none⟩),.int .i64 t] w fun r w'=>r=.returned (.bool true)/\pO w0 w own s p (match xV R s.sc q.s q.c t q.n with|none=>st|some u=>fE s.sc st u (.rep q z y)) b (.dep q z y) w':=by
 have HS:=aA h;have HA:=aA (fun w' (o:Oy [] w w')=>KI (h.wa.kept o (by simp)) (hs.kept o) (hR.kept o) q.s q.c t q.n t0 t1 he.2.1 he.2.2);have hbw:=h.wa.2;have hbb:b≠p.bw:=fun e=>by rw[e,h.wa.1] at hb;cases hb
 have HC:=aA hc;have HB:=aA hb;have HSC:=aA (fun u w' (o:Oy [] w w') c hb hb0 hc=>nN (h.kept o) hpu hle u (.rep q z y) (b:=c) hb hb0 hc);have HFR:=aA (fun c (hc:w.heap.size<=c)=>h.fresh hc);have HB0:=aA h.base;have HBL:=aA (aF hc);have HE:Hid (wD (.rep q z y)=wD (.dep q z y)):=aA rfl;obtain⟨T,HT⟩:∃ T:Option Int->bT,Hid (T=fun o=>match o with|none=>st|some u=>fE s.sc st u (.rep q z y)):=⟨_,aA rfl⟩;have HT0:=aA (show T none=st by rw[HT.out]);show Calls _ _ _ _ fun r w'=>r=.returned (.bool true)/\pO w0 w own s p ((fun o=>match o with|none=>st|some u=>fE s.sc st u (.rep q z y)) (xV R s.sc q.s q.c t q.n)) b (.dep q z y) w'
 rw[<-HT.out];obtain⟨e0,he0⟩:∃ e0,e0=EvS.dep q z y:=⟨_,rfl⟩;obtain⟨e1,he1⟩:∃ e1,e1=EvS.rep q z y:=⟨_,rfl⟩;rw[<-he0] at HC |-;rw[<-he1] at HSC;have HT1:=aA (fun u=>show T (some u)=fE s.sc st u e1 by rw[HT.out,he1]);obtain⟨q1,q2,q3,q4⟩:=q;obtain⟨z1,z2,z3,z4,z5,z6,z7,z8,z9,za,zb,zc,zd⟩:=z;obtain⟨y1,y2⟩:=y;have HE1:Hid (wD e1=[.int .i64 q1,.int .i64 q2,.int .i64 q3,.int .i64 q4,.int .i64 z1,.int .i64 z2,.int .i64 z3,.int .i64 z4,.int .i64 z5,.int .i64 z6,.int .u32 z7,.int .u32 z8,.int .u32 z9,.int .u64 za,.int .u64 zb,.int .u64 zc,.int .u64 zd,.int .i64 y1,.int .i64 y2]/\xP e1=200/\FM e1=199):=aA (by rw[he1];exact⟨rfl,rfl,rfl⟩);simp only[HE1.out.2.2] at HSC;unfold wD xP WC ZQ at hc;simp only[List.cons_append,List.nil_append] at hc;dsimp only at HA hc |-;generalize xV R s.sc q3 q1 t q4=rr at HA |-;clear he0 he1 h hs hR he HT HE;obtain⟨wo,rfl⟩:∃ wo:World,wo=w:=⟨_,rfl⟩;have m:Mm wo [] wo _:=⟨((Mem.start wo []).ext false hbw (by simp) (by simp)).ext false hc (by simpa using hbb) (by simp)⟩;have k:=m.zK;clear hbw hc
 cases rr with
 | none =>
  unfold zG at HA;dsimp only at HA;rw[HT0.out];go_enter Tryz.func228,Tryz.ntmps228
  go_wp2_with (first|((with_reducible first|refine cM (HA.out _ gO) ?_|refine cU ?_|refine wU ?_);clear k m;intro w m k)|((with_reducible refine iY (id:=1) [0,1,2,3,4,5,6,7,8,9,10,11,12,13,14,15,16,17,18,19,20,21,22] [] ?_);simp only[bV];(repeat' (first|go_big_quiet_step (with_reducible first|exact gX (HA.out _ RH))|(refine wpQuiet_step (fun K hK=>?_);go_simp;(first|(refine hK _ ?_;clear hK K)|(split<;>(refine hK _ ?_;clear hK K))))));all_goals (refine wpQuiet_nil ?_;clear k m;intro w m k))|((with_reducible refine lE (fun w o g k K hK=>⟨rfl,?_⟩));simp[results,Tryz.results228,go_sem];refine hK _ ?_;exact⟨rfl,.same HS.out HC.out o⟩))
 | some u =>
  unfold zG at HA;dsimp only at HA;rw[HT1.out];go_enter Tryz.func228,Tryz.ntmps228
  go_wp2_with (first|((with_reducible first|refine cM (HA.out _ gO) ?_|refine cU ?_|refine wU ?_);clear k m;intro w m k)|((with_reducible refine iY (id:=1) [0,1,2,3,4,5,6,7,8,9,10,11,12,13,14,15,16,17,18,19,20,21,22] [] ?_);simp only[bV];(repeat' (first|go_big_quiet_step (with_reducible first|exact gX (HA.out _ RH))|(refine wpQuiet_step (fun K hK=>?_);go_simp;(first|(refine hK _ ?_;clear hK K)|(split<;>(refine hK _ ?_;clear hK K))))));all_goals (refine wpQuiet_nil ?_;clear k m;intro w m k)))
  refine rA (id:=3) [2,3,4,5,6,7,8,9,10,11,12,13,14] [0,1] 15 [16,17] (by kernel_rfl) (by kernel_rfl) ?_;simp only[bV]
  (repeat (first|(refine aQ (fun K hK=>?_);go_simp;refine hK _ ?_;clear hK K)));refine aS ?_;(repeat (refine aJ (fun K hK=>?_);go_simp;refine hK _ ?_;clear hK K));refine aK ?_
  clear k m;intro w o m k;refine aD rfl ?_;go_wp2;simp only[bA];refine⟨o.alloc _,PL fun w3 b3 o3=>?_⟩;have OB:=aA (m.zO.aB o3);have B3:=aA b3;have HSZ:=aA m.zO.size;clear b3 o3 k m o;generalize w.heap.size=nb at B3 HSZ |-;have m:=bJ w3 [];have k:=m.zK;unfold aV;refine aD rfl ?_;go_wp2;simp only[bA];refine tW ?_;clear k m;intro w m k;unfold aV;refine aD rfl ?_;go_wp2_with fail
  refine (HSC.out u w (OB.out.aB m.zO) nb (HFR.out nb HSZ.out) (Nat.le_trans HB0.out HSZ.out) (by rw[HE1.out.1,HE1.out.2.1];exact m.zO.got B3.out (by simp))).mono ?_;have HO5:=aA (OB.out.aB m.zO);rintro r w5 ⟨rfl,hsch⟩;have HSCH:=aA hsch;clear hsch k m;have m:=bJ w5 [];have k:=m.zK;go_wp2;simp only[bA];refine tW ?_;clear k m;intro w m k;unfold aV;go_wp2_with (first|((with_reducible refine wU ?_);clear k m;intro w m k)|((with_reducible refine lE (fun w o g k K hK=>⟨rfl,?_⟩));simp[results,Tryz.results228,go_sem];refine hK _ ?_;exact⟨rfl,.NI HSCH.out HB.out (Nat.lt_of_lt_of_le HBL.out HO5.out.size) (HFR.out nb HSZ.out) (HO5.out.got HC.out (by simp)) o HO5.out⟩))
end Go.Proofs.YtppjhbjmfkiejaaGreat
