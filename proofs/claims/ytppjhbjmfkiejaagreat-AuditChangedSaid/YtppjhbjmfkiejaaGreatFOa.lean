/- Oa O5 -/
import Derived.Test.YtppjhbjmfkiejaaGreatFNo
import Derived.Test.YtppjhbjmfkiejaaGreatFO4
namespace Go.Proofs.YtppjhbjmfkiejaaGreat
set_option linter.all false
set_option maxRecDepth 100000
set_option maxHeartbeats 8000000
open Go.RowKit
open IntKind (wrap)
section
variable {P:Program} {w0 w:World} {S:List Nat} {L:List gG} {Q:Exit->Act->World->Prop}
theorem rU {md:Region.Mode} {ops:Array Oper} {tl:List Nat}:∀ {pu:List Nat} {listed:Array Bool},jL md ops tl listed->iB md ops pu listed=true->jL md ops tl (pu.foldl (fun l i=>l.setIfInBounds i true) listed)
 | [],_,inv,_=>inv
 |k::pu,listed,inv,h=>by
  simp only[iB,Bool.and_eq_true] at h;exact rU (pu:=pu) (inv.set (by simpa using h.1.1)) h.2
def Yg (P:Program) (l:List Oper) (Q:Exit->Act->World->Prop) (TL:List Nat) (W:World) (f:Nat) (listed:Array Bool) (a:Act) (w:World):Prop:=
 jL .any l.toArray TL listed->dY P .any l.toArray TL W (pI Q) f listed a w
theorem RO:jP (pI Q):=fun _ _ _ g o w3 o3=>g w3 (o.aB o3)
variable {l:List Oper} {TL:List Nat} {W:World} {f:Nat} {listed:Array Bool} {a:Act}
theorem yN (rs:List Nat) (hr:Region.ready .any l.toArray listed=rs) (hne:rs.isEmpty=false) (hC:late TL listed\/Oy [] W w) (h:∀ w1,Oy [] w w1->∀ i∈rs,wpOp P l.toArray (bA (pI Q)) i (fun a' w'=>Yg P l Q TL W f (listed.setIfInBounds i true) a' w') a w1):Yg P l Q TL W (f+1) listed a w:=fun inv =>
 u7 rs hr (by intro e;rw[e] at hne;cases hne) (hC.imp id bC) fun w1 o1 i hi=>wpOp_mono (fun a' w' g=>g (inv.set (hr ▸ hi))) (h w1 o1 i hi)
def yPok (l:List Oper) (TL pu:List Nat) (listed:Array Bool):Bool:=Region.noSelect l.toArray && iB .any l.toArray pu listed && pu.all (fun i=>decide (i<l.length)) && pu.all (fun i=>!TL.contains i)
theorem yP (pu:List Nat) (f:Nat) {n:Nat} (hn:n=pu.length+f) (hB:yPok l TL pu listed=true) (h:bL P l.toArray (fun _=>True) (fun a'=>Yg P l Q TL W f (pu.foldl (fun l i=>l.setIfInBounds i true) listed) a' w) (pick l pu) a):Yg P l Q TL W n listed a w:=fun inv=>by
 subst hn;simp only[yPok,Bool.and_eq_true] at hB;obtain⟨⟨⟨h1,h2⟩,h3⟩,h4⟩:=hB;exact mM RO h1 pu (pick l pu) listed a (gT l pu h3) (fun i hi=>by have:=List.all_eq_true.1 h4 i hi;simpa using this) inv h2 (dN (fun a' g=>g (rU inv h2)) _ _ h)
theorem yD (hr:Region.ready .any l.toArray listed=[]) (hC:late TL listed\/Oy [] W w) (h:∀ w2,Oy [] w w2->Q .normal a w2):Yg P l Q TL W 0 listed a w:=fun _=>mO hr (hC.imp id bC) h
def rYok (l:List Oper) (hd pu TL:List Nat) (n:Nat):Bool:=kR l hd pu TL && (l.length == hd.length+pu.length+n)
theorem rY {id:Nat} (hd pu TL:List Nat) (n:Nat) [m:Mm w0 S w L] (hm:P.follows .mixedOrders=true) (hB:rYok l hd pu TL n=true)
  (h:bM P l.toArray w (bL P l.toArray (fun _=>True) (fun a'=>∀ w1,Oy [] w w1->Mm w0 S w1 L->Facts w1 L->Yg P l Q TL w n (fF l.length (hd ++ pu)) a' w1) (pick l pu)) (pick l hd) a):(Code.region id l.toArray true).wp P Q a w:=by
 simp only[rYok,Bool.and_eq_true,beq_iff_eq] at hB;obtain⟨h1,h4⟩:=hB;have h1':=h1;simp only[kR,Bool.and_eq_true,decide_eq_true_eq] at h1';obtain⟨⟨⟨⟨⟨⟨⟨⟨hsel,htk⟩,htp⟩,hin⟩,hip⟩,hlen⟩,hht⟩,hdis⟩,hdip⟩:=h1'
 have inv0:jL .any l.toArray TL (Array.replicate l.length false):=
  ⟨by simp,fun j oj _ hl=>(by rw[getD_replicate_false] at hl;cases hl)⟩
 have inv1:jL .any l.toArray TL (fF l.length (hd ++ pu)):=by
  have i1:=rU (rU inv0 htk) htp;unfold fF;rw[List.foldl_append];exact i1
 refine iH hd pu TL hm h1 (dU (fun a1 g1=>dN (fun a2 g2=>?_) _ _ g1) _ _ h);refine⟨pI Q,fun a' w' g=>g w' (aR [] w'),RO,?_⟩;rw[show l.length-(hd.length+pu.length)=n by omega];have o:Oy [] w w.drew:=(aR [] w).drew;exact g2 w.drew o ⟨m.out.call o⟩ (m.out.call o).k inv1
theorem yM (rs:List Nat) [m:Mm w0 S w L] (hr:Region.ready .any l.toArray listed=rs) (hne:rs.isEmpty=false) (hC:late TL listed\/Oy [] W w) (h:∀ w1,Oy [] w w1->Mm w0 S w1 L->Facts w1 L->∀ i∈rs,wpOp P l.toArray (bA (pI Q)) i (fun a' w'=>Yg P l Q TL W f (listed.setIfInBounds i true) a' w') a w1):Yg P l Q TL W (f+1) listed a w:=
 yN rs hr hne hC fun w1 o=>h w1 o ⟨m.out.call o⟩ (m.out.call o).k
theorem yA {o:Obj} [m:Mm w0 S (w.alloc o) L] (h:∀ w2,Oy [] w w2->Mm w0 S w2 L->Facts w2 L->Yg P l Q TL W f listed a w2):Yg P l Q TL W f listed a (w.alloc o):=
 h _ ((aR [] w).alloc o) m m.zK
theorem yU [PS w] [m:Mm w0 S w L] (h:∀ w2,Mm w0 S w2 L->Facts w2 L->Yg P l Q TL W f listed a w2):Yg P l Q TL W f listed a w:=h _ m m.zK
theorem yE [m:Mm w0 S w L] (hr:Region.ready .any l.toArray listed=[]) (hC:late TL listed\/Oy [] W w) (h:∀ w2,Mm w0 S w2 L->Facts w2 L->Q .normal a w2):Yg P l Q TL W 0 listed a w:=
 yD hr hC fun w2 o=>h w2 ⟨m.out.call o⟩ (m.out.call o).k
end
section
open Go.Sort
theorem pAnswer {w0 w:World} {own:Col} {s:dW} {p:kI} {st:bT} (h:aX w0 w own s p st) (hs:fK w s) {i:Nat} (hi:i<s.nd.length) (hV:∀ c,gW st i=some c->yL c) (z:Np) (t:Int) (t0:0<=t) (t1:t<=1125899906842624) :
  Calls Tryz.prog 172 #[.pointer (some ⟨p.bw,0,none⟩),.int .i64 i,iR z,.int .i64 t] w fun e w'=>e=.returned (.tuple #[iR (fG s.sc st i z t).1,dV (fG s.sc st i z t).2.1,.bool (fG s.sc st i z t).2.2])/\Oy [] w w':=by
 cases hrf:(s.nd.getD i bD).n.rf with
 | true=>exact ZH h hs hi z t t0 t1 hrf
 | false =>
  cases hc:gW st i with
  | none=>exact ZI h hs hi z t t0 t1 hrf hc
  | some c=>exact ZJ h hs hi z t t0 t1 hrf hc (hV c hc)
theorem app_hold {l:List Ft} {n t:Int} {p:Np} {v:Iv} (hl:tX l=0):0<=(mG l n t p v).hold/\(mG l n t p v).hold<=36028797018963968:=by
 have key:∀ (k:List Ft) (g:Fg),(∀ f∈k,IU f=0)->0<=g.hold->0<=(k.foldl (gM t) g).hold/\(k.foldl (gM t) g).hold<=g.hold+k.length*1125899906842624:=by
  intro k;induction k with
  | nil=>intro g _ h;simp;exact h
  | cons f r ih =>
   intro g hf h;have h1:=KZ (t:=t) (hf f (List.mem_cons_self ..)) h;have h2:=ih (gM t g f) (fun x hx=>hf x (List.mem_cons_of_mem _ hx)) h1.1;rw[List.foldl_cons,List.length_cons];omega
 have h1:=(wB hl).1;have h2:=(List.length_filter_le (xW n t) l);have h3:=key (l.filter (xW n t)) ⟨false,p,v,0⟩ (fun f hf=>(wB hl).2 f (List.mem_filter.1 hf).1) (Int.le_refl 0);unfold mG;dsimp only at h3;omega
theorem BQ {w0 w:World} {own:Col} {s:dW} {p:kI} {st:bT} (h:aX w0 w own s p st) (hs:fK w s) (hpu:st.pu=st.ev.length) (hle:st.ev.length<=1000000000) (t:Int) (t0:0<=t) (t1:t<=1125899906842624) (q:AJ) (z:Np) (he:oC s.sc q) (hV:∀ c,gW st q.s=some c->yL c) {RR:bT} (hRR:RR=if (fG s.sc st q.s z t).2.2=true then (if (mG s.ft q.s t (fG s.sc st q.s z t).1 (fG s.sc st q.s z t).2.1).drop=true then st else fE s.sc st (t+(mG s.ft q.s t (fG s.sc st q.s z t).1 (fG s.sc st q.s z t).2.1).hold) (.dep q (mG s.ft q.s t (fG s.sc st q.s z t).1 (fG s.sc st q.s z t).2.1).hd (mG s.ft q.s t (fG s.sc st q.s z t).1 (fG s.sc st q.s z t).2.1).iv)) else st) {b j:Nat} (hb:own b=some (.V j)) (hc:w.heap[b]? = some (.cells (wD (.req q z)).toArray (xP (.req q z)) (0,0))) :
  Calls Tryz.prog 171 #[.pointer (some ⟨b,0,none⟩),.pointer (some ⟨p.bw,0,none⟩),.int .i64 t] w fun r w'=>r=.returned (.bool true)/\pO w0 w own s p RR b (.req q z) w':=by
 obtain⟨⟨ci,i,hci,hsi,hcl,hi,-⟩,-,-⟩:=he;have hnl:s.sc.nd.length=s.nd.length:=by unfold dW.sc;simp
 rw[hnl] at hi;rw[hsi] at hV hRR;have HS:=aA h;have HA:=aA (fun w' (o:Oy [] w w')=>pAnswer (h.kept o) (hs.kept o) hi hV z t t0 t1);have HAP:=aA (fun x y w' (o:Oy [] w w')=>pApply i t x y (hs.ok.ft.kept o) hs.ft t0 t1);have HAH:=aA (fun x y=>app_hold (n:=(i:Int)) (t:=t) (p:=x) (v:=y) hs.ft);have hbw:=h.wa.2;have hbb:b≠p.bw:=fun e=>by rw[e,h.wa.1] at hb;cases hb
 have HC:=aA hc;have HB:=aA hb;have HSC:=aA (fun u e1 w' (o:Oy [] w w') c hb hb0 hc=>nN (h.kept o) hpu hle u e1 (b:=c) hb hb0 hc);have HFR:=aA (fun c (hc:w.heap.size<=c)=>h.fresh hc);have HB0:=aA h.base;have HBL:=aA (aF hc);generalize fG s.sc st i z t=an at HA hRR;obtain⟨x,y,a3⟩:=an;dsimp only at HA hRR;have HAP:=aA (HAP.out x y);have HAH:=aA (HAH.out x y);generalize mG s.ft i t x y=g at HAP HAH hRR;obtain⟨e0,he0⟩:∃ e0,e0=EvS.req q z:=⟨_,rfl⟩;rw[<-he0] at HC |-;obtain⟨q1,q2,q3,q4⟩:=q;dsimp only at hsi;subst hsi;clear hci;obtain⟨z1,z2,z3,z4,z5,z6,z7,z8,z9,za,zb,zc,zd⟩:=z;obtain⟨x1,x2,x3,x4,x5,x6,x7,x8,x9,xa,xb,xc,xd⟩:=x;obtain⟨y1,y2⟩:=y;unfold wD xP WC ZQ at hc;simp only[List.cons_append,List.nil_append] at hc;unfold iR dV at HA HAP;dsimp only at HA HAP hc |-;clear he0 h hs hV;obtain⟨e1,he1⟩:∃ e1,e1=EvS.dep ⟨q1,q2,i,q4⟩ g.hd g.iv:=⟨_,rfl⟩;have HE1:Hid (wD e1=[.int .i64 q1,.int .i64 q2,.int .i64 i,.int .i64 q4,.int .i64 g.hd.leap,.int .i64 g.hd.ver,.int .i64 g.hd.mode,.int .i64 g.hd.strat,.int .i64 g.hd.poll,.int .i64 g.hd.prec,.int .u32 g.hd.rdel,.int .u32 g.hd.rdsp,.int .u32 g.hd.rid,.int .u64 g.hd.ref,.int .u64 g.hd.org,.int .u64 g.hd.rcv,.int .u64 g.hd.xmt,.int .i64 g.iv.lo,.int .i64 g.iv.hi]/\xP e1=198/\FM e1=196):=aA (by rw[he1];exact⟨rfl,rfl,rfl⟩);rw[<-he1] at hRR;have HSC:=aA (HSC.out (t+g.hold) e1);simp only[HE1.out.2.2] at HSC;clear he1;have eh:wrap .i64 (t+g.hold)=t+g.hold:=by have:=HAH.out;rw[IntKind.wrap_i64];omega
 obtain⟨wo,rfl⟩:∃ wo:World,wo=w:=⟨_,rfl⟩;have m:Mm wo [] wo _:=⟨((Mem.start wo []).ext false hbw (by simp) (by simp)).ext false hc (by simpa using hbb) (by simp)⟩;have k:=m.zK;clear hbw hc
 cases a3
 focus (rw[if_neg (by decide)] at hRR;have HE:=aA hRR;clear hRR)
 rotate_left
 focus (rw[if_pos rfl] at hRR;have HE:=aA hRR;clear hRR)
 rotate_left
 all_goals
  go_enter Tryz.func171,Tryz.ntmps171
  go_wp2_with (first|(refine rY (id:=1) [0,1,2,3,4,5,6,7,8,9,10,11] [12,13,14,15] [18,19,20] 5 (by kernel_rfl) (by kernel_rfl) ?_;simp only[bV];(repeat (first|(refine aQ (fun K hK=>?_);go_simp;refine hK _ ?_;clear hK K)|(refine cG (by kernel_rfl) ⟨_,_,_,?_,fun w' o=>HA.out _ (m.zO.aB o),?_⟩;(focus (intro w;go_simp;done)))));refine aS ?_;(repeat (refine aJ (fun K hK=>?_);go_simp;refine hK _ ?_;clear hK K));refine aK ?_;clear k m;intro w oW m k;refine yM [16,17] (by kernel_rfl) rfl (.inr oW) ?_;clear k m;intro w oN m k;replace oW:=oW.aB oN;simp only[List.mem_cons,List.not_mem_nil,or_false,forall_eq_or_imp,forall_eq];refine⟨?_,?_⟩;(focus (refine aD rfl ?_;go_wp2;simp only[bA];refine yA ?_;clear k m;intro w oN m k;replace oW:=oW.aB oN;refine yM [17] (by kernel_rfl) rfl (.inr oW) ?_;clear k m;intro w oN m k;replace oW:=oW.aB oN;simp only[eD];refine aD rfl ?_;go_wp2;simp only[bA];refine yA ?_;clear k m;intro w oN m k;replace oW:=oW.aB oN;refine yM [18] (by kernel_rfl) rfl (.inr oW) ?_;clear k m;intro w oN m k;replace oW:=oW.aB oN;simp only[eD];refine aD rfl ?_;go_wp2;simp only[bA];refine yU ?_;clear k m;intro w m k;refine yM [19] (by kernel_rfl) rfl (.inl (aT (by kernel_rfl))) ?_;clear k m;intro w oN m k;clear oN;simp only[eD];refine aD rfl ?_;go_wp2;simp only[bA];refine yU ?_;clear k m;intro w m k;refine yM [20] (by kernel_rfl) rfl (.inl (aT (by kernel_rfl))) ?_;clear k m;intro w oN m k;clear oN;simp only[eD];refine aD rfl ?_;go_wp2;simp only[bA];refine yE (by kernel_rfl) (.inl (aT (by kernel_rfl))) ?_;clear k m;intro w m k));rotate_left 1;(focus (refine aD rfl ?_;go_wp2;simp only[bA];refine yA ?_;clear k m;intro w oN m k;replace oW:=oW.aB oN;refine yM [16] (by kernel_rfl) rfl (.inr oW) ?_;clear k m;intro w oN m k;replace oW:=oW.aB oN;simp only[eD];refine aD rfl ?_;go_wp2;simp only[bA];refine yA ?_;clear k m;intro w oN m k;replace oW:=oW.aB oN;refine yM [18] (by kernel_rfl) rfl (.inr oW) ?_;clear k m;intro w oN m k;replace oW:=oW.aB oN;simp only[eD];refine aD rfl ?_;go_wp2;simp only[bA];refine yU ?_;clear k m;intro w m k;refine yM [19] (by kernel_rfl) rfl (.inl (aT (by kernel_rfl))) ?_;clear k m;intro w oN m k;clear oN;simp only[eD];refine aD rfl ?_;go_wp2;simp only[bA];refine yU ?_;clear k m;intro w m k;refine yM [20] (by kernel_rfl) rfl (.inl (aT (by kernel_rfl))) ?_;clear k m;intro w oN m k;clear oN;simp only[eD];refine aD rfl ?_;go_wp2;simp only[bA];refine yE (by kernel_rfl) (.inl (aT (by kernel_rfl))) ?_;clear k m;intro w m k));rotate_left 1)|((with_reducible first|refine cU ?_|refine wU ?_);clear k m;intro w m k)|((with_reducible refine lE (fun w o g k K hK=>⟨rfl,?_⟩));simp[results,Tryz.results171,go_sem];refine hK _ ?_;exact⟨rfl,by rw[HE.out];exact .same HS.out HC.out o⟩))
 all_goals
  refine rA (id:=4) [0,1,2,3,4,5,6,7,8,9,10,11,12,13] [] 14 [15] (by kernel_rfl) (by kernel_rfl) ?_;simp only[bV]
  (repeat (first|(refine aQ (fun K hK=>?_);go_simp;refine hK _ ?_;clear hK K)|(refine cG (by kernel_rfl) ⟨_,_,_,?_,fun w' o=>HAP.out _ (m.zO.aB o),?_⟩;(focus (intro w;go_simp;done)))));refine aS ?_;(repeat (refine aJ (fun K hK=>?_);go_simp;refine hK _ ?_;clear hK K));refine aK ?_
  clear k m;intro w o m k;refine aD rfl ?_;go_wp2;simp only[bA];obtain⟨nb,hnb⟩:∃ n,n=w.heap.size:=⟨_,rfl⟩;refine⟨o.alloc _,tW ?_⟩;clear o k m;intro w m k;rw[<-hnb] at m |-;clear hnb k;have k:True:=trivial;unfold aV;refine aD rfl ?_;refine iL (ty:=315) (b:=nb) (cs:=jJ g) ?_ ?_ ?_ ?_ ?_ ?_
  ·simp[Act.eval]
  ·simp[Act.eval];rfl
  ·kernel_rfl
  ·rfl
  ·rfl
  clear k m;intro w m;go_wp2;simp only[bA];refine tW ?_;clear m;intro w m k;unfold jJ at m;have hE:=HE.out;clear HE
  cases hdr:g.drop
  focus
   rw[hdr,if_neg (by decide)] at hE;have HE:=aA hE;rw[hdr] at m;clear k hE;have k:=m.zK;unfold aV;go_wp2_with ((with_reducible first|refine cU ?_|refine wU ?_);clear k m;intro w m k)
   refine rY (id:=6) [0,1,2,3,4,5,6,7,8,9,10,11,12,13] [] [16] 3 (by kernel_rfl) (by kernel_rfl) ?_;simp only[bV]
   (repeat (first|(refine aQ (fun K hK=>?_);go_simp;refine hK _ ?_;clear hK K)));refine aS ?_;(repeat (refine aJ (fun K hK=>?_);go_simp;refine hK _ ?_;clear hK K));refine aK ?_
   clear k m;intro w oW m k;refine yM [14] (by kernel_rfl) rfl (.inr oW) ?_;clear k m;intro w oN m k;replace oW:=oW.aB oN;simp only[eD];refine aD rfl ?_;go_wp2;simp only[bA];have HSZ:=aA m.zO.size;obtain⟨nc,hnc⟩:∃ n,n=w.heap.size:=⟨_,rfl⟩;refine yA ?_;clear k m oN;intro w oN m k;replace oW:=oW.aB oN;rw[<-hnc] at m HSZ |-;clear hnc k;have k:=m.zK;refine yP [15] 1 rfl (by kernel_rfl) ?_;simp only[bV]
   (repeat (refine aJ (fun K hK=>?_);go_simp;refine hK _ ?_;clear hK K))
   refine aK ?_;refine yM [16] (by kernel_rfl) rfl (.inr oW) ?_;clear k m;intro w oN m k;replace oW:=oW.aB oN;simp only[eD];refine aD rfl ?_;go_wp2_with fail
   have HO5:=aA m.zO;refine (HSC.out w m.zO nc (HFR.out nc HSZ.out) (Nat.le_trans HB0.out HSZ.out) (by rw[HE1.out.1,HE1.out.2.1];exact gB)).mono ?_;rintro r w5 ⟨rfl,hsch⟩;have HSCH:=aA hsch;clear hsch k m;have m:=bJ w5 [];have k:=m.zK;go_wp2;simp only[bA];refine yE (by kernel_rfl) (.inl (aT (by kernel_rfl))) ?_;clear k m;intro w m k;go_wp2_with (first|((with_reducible refine wU ?_);clear k m;intro w m k)|((with_reducible refine lE (fun w o g k K hK=>⟨rfl,?_⟩));simp[results,Tryz.results171,go_sem];refine hK _ ?_;exact⟨rfl,by rw[HE.out];exact .NI HSCH.out HB.out (Nat.lt_of_lt_of_le HBL.out HO5.out.size) (HFR.out nc HSZ.out) (HO5.out.got HC.out (by simp)) o HO5.out⟩))
  focus
   rw[hdr,if_pos rfl] at hE;have HE:=aA hE;rw[hdr] at m;clear k hE;have k:=m.zK;unfold aV;go_wp2_with (first|((with_reducible first|refine cU ?_|refine wU ?_);clear k m;intro w m k)|((with_reducible refine lE (fun w o g k K hK=>⟨rfl,?_⟩));simp[results,Tryz.results171,go_sem];refine hK _ ?_;exact⟨rfl,by rw[HE.out];exact .same HS.out HC.out o⟩))
end
end Go.Proofs.YtppjhbjmfkiejaaGreat
