/- Oa O5 -/
import Derived.Test.YthbgcpfklmlnjaaGreatFNo
import Derived.Test.YthbgcpfklmlnjaaGreatFO4
namespace Go.Proofs.YthbgcpfklmlnjaaGreat
set_option linter.all false
open List (getD_cons_succ getD_cons_zero map_cons map_nil mem_cons not_mem_nil)
set_option maxRecDepth 100000
set_option maxHeartbeats 8000000
open Go.RowKit
section
section
variable {P:Program} {w0 w:World} {S:List Nat} {L:List gJ} {Q:Exit->Act->World->Prop}
theorem qW {md:Region.Mode} {ops:Array Oper} {tl:List Nat}:∀ {pu:List Nat} {listed:Array Bool},jG md ops tl listed->gW md ops pu listed=true->jG md ops tl (pu.foldl (fun l i=>l.setIfInBounds i true) listed)
 | [],_,inv,_=>inv
 |k::pu,listed,inv,h=>by
  simp only[gW,Bool.and_eq_true] at h;exact qW (pu:=pu) (inv.set (by simpa using h.1.1)) h.2
def Yg (P:Program) (l:List Oper) (Q:Exit->Act->World->Prop) (TL:List Nat) (W:World) (f:Nat) (listed:Array Bool) (a:Act) (w:World):Prop:=
 jG .any l.toArray TL listed->dX P .any l.toArray TL W (pR Q) f listed a w
theorem QI:jI (pR Q):=fun _ _ _ g o w3 o3=>g w3 (o.aB o3)
variable {l:List Oper} {TL:List Nat} {W:World} {f:Nat} {listed:Array Bool} {a:Act}
theorem yN (rs:List Nat) (hr:Region.ready .any l.toArray listed=rs) (hne:rs.isEmpty=false) (hC:late TL listed\/Only [] W w) (h:∀ w1,Only [] w w1->∀ i∈rs,wpOp P l.toArray (bG (pR Q)) i (fun a' w'=>Yg P l Q TL W f (listed.setIfInBounds i true) a' w') a w1):Yg P l Q TL W (f+1) listed a w:=fun inv =>
 uF rs hr (by intro e;rw[e] at hne;cases hne) (hC.imp id aZ) fun w1 o1 i hi=>wpOp_mono (fun a' w' g=>g (inv.set (hr ▸ hi))) (h w1 o1 i hi)
def yPok (l:List Oper) (TL pu:List Nat) (listed:Array Bool):Bool:=Region.noSelect l.toArray && gW .any l.toArray pu listed && pu.all (fun i=>decide (i<l.length)) && pu.all (fun i=>!TL.contains i)
theorem yP (pu:List Nat) (f:Nat) {n:Nat} (hn:n=pu.length+f) (hB:yPok l TL pu listed=true) (h:bL P l.toArray (fun _=>True) (fun a'=>Yg P l Q TL W f (pu.foldl (fun l i=>l.setIfInBounds i true) listed) a' w) (pick l pu) a):Yg P l Q TL W n listed a w:=fun inv=>by
 subst hn;simp only[yPok,Bool.and_eq_true] at hB;obtain⟨⟨⟨h1,h2⟩,h3⟩,h4⟩:=hB;exact lZ QI h1 pu (pick l pu) listed a (gK l pu h3) (fun i hi=>by have:=List.all_eq_true.1 h4 i hi;simpa using this) inv h2 (dJ (fun a' g=>g (qW inv h2)) _ _ h)
theorem yD (hr:Region.ready .any l.toArray listed=[]) (hC:late TL listed\/Only [] W w) (h:∀ w2,Only [] w w2->Q .normal a w2):Yg P l Q TL W 0 listed a w:=fun _=>l9 hr (hC.imp id aZ) h
def rYok (l:List Oper) (hd pu TL:List Nat) (n:Nat):Bool:=kI l hd pu TL && (l.length == hd.length+pu.length+n)
theorem rY {id:Nat} (hd pu TL:List Nat) (n:Nat) [m:Mm w0 S w L] (hm:P.follows .mixedOrders=true) (hB:rYok l hd pu TL n=true)
  (h:bN P l.toArray w (bL P l.toArray (fun _=>True) (fun a'=>∀ w1,Only [] w w1->Mm w0 S w1 L->Facts w1 L->Yg P l Q TL w n (eY l.length (hd ++ pu)) a' w1) (pick l pu)) (pick l hd) a):(Code.region id l.toArray true).wp P Q a w:=by
 simp only[rYok,Bool.and_eq_true,beq_iff_eq] at hB;obtain⟨h1,h4⟩:=hB;have h1':=h1;simp only[kI,Bool.and_eq_true,decide_eq_true_eq] at h1';obtain⟨⟨⟨⟨⟨⟨⟨⟨hsel,htk⟩,htp⟩,hin⟩,hip⟩,hlen⟩,hht⟩,hdis⟩,hdip⟩:=h1'
 have inv0:jG .any l.toArray TL (Array.replicate l.length false):=
  ⟨by simp,fun j oj _ hl=>(by rw[getD_replicate_false] at hl;cases hl)⟩
 have inv1:jG .any l.toArray TL (eY l.length (hd ++ pu)):=by
  have i1:=qW (qW inv0 htk) htp;unfold eY;rw[List.foldl_append];exact i1
 refine iC hd pu TL hm h1 (dR (fun a1 g1=>dJ (fun a2 g2=>?_) _ _ g1) _ _ h);refine⟨pR Q,fun a' w' g=>g w' (Only.refl [] w'),QI,?_⟩;rw[show l.length-(hd.length+pu.length)=n by omega];have o:Only [] w w.drew:=(Only.refl [] w).drew;exact g2 w.drew o ⟨m.out.call o⟩ (m.out.call o).k inv1
theorem yM (rs:List Nat) [m:Mm w0 S w L] (hr:Region.ready .any l.toArray listed=rs) (hne:rs.isEmpty=false) (hC:late TL listed\/Only [] W w) (h:∀ w1,Only [] w w1->Mm w0 S w1 L->Facts w1 L->∀ i∈rs,wpOp P l.toArray (bG (pR Q)) i (fun a' w'=>Yg P l Q TL W f (listed.setIfInBounds i true) a' w') a w1):Yg P l Q TL W (f+1) listed a w:=
 yN rs hr hne hC fun w1 o=>h w1 o ⟨m.out.call o⟩ (m.out.call o).k
theorem yA {o:Obj} [m:Mm w0 S (w.alloc o) L] (h:∀ w2,Only [] w w2->Mm w0 S w2 L->Facts w2 L->Yg P l Q TL W f listed a w2):Yg P l Q TL W f listed a (w.alloc o):=
 h _ ((Only.refl [] w).alloc o) m m.out.k
theorem yU [NQ w] [m:Mm w0 S w L] (h:∀ w2,Mm w0 S w2 L->Facts w2 L->Yg P l Q TL W f listed a w2):Yg P l Q TL W f listed a w:=h _ m m.out.k
theorem yE [m:Mm w0 S w L] (hr:Region.ready .any l.toArray listed=[]) (hC:late TL listed\/Only [] W w) (h:∀ w2,Mm w0 S w2 L->Facts w2 L->Q .normal a w2):Yg P l Q TL W 0 listed a w:=
 yD hr hC fun w2 o=>h w2 ⟨m.out.call o⟩ (m.out.call o).k
end
end
section
open Go.Sort
open Go.Lib (hid)
theorem pAnswer {w0 w:World} {own:Col} {s:dU} {p:j5} {st:bS} (h:aT w0 w own s p st) (hs:eO w s) {i:Nat} (hi:i<s.nd.length) (hV:∀ c,gQ st i=some c->xP c) (z:Np) (t:Int) (t0:0<=t) (t1:t<=1125899906842624) :
  Calls Tryz.prog 133 #[.pointer (some ⟨p.bw,0,none⟩),.int .i64 i,iL z,.int .i64 t] w fun e w'=>e=.returned (.tuple #[iL (fA s.sc st i z t).1,dS (fA s.sc st i z t).2.1,.bool (fA s.sc st i z t).2.2])/\Only [] w w':=by
 cases hrf:(s.nd.getD i aU).n.rf with
 | true=>exact X4 h hs hi z t t0 t1 hrf
 | false =>
  cases hc:gQ st i with
  | none=>exact X5 h hs hi z t t0 t1 hrf hc
  | some c=>exact X6 h hs hi z t t0 t1 hrf hc (hV c hc)
theorem Z4 {l:List Ft} {n t:Int} {p:Np} {v:Iv} (hl:lS l=0):0<=(lV l n t p v).hold/\(lV l n t p v).hold<=36028797018963968:=by
 have key:∀ (k:List Ft) (g:Fg),(∀ f∈k,xI f=0)->0<=g.hold->0<=(k.foldl (gH t) g).hold/\(k.foldl (gH t) g).hold<=g.hold+k.length*1125899906842624:=by
  intro k;induction k with
  | nil=>intro g _ h;simp;exact h
  | cons f r ih =>
   intro g hf h;have h1:=J8 (t:=t) (hf f (List.mem_cons_self ..)) h;have h2:=ih (gH t g f) (fun x hx=>hf x (List.mem_cons_of_mem _ hx)) h1.1;rw[List.foldl_cons,List.length_cons];omega
 have h1:=(KE hl).1;have h2:=(List.length_filter_le (wY n t) l);have h3:=key (l.filter (wY n t)) ⟨false,p,v,0⟩ (fun f hf=>(KE hl).2 f (List.mem_filter.1 hf).1) (Int.le_refl 0);unfold lV;dsimp only at h3;omega
theorem AY {w0 w:World} {own:Col} {s:dU} {p:j5} {st:bS} (h:aT w0 w own s p st) (hs:eO w s) (hpu:st.pu=st.ev.length) (hle:st.ev.length<=1000000000) (t:Int) (t0:0<=t) (t1:t<=1125899906842624) (q:zP) (z:Np) (he:nV s.sc q) (hV:∀ c,gQ st q.s=some c->xP c) {RR:bS} (hRR:RR=if (fA s.sc st q.s z t).2.2=true then (if (lV s.ft q.s t (fA s.sc st q.s z t).1 (fA s.sc st q.s z t).2.1).drop=true then st else eX s.sc st (t+(lV s.ft q.s t (fA s.sc st q.s z t).1 (fA s.sc st q.s z t).2.1).hold) (.dep q (lV s.ft q.s t (fA s.sc st q.s z t).1 (fA s.sc st q.s z t).2.1).hd (lV s.ft q.s t (fA s.sc st q.s z t).1 (fA s.sc st q.s z t).2.1).iv)) else st) {b j:Nat} (hb:own b=some (.V j)) (hc:w.heap[b]? = some (.cells (vL (.req q z)).toArray (wR (.req q z)) (0,0))) :
  Calls Tryz.prog 132 #[.pointer (some ⟨b,0,none⟩),.pointer (some ⟨p.bw,0,none⟩),.int .i64 t] w fun r w'=>r=.returned (.bool true)/\oQ w0 w own s p RR b (.req q z) w':=by
 obtain⟨⟨ci,i,hci,hsi,hcl,hi,-⟩,-,-⟩:=he;have hnl:s.sc.nd.length=s.nd.length:=by unfold dU.sc;simp
 rw[hnl] at hi;rw[hsi] at hV hRR;have HS:=hid h;have HA:=hid (fun w' (o:Only [] w w')=>pAnswer (h.kept o) (hs.kept o) hi hV z t t0 t1);have HAP:=hid (fun x y w' (o:Only [] w w')=>pApply i t x y (hs.ok.ft.kept o) hs.ft t0 t1);have HAH:=hid (fun x y=>Z4 (n:=(i:Int)) (t:=t) (p:=x) (v:=y) hs.ft);have hbw:=h.wa.2;have hbb:b≠p.bw:=fun e=>by rw[e,h.wa.1] at hb;cases hb
 have HC:=hid hc;have HB:=hid hb;have HSC:=hid (fun u e1 w' (o:Only [] w w') c hb hb0 hc=>nG (h.kept o) hpu hle u e1 (b:=c) hb hb0 hc);have HFR:=hid (fun c (hc:w.heap.size<=c)=>h.fresh hc);have HB0:=hid h.base;have HBL:=hid (aD hc);generalize fA s.sc st i z t=an at HA hRR;obtain⟨x,y,a3⟩:=an;dsimp only at HA hRR;have HAP:=hid (HAP.out x y);have HAH:=hid (HAH.out x y);generalize lV s.ft i t x y=g at HAP HAH hRR;obtain⟨e0,he0⟩:∃ e0,e0=EvS.req q z:=⟨_,rfl⟩;rw[<-he0] at HC |-;obtain⟨q1,q2,q3,q4⟩:=q;dsimp only at hsi;subst hsi;clear hci;obtain⟨z1,z2,z3,z4,z5,z6,z7,z8,z9,za,zb,zc,zd⟩:=z;obtain⟨x1,x2,x3,x4,x5,x6,x7,x8,x9,xa,xb,xc,xd⟩:=x;obtain⟨y1,y2⟩:=y;unfold vL wR UU YC at hc;simp only[List.cons_append,List.nil_append] at hc;unfold iL dS at HA HAP;dsimp only at HA HAP hc |-;clear he0 h hs hV;obtain⟨e1,he1⟩:∃ e1,e1=EvS.dep ⟨q1,q2,i,q4⟩ g.hd g.iv:=⟨_,rfl⟩;have HE1:Hid (vL e1=[.int .i64 q1,.int .i64 q2,.int .i64 i,.int .i64 q4,.int .i64 g.hd.leap,.int .i64 g.hd.ver,.int .i64 g.hd.mode,.int .i64 g.hd.strat,.int .i64 g.hd.poll,.int .i64 g.hd.prec,.int .u32 g.hd.rdel,.int .u32 g.hd.rdsp,.int .u32 g.hd.rid,.int .u64 g.hd.ref,.int .u64 g.hd.org,.int .u64 g.hd.rcv,.int .u64 g.hd.xmt,.int .i64 g.iv.lo,.int .i64 g.iv.hi]/\wR e1=157/\ER e1=155):=hid (by rw[he1];exact⟨rfl,rfl,rfl⟩);rw[<-he1] at hRR;have HSC:=hid (HSC.out (t+g.hold) e1);simp only[HE1.out.2.2] at HSC;clear he1;have eh:IntKind.i64.wrap (t+g.hold)=t+g.hold:=by have:=HAH.out;rw[IntKind.wrap_i64];omega
 obtain⟨wo,hwo⟩:∃ wo:World,wo=w:=⟨_,rfl⟩;subst hwo;have m:Mm wo [] wo _:=⟨((Mem.start wo []).ext false hbw (by simp) (by simp)).ext false hc (by simpa using hbb) (by simp)⟩;have k:=m.out.k;clear hbw hc
 cases a3
 focus (rw[if_neg (by decide)] at hRR;have HE:=hid hRR;clear hRR)
 rotate_left
 focus (rw[if_pos rfl] at hRR;have HE:=hid hRR;clear hRR)
 rotate_left
 all_goals
  go_enter Tryz.func132,Tryz.ntmps132
  go_wp2_with (first|(refine rY (id:=1) [0,1,2,3,4,5,6,7,8,9,10,11] [12,13,14,15] [18,19,20] 5 (by kernel_rfl) (by kernel_rfl) ?_;simp only[pick,map_cons,map_nil,getD_cons_succ,getD_cons_zero];(repeat (first|(refine aO (fun K hK=>?_);go_simp;refine hK _ ?_;clear hK K)|(refine cG (by kernel_rfl) ⟨_,_,_,?_,fun w' o=>HA.out _ (m.out.only.aB o),?_⟩;(focus (intro w;go_simp;done)))));refine aR ?_;(repeat (refine aJ (fun K hK=>?_);go_simp;refine hK _ ?_;clear hK K));refine aN ?_;clear k m;intro w oW m k;refine yM [16,17] (by kernel_rfl) rfl (.inr oW) ?_;clear k m;intro w oN m k;replace oW:=oW.aB oN;simp only[mem_cons,not_mem_nil,or_false,forall_eq_or_imp,forall_eq];refine⟨?_,?_⟩;(focus (refine aC rfl ?_;go_wp2;simp only[bG];refine yA ?_;clear k m;intro w oN m k;replace oW:=oW.aB oN;refine yM [17] (by kernel_rfl) rfl (.inr oW) ?_;clear k m;intro w oN m k;replace oW:=oW.aB oN;simp only[mem_cons,not_mem_nil,or_false,forall_eq];refine aC rfl ?_;go_wp2;simp only[bG];refine yA ?_;clear k m;intro w oN m k;replace oW:=oW.aB oN;refine yM [18] (by kernel_rfl) rfl (.inr oW) ?_;clear k m;intro w oN m k;replace oW:=oW.aB oN;simp only[mem_cons,not_mem_nil,or_false,forall_eq];refine aC rfl ?_;go_wp2;simp only[bG];refine yU ?_;clear k m;intro w m k;refine yM [19] (by kernel_rfl) rfl (.inl (aQ (by kernel_rfl))) ?_;clear k m;intro w oN m k;clear oN;simp only[mem_cons,not_mem_nil,or_false,forall_eq];refine aC rfl ?_;go_wp2;simp only[bG];refine yU ?_;clear k m;intro w m k;refine yM [20] (by kernel_rfl) rfl (.inl (aQ (by kernel_rfl))) ?_;clear k m;intro w oN m k;clear oN;simp only[mem_cons,not_mem_nil,or_false,forall_eq];refine aC rfl ?_;go_wp2;simp only[bG];refine yE (by kernel_rfl) (.inl (aQ (by kernel_rfl))) ?_;clear k m;intro w m k));rotate_left 1;(focus (refine aC rfl ?_;go_wp2;simp only[bG];refine yA ?_;clear k m;intro w oN m k;replace oW:=oW.aB oN;refine yM [16] (by kernel_rfl) rfl (.inr oW) ?_;clear k m;intro w oN m k;replace oW:=oW.aB oN;simp only[mem_cons,not_mem_nil,or_false,forall_eq];refine aC rfl ?_;go_wp2;simp only[bG];refine yA ?_;clear k m;intro w oN m k;replace oW:=oW.aB oN;refine yM [18] (by kernel_rfl) rfl (.inr oW) ?_;clear k m;intro w oN m k;replace oW:=oW.aB oN;simp only[mem_cons,not_mem_nil,or_false,forall_eq];refine aC rfl ?_;go_wp2;simp only[bG];refine yU ?_;clear k m;intro w m k;refine yM [19] (by kernel_rfl) rfl (.inl (aQ (by kernel_rfl))) ?_;clear k m;intro w oN m k;clear oN;simp only[mem_cons,not_mem_nil,or_false,forall_eq];refine aC rfl ?_;go_wp2;simp only[bG];refine yU ?_;clear k m;intro w m k;refine yM [20] (by kernel_rfl) rfl (.inl (aQ (by kernel_rfl))) ?_;clear k m;intro w oN m k;clear oN;simp only[mem_cons,not_mem_nil,or_false,forall_eq];refine aC rfl ?_;go_wp2;simp only[bG];refine yE (by kernel_rfl) (.inl (aQ (by kernel_rfl))) ?_;clear k m;intro w m k));rotate_left 1)|((with_reducible first|refine cU ?_|refine wU ?_);clear k m;intro w m k)|((with_reducible refine lE (fun w o g k K hK=>⟨rfl,?_⟩));simp[results,Tryz.results132,go_sem];refine hK _ ?_;exact⟨rfl,by rw[HE.out];exact .same HS.out HC.out o⟩))
 all_goals
  refine rA (id:=4) [0,1,2,3,4,5,6,7,8,9,10,11,12,13] [] 14 [15] (by kernel_rfl) (by kernel_rfl) ?_;simp only[pick,map_cons,map_nil,getD_cons_succ,getD_cons_zero]
  (repeat (first|(refine aO (fun K hK=>?_);go_simp;refine hK _ ?_;clear hK K)|(refine cG (by kernel_rfl) ⟨_,_,_,?_,fun w' o=>HAP.out _ (m.out.only.aB o),?_⟩;(focus (intro w;go_simp;done)))));refine aR ?_;(repeat (refine aJ (fun K hK=>?_);go_simp;refine hK _ ?_;clear hK K));refine aN ?_
  clear k m;intro w o m k;refine aC rfl ?_;go_wp2;simp only[bG];obtain⟨nb,hnb⟩:∃ n,n=w.heap.size:=⟨_,rfl⟩;refine⟨o.alloc _,tW ?_⟩;clear o k m;intro w m k;rw[<-hnb] at m |-;clear hnb k;have k:True:=trivial;unfold aV;refine aC rfl ?_;refine jA (ty:=246) (b:=nb) (cs:=jE g) ?_ ?_ ?_ ?_ ?_ ?_
  ·simp[Act.eval]
  ·simp[Act.eval];rfl
  ·kernel_rfl
  ·rfl
  ·rfl
  clear k m;intro w m;go_wp2;simp only[bG];refine tW ?_;clear m;intro w m k;unfold jE at m;have hE:=HE.out;clear HE
  cases hdr:g.drop
  focus
   rw[hdr,if_neg (by decide)] at hE;have HE:=hid hE;rw[hdr] at m;clear k hE;have k:=m.out.k;unfold aV;go_wp2_with ((with_reducible first|refine cU ?_|refine wU ?_);clear k m;intro w m k)
   refine rY (id:=6) [0,1,2,3,4,5,6,7,8,9,10,11,12,13] [] [16] 3 (by kernel_rfl) (by kernel_rfl) ?_;simp only[pick,map_cons,map_nil,getD_cons_succ,getD_cons_zero]
   (repeat (first|(refine aO (fun K hK=>?_);go_simp;refine hK _ ?_;clear hK K)));refine aR ?_;(repeat (refine aJ (fun K hK=>?_);go_simp;refine hK _ ?_;clear hK K));refine aN ?_
   clear k m;intro w oW m k;refine yM [14] (by kernel_rfl) rfl (.inr oW) ?_;clear k m;intro w oN m k;replace oW:=oW.aB oN;simp only[mem_cons,not_mem_nil,or_false,forall_eq];refine aC rfl ?_;go_wp2;simp only[bG];have HSZ:=hid m.out.only.size;obtain⟨nc,hnc⟩:∃ n,n=w.heap.size:=⟨_,rfl⟩;refine yA ?_;clear k m oN;intro w oN m k;replace oW:=oW.aB oN;rw[<-hnc] at m HSZ |-;clear hnc k;have k:=m.out.k;refine yP [15] 1 rfl (by kernel_rfl) ?_;simp only[pick,map_cons,map_nil,getD_cons_succ,getD_cons_zero]
   (repeat (refine aJ (fun K hK=>?_);go_simp;refine hK _ ?_;clear hK K))
   refine aN ?_;refine yM [16] (by kernel_rfl) rfl (.inr oW) ?_;clear k m;intro w oN m k;replace oW:=oW.aB oN;simp only[mem_cons,not_mem_nil,or_false,forall_eq];refine aC rfl ?_;go_wp2_with fail
   have HO5:=hid m.out.only;refine (HSC.out w m.out.only nc (HFR.out nc HSZ.out) (Nat.le_trans HB0.out HSZ.out) (by rw[HE1.out.1,HE1.out.2.1];exact gB)).mono ?_;rintro r w5 ⟨rfl,hsch⟩;have HSCH:=hid hsch;clear hsch k m;have m:=dD w5 [];have k:=m.out.k;go_wp2;simp only[bG];refine yE (by kernel_rfl) (.inl (aQ (by kernel_rfl))) ?_;clear k m;intro w m k;go_wp2_with (first|((with_reducible refine wU ?_);clear k m;intro w m k)|((with_reducible refine lE (fun w o g k K hK=>⟨rfl,?_⟩));simp[results,Tryz.results132,go_sem];refine hK _ ?_;exact⟨rfl,by rw[HE.out];exact .ME HSCH.out HB.out (Nat.lt_of_lt_of_le HBL.out HO5.out.size) (HFR.out nc HSZ.out) (HO5.out.got HC.out (by simp)) o HO5.out⟩))
  focus
   rw[hdr,if_pos rfl] at hE;have HE:=hid hE;rw[hdr] at m;clear k hE;have k:=m.out.k;unfold aV;go_wp2_with (first|((with_reducible first|refine cU ?_|refine wU ?_);clear k m;intro w m k)|((with_reducible refine lE (fun w o g k K hK=>⟨rfl,?_⟩));simp[results,Tryz.results132,go_sem];refine hK _ ?_;exact⟨rfl,by rw[HE.out];exact .same HS.out HC.out o⟩))
end
end Go.Proofs.YthbgcpfklmlnjaaGreat
