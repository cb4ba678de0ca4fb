/- Od Oe Of -/
import Derived.Test.YtppjhbjmfkiejaaGreatFO8
import Derived.Test.YtppjhbjmfkiejaaGreatFOa
namespace Go.Proofs.YtppjhbjmfkiejaaGreat
set_option linter.all false
open List (mem_singleton)
set_option maxRecDepth 100000
set_option maxHeartbeats 4000000
open Go.RowKit Go.Sort
open IntKind (wrap)
def RV (c:Cf) (n:Nd):Cf:={ c with servers:=n.sv.length,tol:=n.tol }
def MF (s:eU) (i:Nat) (n:Nd) (st:bT):Nat->bT
 | 0=>st
 | k+1=>fE s (MF s i n st k) (iC n k) (.poll ⟨i,k,n.sv.getD k 0,0⟩)
def ndS (s:eU) (c:Cf) (i:Nat) (st:bT):bT:=
 if uP (bX s i)=true then MF s i (bX s i) (dS st i (I8 (RV c (bX s i)) (bN s i 0) (bN s i 0))) (bX s i).sv.length else st
def qG (s:eU) (c:Cf):Nat->bT
 | 0=>⟨List.replicate s.nd.length none,[],0,0,[],0,[],[]⟩
 | i+1=>ndS s c i (qG s c i)
structure ScP (s:eU):Prop where
 nl:s.nd.length<=24
 un:0<=s.un/\s.un<=1125899906842624
 osc:∀ i:Nat,i<s.nd.length->fO (bX s i).ph (bX s i).sg=0
 st:∀ i:Nat,i<s.nd.length->0<=(bX s i).st/\(bX s i).st<=1125899906842624
 sv:∀ i:Nat,i<s.nd.length->(bX s i).sv.length<=12
 tol:∀ i:Nat,i<s.nd.length->0<=(bX s i).tol/\(bX s i).tol<=500000
 svr:∀ i:Nat,i<s.nd.length->∀ v∈(bX s i).sv,0<=v/\v<s.nd.length
theorem fK.p {w:World} {s:dW} (h:fK w s):ScP s.sc:=by
 have hl:s.sc.nd.length=s.nd.length:=by unfold dW.sc;simp
 have key:∀ i:Nat,i<s.sc.nd.length->bX s.sc i=(s.nd.getD i bD).n/\s.nd.getD i bD∈s.nd:=fun i hi=>⟨fH s i,bS bD (hl ▸ hi)⟩;refine⟨by rw[hl];exact h.nl,h.un,fun i hi=>?_,fun i hi=>?_,fun i hi=>?_,fun i hi=>?_,fun i hi=>?_⟩
 all_goals
  obtain⟨e,hm⟩:=key i hi;rw[e]
 ·exact h.osc _ hm
 ·exact h.nst _ hm
 ·exact h.nsv _ hm
 ·exact h.tol _ hm
 ·rw[hl];exact h.svr _ hm
theorem LM {c:Cf} {n:Nd} (h:eZ (RX c)=0) (h1:1<=n.sv.length) (h2:n.sv.length<=12) (h3:0<=n.tol/\n.tol<=500000):eZ (RV c n)=0:=by
 unfold eZ RX at h;unfold eZ RV;dsimp only at h |-;have w1:bZ (n.sv.length:Int) 1 12=true:=aY.2 (by omega);have w2:bZ n.tol 0 500000=true:=aY.2 h3;have w3:bZ 1 1 12=true:=by decide
 have w4:bZ 0 0 500000=true:=by decide
 rw[w3,w4] at h;rw[w1,w2];exact h
theorem KR {n:Nd}:uP n=true↔n.rf=false/\0<n.sv.length:=by unfold uP;simp
theorem JR (s:eU) (i:Nat) (n:Nd) (st:bT):∀ k,(MF s i n st k).cl=st.cl
 | 0=>rfl
 | k+1=>by unfold MF;rw[(eT ..).1,JR s i n st k]
theorem GA {s:eU} (hp:ScP s) {i:Nat} (hi:i<s.nd.length) (hc:uP (bX s i)=true) {st:bT} (h:eB s st):∀ k,k<=(bX s i).sv.length->eB s (MF s i (bX s i) st k)/\tot s (MF s i (bX s i) st k)<=tot s st+k*985167
 | 0,_=>⟨h,by unfold MF;omega⟩
 |k+1,hk=>by
  obtain⟨k1,k2⟩:=GA hp hi hc h k (by omega)
  have hm:(bX s i).sv.getD k 0∈(bX s i).sv:=by
   rw[List.getD_eq_getElem?_getD,List.getElem?_eq_getElem (by omega)];exact List.getElem_mem _
  have hv:=hp.svr i hi _ hm;have he:DZ s (.poll ⟨i,k,(bX s i).sv.getD k 0,0⟩):=⟨⟨i,((bX s i).sv.getD k 0).toNat,rfl,by dsimp only;omega,hi,by omega,hc⟩,Int.le_refl _,(by decide:(0:Int)<=1000000000)⟩;refine⟨k1.sch _ he,?_⟩;have ht:=vL k1 (iC (bX s i) k) (.poll ⟨i,k,(bX s i).sv.getD k 0,0⟩);have hst:=hp.st i hi;have hun:=hp.un;have hsv:=hp.sv i hi;unfold MF;split at ht
  ·simp only[D6] at ht
   unfold iC at ht |-
   omega
  ·omega
theorem raw_t {s:eU} (hp:ScP s) {i:Nat} (hi:i<s.nd.length):fQ (bN s i 0)=true:=by
 have:=IC (hp.osc i hi) (Int.le_refl 0) (by decide);unfold fQ bN;exact aY.2 (by omega)
theorem zQ {s:eU} (hp:ScP s) {c:Cf} (hc:eZ (RX c)=0):∀ i,i<=s.nd.length->eB s (qG s c i)/\tot s (qG s c i)<=i*11822004/\∀ j:Nat,j<i->uP (bX s j)=true->∃ d,(qG s c i).cl[j]? = some (some d)
 | 0,_=>⟨⟨rfl,Int.le_refl _,List.Pairwise.nil,List.Pairwise.nil,fun x hx=>absurd hx (by simp[qG]),fun e he=>absurd he (by simp[qG]),by simp[qG],(fun j d hd=>by
   unfold qG at hd;dsimp only at hd;rw[List.getElem?_replicate] at hd;split at hd
   ·cases hd
   ·cases hd),Int.le_refl _⟩,by simp[qG,tot,phi],fun j hj=>absurd hj (by omega)⟩
 |i + 1,hi=>by
  obtain⟨k1,k2,k3⟩:=zQ hp hc i (by omega);unfold qG ndS;have hil:i<s.nd.length:=by omega
  split
  ·rename_i hcl
   have hn:=hp.sv i hil;have h0:=KR.1 hcl;have hnew:yL (I8 (RV c (bX s i)) (bN s i 0) (bN s i 0)):=yL.new (LM hc (by omega) hn (hp.tol i hil)) (raw_t hp hil);have s1:=k1.set i hnew;obtain⟨s2,s3⟩:=GA hp hil hcl s1 _ (Nat.le_refl _);have t1:tot s (dS (qG s c i) i (I8 (RV c (bX s i)) (bN s i 0) (bN s i 0)))=tot s (qG s c i):=zJ ..;refine⟨s2,by omega,fun j hj hcj=>?_⟩;rw[JR];unfold dS;dsimp only;rw[Int.toNat_natCast,List.getElem?_set];split
   ·rename_i hij
    rw[if_pos (by rw[k1.cln];omega)];exact⟨_,rfl⟩
   ·exact k3 j (by omega) hcj
  ·refine⟨k1,Nat.le_trans k2 (Nat.mul_le_mul_right _ (Nat.le_succ i)),fun j hj hcj=>?_⟩
   rcases Nat.lt_succ_iff_lt_or_eq.1 hj with q|rfl
   ·exact k3 j q hcj
   ·rename_i hn;exact absurd hcj hn
def newF (s:eU) (c:Cf):bT:=qG s c s.nd.length
theorem Q5 {s:eU} (hp:ScP s) {c:Cf} (hc:eZ (RX c)=0):eB s (newF s c)/\wM s (newF s c)/\tot s (newF s c)<=900000000:=by
 obtain⟨k1,k2,k3⟩:=zQ hp hc s.nd.length (Nat.le_refl _);have:=hp.nl;unfold newF;generalize qG s c s.nd.length=st at k1 k2 k3 |-;have hF:wM s st:=k3;refine⟨k1,hF,?_⟩;generalize tot s st=x at k2 |-;omega
section
variable {w0 w w1:World} {own:Col} {s:dW} {p:kI} {st:bT}
theorem aX.newc (h:aX w0 w own s p st) {i:Nat} {P:Pl} {c:Cl} (hi:i<s.nd.length) (h':bP w1 P c) (hP:∀ b∈P.all,w.heap.size<=b) (ho:Oy [] w w1) :
  aX w0 (w1.setCell ⟨p.ca,i,none⟩ (.pointer (some ⟨P.bc,0,none⟩))) (dJ own P.all (.C i)) s { p with pl:=p.pl.set i (some P) } { st with cl:=st.cl.set i (some c) }:=by
 have hA:=h.aa.1;have hq:∀ b∈P.all,own b=some (.C i)\/w.heap.size<=b:=fun b hb=>.inr (hP b hb);have hx:=h.kW hq;have os:Oy [p.ca] w1 (w1.setCell ⟨p.ca,i,none⟩ (.pointer (some ⟨P.bc,0,none⟩))):=(aR [p.ca] w1).setCell (p:=⟨p.ca,i,none⟩) (.inl (mem_singleton.2 rfl)) _
 have no:∀ {t:Tag},t≠ .A->∀ x∈[p.ca],own x≠some t:=fun ht x hx q=>by
  rw[mem_singleton.1 hx,hA] at q;exact ht (Option.some.inj q).symm
 have k:=h.kept ho;have hca:=(h.lt _ _ hA);refine⟨(h.only.aB ho).trans os fun x hx=>.inr (by rw[mem_singleton.1 hx];exact hca.1),h.nQ (Nat.le_trans ho.size os.size) hq fun b hb=>Nat.lt_of_lt_of_le (h'.lt b hb) os.size,?_,?_,?_,?_,?_,?_,?_,?_⟩
 ·exact (k.wa.kept os (no (by simp))).ext hx
 ·refine⟨hx _ _ hA,by simpa using h.aa.2.1,?_⟩
  have r:=aO.set1 (f:=fun o:Option Nat=>Value.pointer (o.map fun b=>⟨b,0,none⟩)) k.aa.2.2 (i:=i) (by rw[List.length_map,h.aa.2.1];exact hi) (some P.bc);have e:(p.pl.set i (some P)).map (Option.map Pl.bc)=(p.pl.map (Option.map Pl.bc)).set i (some P.bc):=by rw[List.map_set];rfl
  rw[e];exact r
 ·refine⟨by simpa using h.ca.1,fun j h1 h2=>?_⟩
  rw[List.getElem_set,List.getElem_set];by_cases hij:i=j
  ·subst hij
   rw[if_pos rfl,if_pos rfl];exact⟨h'.off os fun b hb hm=>by have:=hP b hb;rw[mem_singleton.1 hm] at this;omega,fun b hb=>iG hb⟩
  ·rw[if_neg hij,if_neg hij]
   have:=k.ca.2 j (by simpa using h1) (by simpa using h2);revert this
   cases p.pl[j]'(by simpa using h1)<;>cases st.cl[j]'(by simpa using h2)<;>dsimp only
   ·exact id
   ·exact id
   ·exact id
   ·rintro⟨q1,q2⟩
    exact⟨q1.off os (fun b hb hm=>by rw[mem_singleton.1 hm] at hb;have:=q2 _ hb;rw[hA] at this;cases this),fun b hb=>hx _ _ (q2 b hb)⟩
 ·exact (k.qa.kept os (no (by simp))).ext hx
 ·exact (k.ev.kept os (no (by simp))).ext hx
 ·exact (k.ea.kept os fun x hx y _ j _=>no (by simp) x hx).ext hx
 ·exact (k.ms.kept os (no (by simp))).ext hx
 ·exact (k.ls.kept os (no (by simp))).ext hx
def EI (bw ca qb:Nat):Col:=fun b=>if b=bw then some .W else if b=ca then some .A else if b=qb then some .Q else none
def vF (bw ca qb n:Nat):kI:=⟨bw,ca,qb,[qb],List.replicate n none,.slice none 0 0,.slice none 0 0,.slice none 0 0,[],[]⟩
theorem aX.init {bw ca qb:Nat} (c:Cf) (h1:w.heap.size<=bw/\bw<w1.heap.size) (h2:w.heap.size<=ca/\ca<w1.heap.size) (h3:w.heap.size<=qb/\qb<w1.heap.size) (n1:bw≠ca) (n2:bw≠qb) (n3:ca≠qb) (ho:Oy [] w w1)
  (hw:w1.heap[bw]? = some (.cells #[.slice s.pn s.nd.length s.cn,.slice s.pl s.lk.length s.cl,.slice s.pf s.ft.length s.cf,.int .i64 s.un,.int .u64 s.sd,.slice (some ⟨ca,0,none⟩) s.nd.length s.nd.length,.pointer (some ⟨qb,0,none⟩),.slice none 0 0,.int .i64 0,.slice none 0 0,.slice none 0 0] 92 (0,0)))
  (ha:aO ptC 126 1 w1 ca s.nd.length (List.replicate s.nd.length none)) (hq:D5 w1 qb [qb] 4096 0 0 []):aX w w1 (EI bw ca qb) s (vF bw ca qb s.nd.length) (qG s.sc c 0):=by
 have hnl:s.sc.nd.length=s.nd.length:=by unfold dW.sc;simp
 have cw:EI bw ca qb bw=some .W:=by unfold EI;rw[if_pos rfl]
 have cc:EI bw ca qb ca=some .A:=by unfold EI;rw[if_neg (Ne.symm n1),if_pos rfl]
 have cq:EI bw ca qb qb=some .Q:=by unfold EI;rw[if_neg (Ne.symm n2),if_neg (Ne.symm n3),if_pos rfl]
 refine⟨ho,fun b t hb=>?_,⟨cw,hw⟩,⟨cc,by simp[vF],?_⟩,⟨?_,fun i q1 q2=>?_⟩,⟨hq,fun b hb=>by rw[mem_singleton.1 hb];exact cq,fun e=>by simp[vF,qG],by simp[vF,qG]⟩,⟨bR _ _,fun g hg=>by simp[vF,Value.ownBlock] at hg⟩,⟨by simp[vF,qG],fun x hx=>absurd hx (by simp[qG])⟩,⟨bR _ _,fun g hg=>by simp[vF,Value.ownBlock] at hg⟩,⟨bR _ _,fun g hg=>by simp[vF,Value.ownBlock] at hg⟩⟩
 ·unfold EI at hb
  split at hb
  ·rename_i e;subst e;exact h1
  ·split at hb
   ·rename_i e;subst e;exact h2
   ·split at hb
    ·rename_i e;subst e;exact h3
    ·cases hb
 ·have e:(vF bw ca qb s.nd.length).pl.map (Option.map Pl.bc)=List.replicate s.nd.length none:=by simp[vF]
  rw[e];exact ha
 ·simp[vF,qG,hnl]
 ·have e1:(vF bw ca qb s.nd.length).pl[i]=none:=by simp[vF]
  have e2:(qG s.sc c 0).cl[i]=none:=by simp[qG]
  rw[e1,e2];trivial
end
section
theorem aX.unc {w0 w w1:World} {own:Col} {s:dW} {p:kI} {st:bT} {S:List Nat} (h:aX w0 w own s p st) (ho:Oy S w w1) (hS:∀ x∈S,own x=none) (hge:∀ x∈S,w0.heap.size<=x):aX w0 w1 own s p st:=by
 have no:∀ {t:Tag},∀ x∈S,own x≠some t:=fun x hx q=>by rw[hS x hx] at q;cases q
 exact⟨h.only.trans ho fun x hx=>.inr (hge x hx),fun b t q=>⟨(h.lt b t q).1,Nat.lt_of_lt_of_le (h.lt b t q).2 ho.size⟩,h.wa.kept ho no,h.aa.kept ho no,h.ca.kept ho fun x hx i=>no x hx,h.qa.kept ho no,h.ev.kept ho no,h.ea.kept ho fun x hx y _ j _=>no x hx,h.ms.kept ho no,h.ls.kept ho no⟩
theorem gNew {w0 w:World} {L:List gG} {b:Nat} {vs:List Value} {t:TypeId} (m:Mm w0 [] w (⟨b,vs,t,true⟩::L)):w0.heap.size<=b:=by
 rcases m.out.own _ (List.mem_cons_self ..) rfl with q|q
 ·exact absurd q (by simp)
 ·exact q
def NewI (w:World) (s:dW) (cf:Cf) (bw bc:Nat) (st:bT) (wr:World):Prop:=
 ∃ own p x y,p.bw=bw/\aX w wr own s p st/\own bc=none/\wr.heap[bc]? = some (.cells #[.int .i64 x,.int .i64 y,.int .i64 cf.prec,.int .i64 cf.keep,.int .i64 cf.sv.kp,.int .i64 cf.sv.ki,.int .i64 cf.sv.lim,.int .i64 cf.sv.sf,.int .i64 cf.sv.sl,.int .i64 cf.rate,.int .i64 cf.mn,.int .i64 cf.mx] 31 (0,0))
def NewJ (w:World) (s:dW) (bw bc bn:Nat) (cc nn:Obj) (st:bT) (wr:World):Prop:=
 ∃ own p,p.bw=bw/\aX w wr own s p st/\own bc=none/\own bn=none/\wr.heap[bc]? = some cc/\wr.heap[bn]? = some nn
theorem TV {w:World} (s:dW) (cf:Cf) (hs:fK w s) (hck:eZ (RX cf)=0) :
  Calls Tryz.prog 23 #[fT s,JB cf] w fun r w'=>∃ own p,r=.returned (.pointer (some ⟨p.bw,0,none⟩))/\aX w w' own s p (newF s.sc cf):=by
 have HS:=aA hs;have hln:=hs.nl;have hnl:s.sc.nd.length=s.nd.length:=by unfold dW.sc;simp
 rw[show newF s.sc cf=qG s.sc cf s.nd.length by unfold newF;rw[hnl]];unfold fT JB;obtain⟨wo,rfl⟩:∃ wo:World,wo=w:=⟨_,rfl⟩;have m:=bJ wo [];have k:=m.zK;go_enter Tryz.func23,Tryz.ntmps23
 go_wp2_with ((with_reducible first|refine cU ?_|refine wU ?_);clear k m;intro w m k)
 refine rY (id:=1) [0] [] [3,4] 4 (by kernel_rfl) (by kernel_rfl) ?_;simp only[bV]
 (repeat (first|(refine aQ (fun K hK=>?_);go_simp;refine hK _ ?_;clear hK K)));refine aS ?_;(repeat (refine aJ (fun K hK=>?_);go_simp;refine hK _ ?_;clear hK K));refine aK ?_
 clear k m;intro w oW m k;refine yM [1] (by kernel_rfl) rfl (.inr oW) ?_;clear k m;intro w oN m k;replace oW:=oW.aB oN;simp only[eD];refine aD rfl ?_;go_wp2_with fail
 refine (new_ok 4096 w (by decide) (by decide)).mono ?_;rintro r w2 ⟨rfl,hqu,hoq⟩;have HQU:=aA hqu;have hq0:wo.heap.size+2<=w.heap.size:=by have:=aF (gB (w:=w) (b:=wo.heap.size+1));omega
 have hq1:w.heap.size<w2.heap.size:=hqu.blocks _ (mem_singleton.2 rfl);generalize w.heap.size=qb at HQU hq0 hq1 |-;have m:Mm wo [] w2 _:=⟨m.out.call hoq⟩;replace oW:=oW.aB hoq;clear k hqu hoq;have k:=m.zK;go_wp2;simp only[bA];refine yP [2] 2 rfl (by kernel_rfl) ?_;simp only[bV]
 (repeat (refine aJ (fun K hK=>?_);go_simp;refine hK _ ?_;clear hK K))
 refine aK ?_;refine yM [3] (by kernel_rfl) rfl (.inr oW) ?_;clear k m;intro w oN m k;replace HQU:=aA (HQU.out.kept oN (by simp));simp only[eD];refine aD rfl ?_;go_wp2;simp only[bA];have hb0:qb<w.heap.size:=Nat.lt_of_lt_of_le hq1 oN.size;obtain⟨bw,hbw⟩:∃ n,n=w.heap.size:=⟨_,rfl⟩;rw[<-hbw] at hb0;refine yA ?_;clear k m oN;intro w oN m k;replace HQU:=aA (HQU.out.kept oN (by simp));rw[<-hbw] at m |-;clear hbw k oN;have k:=m.zK;refine yM [4] (by kernel_rfl) rfl (.inl (aT (by kernel_rfl))) ?_;clear k m;intro w oN m k;replace HQU:=aA (HQU.out.kept oN (by simp));simp only[eD];refine aD rfl ?_;go_wp2;simp only[bA];refine yD (by kernel_rfl) (.inl (aT (by kernel_rfl))) ?_;clear oN;intro w9 oN;replace HQU:=aA (HQU.out.kept oN (by simp));have m:Mm wo [] w9 _:=⟨m.out.call oN⟩;clear k oN;have k:=m.zK;go_wp2_with (refine wpList_make_own ptC rfl _ _ 87 rfl 126 (.pointer none) 1 8 Tryz.underlying87 (by kernel_rfl) QC none rfl .i64 .i64 _ _ s.nd.length rfl rfl rfl rfl (by omega) (by unfold maxLen;omega) ?_;intro w1 hr1 ho1 hs1;refine aW ?_)
 replace HQU:=aA (HQU.out.kept ho1 (by simp));have OA:=aA (m.zO.aB ho1);have g1:=ho1.got (gB (w:=w9) (b:=bw)) (by simp);have g2:=ho1.got (gB (w:=w9) (b:=wo.heap.size)) (by simp);have g3:=ho1.got (gB (w:=w9) (b:=wo.heap.size+1)) (by simp);have hbl:=aF (gB (w:=w9) (b:=bw));have hcl:=hr1.lt;have HR1:=aA hr1;clear k m hr1 ho1 hs1;generalize w9.heap.size=ca at HR1 hbl hcl |-;have n1:bw≠wo.heap.size:=by omega
 have n2:bw≠wo.heap.size+1:=by omega
 have m:Mm w1 [bw] w1 _:=⟨(((Mem.start w1 [bw]).ext false g2 (by simp) (by simp)).ext false g3 (by simp) (by simp)).ext true g1 (by simpa using ⟨n2,n1⟩) (by simp)⟩;have k:=m.zK;clear g1 g2 g3;refine bH ?_;go_wp2_with ((with_reducible first|refine cU ?_|refine wU ?_);clear k m;intro w m k)
 have OL:=m.zO;have gw:=gB (w:=w) (b:=bw);have gc:=gB (w:=w) (b:=wo.heap.size+1);have gs:=gB (w:=w) (b:=wo.heap.size);have hc2:=aF gc;have h0:aX wo w (EI bw ca qb) s (vF bw ca qb s.nd.length) (qG s.sc cf 0):=aX.init cf ⟨by omega,aF gw⟩ ⟨by omega,Nat.lt_of_lt_of_le hcl OL.size⟩ ⟨by omega,by have:=aF gw;omega⟩ (by omega) (by omega) (by omega) (OA.out.trans OL fun x hx=>.inr (by rw[mem_singleton.1 hx];omega)) gw (HR1.out.kept OL (by simp;omega)) (HQU.out.kept OL (by simp;omega));have H0:=aA (show NewI wo s cf bw (wo.heap.size+1) (qG s.sc cf 0) w from ⟨_,_,cf.servers,cf.tol,rfl,h0,by unfold EI;rw[if_neg (by omega),if_neg (by omega),if_neg (by omega)],gc⟩);have hbc:wo.heap.size<=wo.heap.size+1:=Nat.le_succ _;clear h0 OL gw gc gs m k OA HR1 HQU hc2 n1 n2 hbl hcl hb0 hq0 hq1;generalize wo.heap.size+1=bc at H0 hbc |-;obtain⟨wl,rfl⟩:∃ wl:World,wl=w:=⟨_,rfl⟩;go_loopw [25] (fun vi wr=>∃ i:Nat,i<=s.nd.length/\vi=.int .i64 i/\NewI wo s cf bw bc (qG s.sc cf i) wr) (fun vi _=>s.nd.length-(intOf vi).toNat)
 case atStart=>exact⟨0,Nat.zero_le _,rfl,H0.out⟩
 case round =>
  obtain⟨i,hi,rfl,own,p,x,y,rfl,h,hno,hcf⟩:=hrel;have HH:=aA h;have HNO:=aA hno;have HCF:=aA hcf;by_cases hlt:i<s.nd.length
  ·have hlt2:(i:Int)<(s.nd.length:Int):=by omega
   have hsr:=HS.out.kept h.only;obtain⟨bk,off,hpn,-⟩:=HS.out.ok.nd.nd (aR [] wo) hlt;have hm:=bS bD hlt;have hn:=HS.out.nst _ hm;have hv:=HS.out.nsv _ hm;have HIC:=aA (fun w'=>EY (s.nd.getD i bD) w')
   have HX:=aA (show ∀ w',Oy [] wo w'->bk<w'.heap.size/\w'.cell? ⟨bk,off+i*7,none⟩=some (.int .i64 (s.nd.getD i bD).n.ph)/\w'.cell? ⟨bk,off+i*7+1,none⟩=some (.slice (s.nd.getD i bD).ps (s.nd.getD i bD).n.sg.length (s.nd.getD i bD).cs)/\w'.cell? ⟨bk,off+i*7+2,none⟩=some (.int .i64 (s.nd.getD i bD).n.tol)/\w'.cell? ⟨bk,off+i*7+3,none⟩=some (.bool (s.nd.getD i bD).n.rf)/\w'.cell? ⟨bk,off+i*7+4,none⟩=some (.int .i64 (s.nd.getD i bD).n.er)/\w'.cell? ⟨bk,off+i*7+5,none⟩=some (.int .i64 (s.nd.getD i bD).n.st)/\w'.cell? ⟨bk,off+i*7+6,none⟩=some (.slice (s.nd.getD i bD).pv (s.nd.getD i bD).n.sv.length (s.nd.getD i bD).cv) from fun w' o=>by
    obtain⟨b',o',e,c1,c2,c3,c4,c5,c6,c7,c8⟩:=HS.out.ok.nd.nd o hlt;rw[hpn] at e
    cases e
    exact⟨c1,c2,c3,c4,c5,c6,c7,c8⟩)
   have HX1:=aA (fun w' (o:Oy [p.bw] wr w')=>HX.out w' (HH.out.only.trans o fun q hq=>.inr (by rw[mem_singleton.1 hq];exact (HH.out.lt _ _ HH.out.wa.1).1)));have HXC:=aA (fun w' (o:Oy [] wr w')=>HX.out w' (HH.out.only.aB o));have hnd:qG s.sc cf (i+1)=ndS s.sc cf i (qG s.sc cf i):=rfl;unfold ndS at hnd;rw[fH] at hnd;have ei:wrap .i64 ((i:Int)+1)=((i+1:Nat):Int):=by rw[IntKind.wrap_i64];omega
   have hsl:=hlt;rw[hpn]
   cases hic:uP (s.nd.getD i bD).n with
   | false =>
    rw[hic,if_neg (by decide)] at hnd;rw[hic] at HIC;have HND:=aA hnd;clear hnd hm hn hv;generalize s.nd.getD i bD=nd at HXC HIC;obtain⟨⟨x1,x2,x3,x4,x5,x6,x7⟩,ps,cs,pv,cv⟩:=nd;unfold nwV at HIC;dsimp only at HIC HXC;have m:=bJ wr [];have k:=m.zK;have c:=HXC.out wr (aR _ _);go_wp2_with (first|((with_reducible first|refine cM (HIC.out _) ?_|refine cU ?_|refine wU ?_);clear k m c;intro w m k;have c:=HXC.out w m.zO)|(go_roundw;(case rel=>exact⟨i+1,by omega,by go_num,by rw[HND.out];exact⟨own,p,x,y,rfl,HH.out.kept gO,HNO.out,gO.got HCF.out (by simp)⟩⟩);(case measure=>first|(simp[intOf];done)|(simp[intOf];omega))))
   | true =>
    rw[hic,if_pos rfl] at hnd;rw[hic] at HIC;have hPs:=HS.out.p;have hinv:=(zQ hPs hck i (by omega)).1;have htot:=(zQ hPs hck i (by omega)).2.1;have hcl:=KR.1 hic;have hcc:=LM (n:=(s.nd.getD i bD).n) hck (by omega) hv (HS.out.tol _ hm);have hrt:=raw_t hPs (i:=i) (by omega);have ho:=HS.out.osc _ hm
    have HSI:=aA (fun (k:Nat) (hk:k<=(s.nd.getD i bD).n.sv.length)=>show (MF s.sc i (s.nd.getD i bD).n (dS (qG s.sc cf i) i (I8 (RV cf (s.nd.getD i bD).n) (bN s.sc i 0) (bN s.sc i 0))) k).pu=((MF s.sc i (s.nd.getD i bD).n (dS (qG s.sc cf i) i (I8 (RV cf (s.nd.getD i bD).n) (bN s.sc i 0) (bN s.sc i 0))) k).ev.length:Int)/\(MF s.sc i (s.nd.getD i bD).n (dS (qG s.sc cf i) i (I8 (RV cf (s.nd.getD i bD).n) (bN s.sc i 0) (bN s.sc i 0))) k).ev.length<=1000000000 from by
     have:=GA hPs (i:=i) (by omega) (by rw[fH];exact hic) (hinv.set i (c:=I8 (RV cf (s.nd.getD i bD).n) (bN s.sc i 0) (bN s.sc i 0)) (yL.new hcc hrt)) k (by rw[fH];exact hk);rw[fH] at this;obtain⟨q1,q2⟩:=this;refine⟨q1.pu,?_⟩;rw[zJ] at q2;unfold tot at q2;have hkb:k*985167<=12*985167:=Nat.mul_le_mul_right _ (by omega);unfold tot at htot;have hib:i*11822004<=24*11822004:=Nat.mul_le_mul_right _ (by omega);omega)
    have HSRV:=aA (HS.out.ok.ndo _ hm).srv;have HFI:=aA (fun (k:Nat) (hk:k<=1000) w'=>Y5 (s.nd.getD i bD) k hn hk w');have HRW:=aA (fun wd (h1:aX wo wd own s p (qG s.sc cf i)) w' (o:Oy [] wd w')=>pRaw (h1.wa.kept o (by simp)) ((HS.out.ok.kept h1.only).kept o) hlt ho 0 (Int.le_refl 0) (by decide));have HSVC:=aA (nX hcc).2.2.2;have HCC:=aA hcc;have HV12:=aA (And.intro hcl.2 hv);have HTL:=aA (HS.out.tol _ hm);generalize bN s.sc i 0=raw at *;have HND:=aA hnd;clear hnd hm hn hv hPs hinv htot hcl hcc ho hsr;generalize s.nd.getD i bD=nd at *;obtain⟨⟨x1,x2,x3,x4,x5,x6,x7⟩,ps,cs,pv,cv⟩:=nd;unfold nwV at HIC HFI;dsimp only at HIC HFI HX HND HSI HSRV HSVC HCC HV12 HTL;have hbw:=h.wa.2;rw[hpn] at hbw;have HBW:=aA hbw;have hwc:p.bw≠bc:=fun e=>by have:=HH.out.wa.1;rw[e,hno] at this;cases this
    have HX2:=aA (fun w' (o:Oy [bc] wr w')=>HX.out w' (HH.out.only.trans o fun q hq=>.inr (by rw[mem_singleton.1 hq];exact hbc)));have hbl:=(HH.out.lt _ _ HH.out.wa.1).2;have hcl:=aF hcf;have hfr:=HH.out.fresh (Nat.le_refl _);have m:Mm wr [bc] wr _:=⟨((Mem.start wr [bc]).ext false hbw (by simp) (by simp)).ext true hcf (by simpa using Ne.symm hwc) (by simp)⟩;have k:=m.zK;have c:=HX2.out wr (aR _ _);clear hbw hcf HXC HX1 h;go_wp2_with ((with_reducible first|refine cM (HIC.out _) ?_|refine cU ?_|refine wU ?_);clear k m c;intro w m k;have c:=HX2.out w m.zO)
    have hnbn:=aF (gB (w:=w) (b:=wr.heap.size));apply AO (F:=fun _ w3=>Oy [bc] wr w3/\w3.heap[bc]? = some (.cells #[.int .i64 x7.length,.int .i64 x3,.int .i64 cf.prec,.int .i64 cf.keep,.int .i64 cf.sv.kp,.int .i64 cf.sv.ki,.int .i64 cf.sv.lim,.int .i64 cf.sv.sf,.int .i64 cf.sv.sl,.int .i64 cf.rate,.int .i64 cf.mn,.int .i64 cf.mx] 31 (0,0))/\w3.heap[wr.heap.size]? = some (.cells #[.int .i64 x1,.slice ps x2.length cs,.int .i64 x3,.bool x4,.int .i64 x5,.int .i64 x6,.slice pv x7.length cv] 54 (0,0)))
    case h =>
     refine rY (id:=7) [] [0,3] [6,8] 7 (by kernel_rfl) (by kernel_rfl) ?_;simp only[bV];(repeat (first|(refine aQ (fun K hK=>?_);go_simp;refine hK _ ?_;clear hK K)));refine aS ?_;(repeat (refine aJ (fun K hK=>?_);go_simp;refine hK _ ?_;clear hK K));refine aK ?_;intro w oW m k;(iterate 7 all_goals ((first|refine yM [1,4] (by decide +kernel) rfl ?_ ?_|refine yM [2,4] (by decide +kernel) rfl ?_ ?_|refine yM [4,5] (by decide +kernel) rfl ?_ ?_|refine yM [5] (by decide +kernel) rfl ?_ ?_|refine yM [6] (by decide +kernel) rfl ?_ ?_|refine yM [7] (by decide +kernel) rfl ?_ ?_|refine yM [8] (by decide +kernel) rfl ?_ ?_|refine yM [4,6] (by decide +kernel) rfl ?_ ?_|refine yM [4] (by decide +kernel) rfl ?_ ?_|refine yM [2] (by decide +kernel) rfl ?_ ?_|refine yM [1] (by decide +kernel) rfl ?_ ?_);(focus (first|exact .inr oW|exact .inl (aT (by kernel_rfl))));clear k m;intro w oN m k;(try replace oW:=oW.aB oN);clear oN;simp only[List.mem_cons,List.not_mem_nil,or_false,forall_eq_or_imp,forall_eq];(repeat' with_reducible refine And.intro ?_ ?_);all_goals (refine aD rfl ?_;go_wp2;simp only[bA];first|(refine yA ?_;clear k m;intro w oN m k;(try replace oW:=oW.aB oN);clear oN)|(refine yU ?_;clear k m;intro w m k)|skip)));all_goals (refine yE (by kernel_rfl) (.inl (aT (by kernel_rfl))) ?_;clear k m;intro w m k);all_goals (obtain⟨n0,-⟩:∃ n:Nat,n=0:=⟨0,rfl⟩;exact⟨rfl,n0,rfl,m.zO,gB,gB⟩)
    intro _ w hF;obtain⟨O5,gc,gn⟩:=hF;have gw:=O5.got HBW.out (by simpa using hwc);have h1:=HH.out.unc O5 (by simpa using HNO.out) (by simpa using hbc);clear m k c;generalize wr.heap.size=bn at *;have HRW:=aA (HRW.out w h1);have HXA:=aA (fun w' (o:Oy [] w w')=>And.intro (h1.cell hlt o).1 (And.intro (h1.cell hlt o).2 ((h1.aa.2.2.kept o (by simp)).frozen i)));have HH1:=aA h1;have HGC:=aA gc;have HGN:=aA gn;obtain⟨wd,rfl⟩:∃ wd:World,wd=w:=⟨_,rfl⟩;have m:Mm wd [] wd _:=⟨(((Mem.start wd []).ext false gw (by simp) (by simp)).ext false gn (by simp;omega) (by simp)).ext false gc (by simp;omega) (by simp)⟩;have k:=m.zK;have c:=HXA.out _ (aR [] wd);clear gc gn gw h1;have HNW:=aA (fun w'=>pClNew (RV cf ⟨x1,x2,x3,x4,x5,x6,x7⟩) raw raw HCC.out HSVC.out (nX HCC.out).1 (nX HCC.out).2.1 w');unfold JB RV at HNW;dsimp only at HNW;go_wp2_with ((with_reducible first|refine cM (HRW.out _ gO) ?_|refine cU ?_|refine wU ?_);clear k m c;intro w m k;have c:=HXA.out w m.zO)
    refine rY (id:=9) [0,1,2,3,4,5,6,7] [] [10] 3 (by kernel_rfl) (by kernel_rfl) ?_;simp only[bV]
    (repeat (first|(refine aQ (fun K hK=>?_);go_simp;refine hK _ ?_;clear hK K)));refine aS ?_;(repeat (refine aJ (fun K hK=>?_);go_simp;refine hK _ ?_;clear hK K));refine aK ?_
    clear k m c;intro w oW m k;refine yM [8] (by kernel_rfl) rfl (.inr oW) ?_;clear k m;intro w oN m k;replace oW:=oW.aB oN;simp only[eD];refine aD rfl ?_;go_wp2_with fail
    refine (HNW.out w).mono ?_;rintro r w2 ⟨hnr,hon⟩;rcases hnr with ⟨hf,-⟩|⟨-,P,rfl,hat,hge⟩
    ·rw[hrt] at hf;exact absurd hf (by decide)
    replace hge:=fun b hb=>Nat.le_trans m.zO.size (hge b hb);have m:Mm wd [] w2 _:=⟨m.out.call hon⟩;replace oW:=oW.aB hon;clear k hon;have k:=m.zK;go_wp2;simp only[bA];refine yM [9] (by kernel_rfl) rfl (.inr oW) ?_;clear k m;intro w oN m k;replace oW:=oW.aB oN;replace hat:=hat.kept oN;simp only[eD];refine aD rfl ?_;go_wp2;simp only[bA];refine yM [10] (by kernel_rfl) rfl (.inr oW) ?_;clear k m oN;intro w oN m k;replace hat:=hat.kept oN;simp only[eD];have c:=HXA.out w m.zO;refine aD rfl ?_;go_wp2;simp only[bA];have h2:=HH1.out.newc hlt hat hge m.zO;have os:Oy [p.ca] w (w.setCell ⟨p.ca,i,none⟩ (.pointer (some ⟨P.bc,0,none⟩))):=(aR [p.ca] w).setCell (p:=⟨p.ca,i,none⟩) (.inl (mem_singleton.2 rfl)) _;have hcac:bc≠p.ca:=fun e=>by have:=HH1.out.aa.1;rw[<-e,HNO.out] at this;cases this
    have hcan:bn≠p.ca:=fun e=>by have:=HH1.out.aa.1;rw[<-e,hfr] at this;cases this
    have gc3:=os.got (gB (w:=w) (b:=bc)) (by simpa using hcac);have gn3:=os.got (gB (w:=w) (b:=bn)) (by simpa using hcan);have hPn:∀ x,x<wd.heap.size->dJ own P.all (.C i) x=own x:=fun x hx=>bW fun hm=>by have:=hge x hm;omega
    have hd1:=aF HGC.out;have hd2:=aF HGN.out;generalize w.setCell ⟨p.ca,i,none⟩ (.pointer (some ⟨P.bc,0,none⟩))=w3 at h2 gc3 gn3 os |-;refine yD (by kernel_rfl) (.inl (aT (by kernel_rfl))) ?_;intro w4 o4;replace h2:aX wo w3 (dJ own P.all (.C i)) s { p with pl:=p.pl.set i (some P) } (dS (qG s.sc cf i) i (I8 (RV cf ⟨x1,x2,x3,x4,x5,x6,x7⟩) raw raw)):=by rw[rV];exact h2
    have hcc4:=o4.got gc3 (by simp);have hnn4:=o4.got gn3 (by simp);obtain⟨cc,hcc⟩:∃ cc,cc=Obj.cells #[.int .i64 x7.length,.int .i64 x3,.int .i64 cf.prec,.int .i64 cf.keep,.int .i64 cf.sv.kp,.int .i64 cf.sv.ki,.int .i64 cf.sv.lim,.int .i64 cf.sv.sf,.int .i64 cf.sv.sl,.int .i64 cf.rate,.int .i64 cf.mn,.int .i64 cf.mx] 31 (0,0):=⟨_,rfl⟩;rw[<-hcc] at hcc4;have HCC2:=aA hcc;have HJ:=aA (show NewJ wo s p.bw bc bn cc (.cells #[.int .i64 x1,.slice ps x2.length cs,.int .i64 x3,.bool x4,.int .i64 x5,.int .i64 x6,.slice pv x7.length cv] 54 (0,0)) (MF s.sc i ⟨x1,x2,x3,x4,x5,x6,x7⟩ (dS (qG s.sc cf i) i (I8 (RV cf ⟨x1,x2,x3,x4,x5,x6,x7⟩) raw raw)) 0) w4 from ⟨_,{ p with pl:=p.pl.set i (some P) },rfl,h2.kept o4,(hPn bc hd1).trans HNO.out,(hPn bn hd2).trans hfr,hcc4,hnn4⟩);clear m k c h2 os gc3 gn3 hat hge hPn HH1 HXA HRW HNW HGC HGN hcc4 oW;generalize dS (qG s.sc cf i) i (I8 (RV cf ⟨x1,x2,x3,x4,x5,x6,x7⟩) raw raw)=st1 at HJ HND HSI;have m:=iX hnn4;have k:=m.zK;clear hnn4 o4;go_wp2_with ((with_reducible first|refine cU ?_|refine wU ?_);clear k m;intro w m k)
    clear k m;obtain⟨wm,rfl⟩:∃ wm:World,wm=w4:=⟨_,rfl⟩;go_loopw [56] (fun vk wr=>∃ kk:Nat,kk<=x7.length/\vk=.int .i64 kk/\NewJ wo s p.bw bc bn cc (.cells #[.int .i64 x1,.slice ps x2.length cs,.int .i64 x3,.bool x4,.int .i64 x5,.int .i64 x6,.slice pv x7.length cv] 54 (0,0)) (MF s.sc i ⟨x1,x2,x3,x4,x5,x6,x7⟩ st1 kk) wr) (fun vk _=>x7.length-(intOf vk).toNat)
    case atStart=>exact⟨0,Nat.zero_le _,rfl,HJ.out⟩
    case round =>
     obtain⟨kk,hk,rfl,own',p',hbw',h,hb1,hb2,hcc4,hnn4⟩:=hrel;have HH:=aA h;have HB1:=aA hb1;have HB2:=aA hb2;have HC4:=aA hcc4;have HN4:=aA hnn4;by_cases hk2:kk<x7.length
     ·have hk3:(kk:Int)<(x7.length:Int):=by omega
      obtain⟨e1,he1⟩:∃ e1,e1=EvS.poll ⟨i,kk,x7.getD kk 0,0⟩:=⟨_,rfl⟩;have HE1:Hid (wD e1=[.int .i64 i,.int .i64 kk,.int .i64 (x7.getD kk 0),.int .i64 0]/\xP e1=134/\FM e1=130):=aA (by rw[he1];exact⟨rfl,rfl,rfl⟩);have HSV:=aA (show MF s.sc i ⟨x1,x2,x3,x4,x5,x6,x7⟩ st1 (kk+1)=fE s.sc (MF s.sc i ⟨x1,x2,x3,x4,x5,x6,x7⟩ st1 kk) (iC ⟨x1,x2,x3,x4,x5,x6,x7⟩ kk) e1 by rw[he1];rfl);clear he1;have hsi:=HSI.out kk hk;have HSC:=aA (fun w' (o:Oy [] wr w') nc hb hb0 hc=>by have:=nN (h.kept o) hsi.1 hsi.2 (iC ⟨x1,x2,x3,x4,x5,x6,x7⟩ kk) e1 (b:=nc) hb hb0 hc;rw[hbw',HE1.out.2.2] at this;exact this);have HFR:=aA (fun c (hc:wr.heap.size<=c)=>h.fresh hc);have HB0:=aA h.base;have HF1:=aA (fun w'=>HFI.out kk (by have:=HV12.out;omega) w');have hgk:x7[kk]? = some (x7.getD kk 0):=by rw[List.getD_eq_getElem?_getD,List.getElem?_eq_getElem hk2];rfl
      obtain⟨b2,o2,hpv,hlt5,hcell⟩:=HSRV.out.cell kk _ hgk;have hcell:=hcell 0 _ rfl;rw[Nat.mul_one,Nat.add_zero] at hcell
      have HXS:=aA (fun w' (o:Oy [] wr w')=>show b2<w'.heap.size/\w'.cell? ⟨b2,o2+kk,none⟩=some (.int .i64 (x7.getD kk 0)) from by
       have q:=HH.out.only.aB o;exact⟨Nat.lt_of_lt_of_le hlt5 q.size,(q.cell hlt5 (by simp)).trans hcell⟩)
      have ek:wrap .i64 ((kk:Int)+1)=((kk+1:Nat):Int):=by have:=HV12.out;rw[IntKind.wrap_i64];omega
      have hsl:=hk2;subst hpv;generalize iC ⟨x1,x2,x3,x4,x5,x6,x7⟩ kk=fk at HSV HSC HF1
      generalize x7.getD kk 0=xv at HE1 HXS;clear hcell h hb1 hb2 hcc4;have m:=iX hnn4;have k:=m.zK;have c:=HXS.out wr (aR _ _);clear hnn4;go_wp2_with ((with_reducible first|refine cM (HF1.out _) ?_|refine cU ?_|refine wU ?_);clear k m c;intro w m k;have c:=HXS.out w m.zO)
      have OC:=m.zO;have hnc:=gNew m;refine (HSC.out _ m.zO _ (HFR.out _ hnc) (Nat.le_trans HB0.out hnc) (by rw[HE1.out.1,HE1.out.2.1];exact gB)).mono ?_;rintro r w5 ⟨rfl,own2,p2,hbw2,-,h5,hold,S,oS,hS⟩;have hq1:=aF HC4.out;have hq2:=aF HN4.out;have hcu:∀ x,x<wr.heap.size->own' x=none->own2 x=none:=fun x hx hn=>(hold x (Nat.lt_of_lt_of_le hx OC.size) (by omega)).trans hn;have hnu:∀ x,own' x=none->x ∉ S:=fun x hn hm=>by rcases hS x hm with q|q | q<;>rw[hn] at q<;>cases q
      have HJ2:=aA (fun w' (o:Oy [] w5 w')=>(show NewJ wo s p.bw bc bn cc (.cells #[.int .i64 x1,.slice ps x2.length cs,.int .i64 x3,.bool x4,.int .i64 x5,.int .i64 x6,.slice (some ⟨b2,o2,none⟩) x7.length cv] 54 (0,0)) (MF s.sc i ⟨x1,x2,x3,x4,x5,x6,x7⟩ st1 (kk+1)) w' from by
       rw[HSV.out];exact⟨own2,p2,hbw2.trans hbw',h5.kept o,hcu bc hq1 HB1.out,hcu bn hq2 HB2.out,o.got (oS.got (OC.got HC4.out (by simp)) (hnu bc HB1.out)) (by simp),o.got (oS.got (OC.got HN4.out (by simp)) (hnu bn HB2.out)) (by simp)⟩))
      clear m k c h5 oS OC;have m:=bJ w5 [];have k:=m.zK;go_wp2_with (first|((with_reducible first|refine cU ?_|refine wU ?_);clear k m;intro w m k)|(go_roundw;(case rel=>exact⟨kk+1,by omega,by go_num,HJ2.out _ gO⟩);(case measure=>first|(simp[intOf];done)|(simp[intOf];omega))))
     ·obtain rfl:kk=x7.length:=by omega
      have hk3:decide ((x7.length:Int)<(x7.length:Int))=false:=by simp
      have m:=bJ wr [];have k:=m.zK
      have HNI:=aA (fun w' (o:Oy [] wr w')=>(show NewI wo s cf p.bw bc (qG s.sc cf (i+1)) w' from by
       rw[HND.out];exact⟨own',p',_,_,hbw',HH.out.kept o,HB1.out,by rw[o.got HC4.out (by simp),HCC2.out]⟩))
      clear hcc4 hnn4 h hb1 hb2;go_wp2_with (first|((with_reducible first|refine cU ?_|refine wU ?_);clear k m;intro w m k)|(go_roundw;(case rel=>exact⟨i+1,by omega,by go_num,HNI.out _ gO⟩);(case measure=>first|(simp[intOf];done)|(simp[intOf];omega))))
  ·obtain rfl:i=s.nd.length:=by omega
   have hlt2:decide ((s.nd.length:Int)<(s.nd.length:Int))=false:=by simp
   have m:=bJ wr [];have k:=m.zK;go_wp2_with (first|((with_reducible refine wU ?_);clear k m;intro w m k)|((with_reducible refine lE (fun w o g k K hK=>⟨rfl,?_⟩));simp[results,Tryz.results23,go_sem];refine hK _ ?_;exact⟨own,p,rfl,HH.out.kept o⟩))
end
end Go.Proofs.YtppjhbjmfkiejaaGreat
