/- Od Oe -/
import Derived.Test.YthbgcpfklmlnjaaGreatFO8
namespace Go.Proofs.YthbgcpfklmlnjaaGreat
set_option linter.all false
open Go.RowKit Go.Sort
section
def QS (c:Cf) (n:Nd):Cf:={ c with servers:=n.sv.length,tol:=n.tol }
def LA (s:fC) (i:Nat) (n:Nd) (st:bS):Nat->bS
 | 0=>st
 | k+1=>eX s (LA s i n st k) (fT n k) (.poll ⟨i,k,n.sv.getD k 0,0⟩)
def ndS (s:fC) (c:Cf) (i:Nat) (st:bS):bS:=
 if pQ (bJ s i)=true then LA s i (bJ s i) (dO st i (G9 (QS c (bJ s i)) (bO s i 0) (bO s i 0))) (bJ s i).sv.length else st
def pW (s:fC) (c:Cf):Nat->bS
 | 0=>⟨List.replicate s.nd.length none,[],0,0,[],0,[],[]⟩
 | i+1=>ndS s c i (pW s c i)
structure ScP (s:fC):Prop where
 nl:s.nd.length<=24
 un:0<=s.un/\s.un<=1125899906842624
 osc:∀ i:Nat,i<s.nd.length->cZ (bJ s i).ph (bJ s i).sg=0
 st:∀ i:Nat,i<s.nd.length->0<=(bJ s i).st/\(bJ s i).st<=1125899906842624
 sv:∀ i:Nat,i<s.nd.length->(bJ s i).sv.length<=12
 tol:∀ i:Nat,i<s.nd.length->0<=(bJ s i).tol/\(bJ s i).tol<=500000
 svr:∀ i:Nat,i<s.nd.length->∀ v∈(bJ s i).sv,0<=v/\v<s.nd.length
theorem eO.p {w:World} {s:dU} (h:eO w s):ScP s.sc:=by
 have hl:s.sc.nd.length=s.nd.length:=by unfold dU.sc;simp
 have key:∀ i:Nat,i<s.sc.nd.length->bJ s.sc i=(s.nd.getD i aU).n/\s.nd.getD i aU∈s.nd:=fun i hi=>⟨eB s i,bC aU (hl ▸ hi)⟩;refine⟨by rw[hl];exact h.nl,h.un,fun i hi=>?_,fun i hi=>?_,fun i hi=>?_,fun i hi=>?_,fun i hi=>?_⟩
 all_goals
  obtain⟨e,hm⟩:=key i hi;rw[e]
 ·exact h.osc _ hm
 ·exact h.nst _ hm
 ·exact h.nsv _ hm
 ·exact h.tol _ hm
 ·rw[hl];exact h.svr _ hm
theorem KU {c:Cf} {n:Nd} (h:fG (UF c)=0) (h1:1<=n.sv.length) (h2:n.sv.length<=12) (h3:0<=n.tol/\n.tol<=500000):fG (QS c n)=0:=by
 unfold fG UF at h;unfold fG QS;dsimp only at h |-;have w1:bT (n.sv.length:Int) 1 12=true:=aW.2 (by omega);have w2:bT n.tol 0 500000=true:=aW.2 h3;have w3:bT 1 1 12=true:=by decide
 have w4:bT 0 0 500000=true:=by decide
 rw[w3,w4] at h;rw[w1,w2];exact h
theorem JZ {n:Nd}:pQ n=true↔n.rf=false/\0<n.sv.length:=by unfold pQ;simp
theorem IZ (s:fC) (i:Nat) (n:Nd) (st:bS):∀ k,(LA s i n st k).cl=st.cl
 | 0=>rfl
 | k+1=>by unfold LA;rw[(eG ..).1,IZ s i n st k]
theorem FQ {s:fC} (hp:ScP s) {i:Nat} (hi:i<s.nd.length) (hc:pQ (bJ s i)=true) {st:bS} (h:eD s st):∀ k,k<=(bJ s i).sv.length->eD s (LA s i (bJ s i) st k)/\tot s (LA s i (bJ s i) st k)<=tot s st+k*985167
 | 0,_=>⟨h,by unfold LA;omega⟩
 |k+1,hk=>by
  obtain⟨k1,k2⟩:=FQ hp hi hc h k (by omega)
  have hm:(bJ s i).sv.getD k 0∈(bJ s i).sv:=by
   rw[List.getD_eq_getElem?_getD,List.getElem?_eq_getElem (by omega)];exact List.getElem_mem _
  have hv:=hp.svr i hi _ hm;have he:C8 s (.poll ⟨i,k,(bJ s i).sv.getD k 0,0⟩):=⟨⟨i,((bJ s i).sv.getD k 0).toNat,rfl,by dsimp only;omega,hi,by omega,hc⟩,Int.le_refl _,(by decide:(0:Int)<=1000000000)⟩;refine⟨k1.sch _ he,?_⟩;have ht:=uP k1 (fT (bJ s i) k) (.poll ⟨i,k,(bJ s i).sv.getD k 0,0⟩);have hst:=hp.st i hi;have hun:=hp.un;have hsv:=hp.sv i hi;unfold LA;split at ht
  ·simp only[DC] at ht
   unfold fT at ht |-
   omega
  ·omega
theorem raw_t {s:fC} (hp:ScP s) {i:Nat} (hi:i<s.nd.length):fI (bO s i 0)=true:=by
 have:=GD (hp.osc i hi) (Int.le_refl 0) (by decide);unfold fI bO;exact aW.2 (by omega)
theorem zB {s:fC} (hp:ScP s) {c:Cf} (hc:fG (UF c)=0):∀ i,i<=s.nd.length->eD s (pW s c i)/\tot s (pW s c i)<=i*11822004/\∀ j:Nat,j<i->pQ (bJ s j)=true->∃ d,(pW s c i).cl[j]? = some (some d)
 | 0,_=>⟨⟨rfl,Int.le_refl _,List.Pairwise.nil,List.Pairwise.nil,fun x hx=>absurd hx (by simp[pW]),fun e he=>absurd he (by simp[pW]),by simp[pW],(fun j d hd=>by
   unfold pW at hd;dsimp only at hd;rw[List.getElem?_replicate] at hd;split at hd
   ·cases hd
   ·cases hd),Int.le_refl _⟩,by simp[pW,tot,phi],fun j hj=>absurd hj (by omega)⟩
 |i + 1,hi=>by
  obtain⟨k1,k2,k3⟩:=zB hp hc i (by omega);unfold pW ndS;have hil:i<s.nd.length:=by omega
  split
  ·rename_i hcl
   have hn:=hp.sv i hil;have h0:=JZ.1 hcl;have hnew:xP (G9 (QS c (bJ s i)) (bO s i 0) (bO s i 0)):=xP.new (KU hc (by omega) hn (hp.tol i hil)) (raw_t hp hil);have s1:=k1.set i hnew;obtain⟨s2,s3⟩:=FQ hp hil hcl s1 _ (Nat.le_refl _);have t1:tot s (dO (pW s c i) i (G9 (QS c (bJ s i)) (bO s i 0) (bO s i 0)))=tot s (pW s c i):=yV ..;refine⟨s2,by omega,fun j hj hcj=>?_⟩;rw[IZ];unfold dO;dsimp only;rw[Int.toNat_natCast,List.getElem?_set];split
   ·rename_i hij
    rw[if_pos (by rw[k1.cln];omega)];exact⟨_,rfl⟩
   ·exact k3 j (by omega) hcj
  ·refine⟨k1,Nat.le_trans k2 (Nat.mul_le_mul_right _ (Nat.le_succ i)),fun j hj hcj=>?_⟩
   rcases Nat.lt_succ_iff_lt_or_eq.1 hj with q|rfl
   ·exact k3 j q hcj
   ·rename_i hn;exact absurd hcj hn
def newF (s:fC) (c:Cf):bS:=pW s c s.nd.length
theorem new_inv {s:fC} (hp:ScP s) {c:Cf} (hc:fG (UF c)=0):eD s (newF s c)/\vR s (newF s c)/\tot s (newF s c)<=900000000:=by
 obtain⟨k1,k2,k3⟩:=zB hp hc s.nd.length (Nat.le_refl _);have:=hp.nl;unfold newF;generalize pW s c s.nd.length=st at k1 k2 k3 |-;have hF:vR s st:=k3;refine⟨k1,hF,?_⟩;generalize tot s st=x at k2 |-;omega
end
section
variable {w0 w w1:World} {own:Col} {s:dU} {p:j5} {st:bS}
theorem aT.newc (h:aT w0 w own s p st) {i:Nat} {P:Pl} {c:Cl} (hi:i<s.nd.length) (h':bP w1 P c) (hP:∀ b∈P.all,w.heap.size<=b) (ho:Only [] w w1) :
  aT w0 (w1.setCell ⟨p.ca,i,none⟩ (.pointer (some ⟨P.bc,0,none⟩))) (dG own P.all (.C i)) s { p with pl:=p.pl.set i (some P) } { st with cl:=st.cl.set i (some c) }:=by
 have hA:=h.aa.1;have hq:∀ b∈P.all,own b=some (.C i)\/w.heap.size<=b:=fun b hb=>.inr (hP b hb);have hx:=h.kM hq;have os:Only [p.ca] w1 (w1.setCell ⟨p.ca,i,none⟩ (.pointer (some ⟨P.bc,0,none⟩))):=(Only.refl [p.ca] w1).setCell (p:=⟨p.ca,i,none⟩) (.inl (List.mem_singleton.2 rfl)) _
 have no:∀ {t:Tag},t≠ .A->∀ x∈[p.ca],own x≠some t:=fun ht x hx q=>by
  rw[List.mem_singleton.1 hx,hA] at q;exact ht (Option.some.inj q).symm
 have k:=h.kept ho;have hca:=(h.lt _ _ hA);refine⟨(h.only.aB ho).trans os fun x hx=>.inr (by rw[List.mem_singleton.1 hx];exact hca.1),h.nL (Nat.le_trans ho.size os.size) hq fun b hb=>Nat.lt_of_lt_of_le (h'.lt b hb) os.size,?_,?_,?_,?_,?_,?_,?_,?_⟩
 ·exact (k.wa.kept os (no (by simp))).ext hx
 ·refine⟨hx _ _ hA,by simpa using h.aa.2.1,?_⟩
  have r:=aP.set1 (f:=fun o:Option Nat=>Value.pointer (o.map fun b=>⟨b,0,none⟩)) k.aa.2.2 (i:=i) (by rw[List.length_map,h.aa.2.1];exact hi) (some P.bc);have e:(p.pl.set i (some P)).map (Option.map Pl.bc)=(p.pl.map (Option.map Pl.bc)).set i (some P.bc):=by rw[List.map_set];rfl
  rw[e];exact r
 ·refine⟨by simpa using h.ca.1,fun j h1 h2=>?_⟩
  rw[List.getElem_set,List.getElem_set];by_cases hij:i=j
  ·subst hij
   rw[if_pos rfl,if_pos rfl];exact⟨h'.off os fun b hb hm=>by have:=hP b hb;rw[List.mem_singleton.1 hm] at this;omega,fun b hb=>iB hb⟩
  ·rw[if_neg hij,if_neg hij]
   have:=k.ca.2 j (by simpa using h1) (by simpa using h2);revert this
   cases p.pl[j]'(by simpa using h1)<;>cases st.cl[j]'(by simpa using h2)<;>dsimp only
   ·exact id
   ·exact id
   ·exact id
   ·rintro⟨q1,q2⟩
    exact⟨q1.off os (fun b hb hm=>by rw[List.mem_singleton.1 hm] at hb;have:=q2 _ hb;rw[hA] at this;cases this),fun b hb=>hx _ _ (q2 b hb)⟩
 ·exact (k.qa.kept os (no (by simp))).ext hx
 ·exact (k.ev.kept os (no (by simp))).ext hx
 ·exact (k.ea.kept os fun x hx y _ j _=>no (by simp) x hx).ext hx
 ·exact (k.ms.kept os (no (by simp))).ext hx
 ·exact (k.ls.kept os (no (by simp))).ext hx
def DV (bw ca qb:Nat):Col:=fun b=>if b=bw then some .W else if b=ca then some .A else if b=qb then some .Q else none
def uJ (bw ca qb n:Nat):j5:=⟨bw,ca,qb,[qb],List.replicate n none,.slice none 0 0,.slice none 0 0,.slice none 0 0,[],[]⟩
theorem aT.init {bw ca qb:Nat} (c:Cf) (h1:w.heap.size<=bw/\bw<w1.heap.size) (h2:w.heap.size<=ca/\ca<w1.heap.size) (h3:w.heap.size<=qb/\qb<w1.heap.size) (n1:bw≠ca) (n2:bw≠qb) (n3:ca≠qb) (ho:Only [] w w1)
  (hw:w1.heap[bw]? = some (.cells #[.slice s.pn s.nd.length s.cn,.slice s.pl s.lk.length s.cl,.slice s.pf s.ft.length s.cf,.int .i64 s.un,.int .u64 s.sd,.slice (some ⟨ca,0,none⟩) s.nd.length s.nd.length,.pointer (some ⟨qb,0,none⟩),.slice none 0 0,.int .i64 0,.slice none 0 0,.slice none 0 0] 74 (0,0)))
  (ha:aP ptC 89 1 w1 ca s.nd.length (List.replicate s.nd.length none)) (hq:C9 w1 qb [qb] 4096 0 0 []):aT w w1 (DV bw ca qb) s (uJ bw ca qb s.nd.length) (pW s.sc c 0):=by
 have hnl:s.sc.nd.length=s.nd.length:=by unfold dU.sc;simp
 have cw:DV bw ca qb bw=some .W:=by unfold DV;rw[if_pos rfl]
 have cc:DV bw ca qb ca=some .A:=by unfold DV;rw[if_neg (Ne.symm n1),if_pos rfl]
 have cq:DV bw ca qb qb=some .Q:=by unfold DV;rw[if_neg (Ne.symm n2),if_neg (Ne.symm n3),if_pos rfl]
 refine⟨ho,fun b t hb=>?_,⟨cw,hw⟩,⟨cc,by simp[uJ],?_⟩,⟨?_,fun i q1 q2=>?_⟩,⟨hq,fun b hb=>by rw[List.mem_singleton.1 hb];exact cq,fun e=>by simp[uJ,pW],by simp[uJ,pW]⟩,⟨dZ _ _,fun g hg=>by simp[uJ,Value.ownBlock] at hg⟩,⟨by simp[uJ,pW],fun x hx=>absurd hx (by simp[pW])⟩,⟨dZ _ _,fun g hg=>by simp[uJ,Value.ownBlock] at hg⟩,⟨dZ _ _,fun g hg=>by simp[uJ,Value.ownBlock] at hg⟩⟩
 ·unfold DV at hb
  split at hb
  ·rename_i e;subst e;exact h1
  ·split at hb
   ·rename_i e;subst e;exact h2
   ·split at hb
    ·rename_i e;subst e;exact h3
    ·cases hb
 ·have e:(uJ bw ca qb s.nd.length).pl.map (Option.map Pl.bc)=List.replicate s.nd.length none:=by simp[uJ]
  rw[e];exact ha
 ·simp[uJ,pW,hnl]
 ·have e1:(uJ bw ca qb s.nd.length).pl[i]=none:=by simp[uJ]
  have e2:(pW s.sc c 0).cl[i]=none:=by simp[pW]
  rw[e1,e2];trivial
end
end Go.Proofs.YthbgcpfklmlnjaaGreat
