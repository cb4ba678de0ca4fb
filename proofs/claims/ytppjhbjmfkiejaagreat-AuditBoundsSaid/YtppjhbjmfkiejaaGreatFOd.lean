/- Od Oe -/
import Derived.Test.YtppjhbjmfkiejaaGreatFO8
namespace Go.Proofs.YtppjhbjmfkiejaaGreat
set_option linter.all false
open Go.RowKit Go.Sort
section
def RJ (c:Cf) (n:Nd):Cf:={ c with servers:=n.sv.length,tol:=n.tol }
def LP (s:eG) (i:Nat) (n:Nd) (st:bS):Nat->bS
 | 0=>st
 | k+1=>eX s (LP s i n st k) (gZ n k) (.poll ⟨i,k,n.sv.getD k 0,0⟩)
def ndS (s:eG) (c:Cf) (i:Nat) (st:bS):bS:=
 if tO (bQ s i)=true then LP s i (bQ s i) (dP st i (IK (RJ c (bQ s i)) (bL s i 0) (bL s i 0))) (bQ s i).sv.length else st
def pR (s:eG) (c:Cf):Nat->bS
 | 0=>⟨List.replicate s.nd.length none,[],0,0,[],0,[],[]⟩
 | i+1=>ndS s c i (pR s c i)
structure ScP (s:eG):Prop where
 nl:s.nd.length<=24
 un:0<=s.un/\s.un<=1125899906842624
 osc:∀ i:Nat,i<s.nd.length->eF (bQ s i).ph (bQ s i).sg=0
 st:∀ i:Nat,i<s.nd.length->0<=(bQ s i).st/\(bQ s i).st<=1125899906842624
 sv:∀ i:Nat,i<s.nd.length->(bQ s i).sv.length<=12
 tol:∀ i:Nat,i<s.nd.length->0<=(bQ s i).tol/\(bQ s i).tol<=500000
 svr:∀ i:Nat,i<s.nd.length->∀ v∈(bQ s i).sv,0<=v/\v<s.nd.length
theorem fJ.p {w:World} {s:dU} (h:fJ w s):ScP s.sc:=by
 have hl:s.sc.nd.length=s.nd.length:=by unfold dU.sc;simp
 have key:∀ i:Nat,i<s.sc.nd.length->bQ s.sc i=(s.nd.getD i bC).n/\s.nd.getD i bC∈s.nd:=fun i hi=>⟨fB s i,bO bC (hl ▸ hi)⟩;refine⟨by rw[hl];exact h.nl,h.un,fun i hi=>?_,fun i hi=>?_,fun i hi=>?_,fun i hi=>?_,fun i hi=>?_⟩
 all_goals
  obtain⟨e,hm⟩:=key i hi;rw[e]
 ·exact h.osc _ hm
 ·exact h.nst _ hm
 ·exact h.nsv _ hm
 ·exact h.tol _ hm
 ·rw[hl];exact h.svr _ hm
theorem K5 {c:Cf} {n:Nd} (h:fE (U9 c)=0) (h1:1<=n.sv.length) (h2:n.sv.length<=12) (h3:0<=n.tol/\n.tol<=500000):fE (RJ c n)=0:=by
 unfold fE U9 at h;unfold fE RJ;dsimp only at h |-;have w1:bT (n.sv.length:Int) 1 12=true:=aW.2 (by omega);have w2:bT n.tol 0 500000=true:=aW.2 h3;have w3:bT 1 1 12=true:=by decide
 have w4:bT 0 0 500000=true:=by decide
 rw[w3,w4] at h;rw[w1,w2];exact h
theorem KE {n:Nd}:tO n=true↔n.rf=false/\0<n.sv.length:=by unfold tO;simp
theorem JE (s:eG) (i:Nat) (n:Nd) (st:bS):∀ k,(LP s i n st k).cl=st.cl
 | 0=>rfl
 | k+1=>by unfold LP;rw[(eD ..).1,JE s i n st k]
theorem FV {s:eG} (hp:ScP s) {i:Nat} (hi:i<s.nd.length) (hc:tO (bQ s i)=true) {st:bS} (h:dZ s st):∀ k,k<=(bQ s i).sv.length->dZ s (LP s i (bQ s i) st k)/\tot s (LP s i (bQ s i) st k)<=tot s st+k*985167
 | 0,_=>⟨h,by unfold LP;omega⟩
 |k+1,hk=>by
  obtain⟨k1,k2⟩:=FV hp hi hc h k (by omega)
  have hm:(bQ s i).sv.getD k 0∈(bQ s i).sv:=by
   rw[List.getD_eq_getElem?_getD,List.getElem?_eq_getElem (by omega)];exact List.getElem_mem _
  have hv:=hp.svr i hi _ hm;have he:C8 s (.poll ⟨i,k,(bQ s i).sv.getD k 0,0⟩):=⟨⟨i,((bQ s i).sv.getD k 0).toNat,rfl,by dsimp only;omega,hi,by omega,hc⟩,Int.le_refl _,(by decide:(0:Int)<=1000000000)⟩;refine⟨k1.sch _ he,?_⟩;have ht:=uR k1 (gZ (bQ s i) k) (.poll ⟨i,k,(bQ s i).sv.getD k 0,0⟩);have hst:=hp.st i hi;have hun:=hp.un;have hsv:=hp.sv i hi;unfold LP;split at ht
  ·simp only[DF] at ht
   unfold gZ at ht |-
   omega
  ·omega
theorem raw_t {s:eG} (hp:ScP s) {i:Nat} (hi:i<s.nd.length):fI (bL s i 0)=true:=by
 have:=GN (hp.osc i hi) (Int.le_refl 0) (by decide);unfold fI bL;exact aW.2 (by omega)
theorem zC {s:eG} (hp:ScP s) {c:Cf} (hc:fE (U9 c)=0):∀ i,i<=s.nd.length->dZ s (pR s c i)/\tot s (pR s c i)<=i*11822004/\∀ j:Nat,j<i->tO (bQ s j)=true->∃ d,(pR s c i).cl[j]? = some (some d)
 | 0,_=>⟨⟨rfl,Int.le_refl _,List.Pairwise.nil,List.Pairwise.nil,fun x hx=>absurd hx (by simp[pR]),fun e he=>absurd he (by simp[pR]),by simp[pR],(fun j d hd=>by
   unfold pR at hd;dsimp only at hd;rw[List.getElem?_replicate] at hd;split at hd
   ·cases hd
   ·cases hd),Int.le_refl _⟩,by simp[pR,tot,phi],fun j hj=>absurd hj (by omega)⟩
 |i + 1,hi=>by
  obtain⟨k1,k2,k3⟩:=zC hp hc i (by omega);unfold pR ndS;have hil:i<s.nd.length:=by omega
  split
  ·rename_i hcl
   have hn:=hp.sv i hil;have h0:=KE.1 hcl;have hnew:xS (IK (RJ c (bQ s i)) (bL s i 0) (bL s i 0)):=xS.new (K5 hc (by omega) hn (hp.tol i hil)) (raw_t hp hil);have s1:=k1.set i hnew;obtain⟨s2,s3⟩:=FV hp hil hcl s1 _ (Nat.le_refl _);have t1:tot s (dP (pR s c i) i (IK (RJ c (bQ s i)) (bL s i 0) (bL s i 0)))=tot s (pR s c i):=yV ..;refine⟨s2,by omega,fun j hj hcj=>?_⟩;rw[JE];unfold dP;dsimp only;rw[Int.toNat_natCast,List.getElem?_set];split
   ·rename_i hij
    rw[if_pos (by rw[k1.cln];omega)];exact⟨_,rfl⟩
   ·exact k3 j (by omega) hcj
  ·refine⟨k1,Nat.le_trans k2 (Nat.mul_le_mul_right _ (Nat.le_succ i)),fun j hj hcj=>?_⟩
   rcases Nat.lt_succ_iff_lt_or_eq.1 hj with q|rfl
   ·exact k3 j q hcj
   ·rename_i hn;exact absurd hcj hn
def newF (s:eG) (c:Cf):bS:=pR s c s.nd.length
theorem new_inv {s:eG} (hp:ScP s) {c:Cf} (hc:fE (U9 c)=0):dZ s (newF s c)/\vU s (newF s c)/\tot s (newF s c)<=900000000:=by
 obtain⟨k1,k2,k3⟩:=zC hp hc s.nd.length (Nat.le_refl _);have:=hp.nl;unfold newF;generalize pR s c s.nd.length=st at k1 k2 k3 |-;have hF:vU s st:=k3;refine⟨k1,hF,?_⟩;generalize tot s st=x at k2 |-;omega
end
section
variable {w0 w w1:World} {own:Col} {s:dU} {p:jX} {st:bS}
theorem aU.newc (h:aU w0 w own s p st) {i:Nat} {P:Pl} {c:Cl} (hi:i<s.nd.length) (h':bN w1 P c) (hP:∀ b∈P.all,w.heap.size<=b) (ho:Only [] w w1) :
  aU w0 (w1.setCell ⟨p.ca,i,none⟩ (.pointer (some ⟨P.bc,0,none⟩))) (dA own P.all (.C i)) s { p with pl:=p.pl.set i (some P) } { st with cl:=st.cl.set i (some c) }:=by
 have hA:=h.aa.1;have hq:∀ b∈P.all,own b=some (.C i)\/w.heap.size<=b:=fun b hb=>.inr (hP b hb);have hx:=h.kK hq;have os:Only [p.ca] w1 (w1.setCell ⟨p.ca,i,none⟩ (.pointer (some ⟨P.bc,0,none⟩))):=(Only.refl [p.ca] w1).setCell (p:=⟨p.ca,i,none⟩) (.inl (List.mem_singleton.2 rfl)) _
 have no:∀ {t:Tag},t≠ .A->∀ x∈[p.ca],own x≠some t:=fun ht x hx q=>by
  rw[List.mem_singleton.1 hx,hA] at q;exact ht (Option.some.inj q).symm
 have k:=h.kept ho;have hca:=(h.lt _ _ hA);refine⟨(h.only.aA ho).trans os fun x hx=>.inr (by rw[List.mem_singleton.1 hx];exact hca.1),h.nE (Nat.le_trans ho.size os.size) hq fun b hb=>Nat.lt_of_lt_of_le (h'.lt b hb) os.size,?_,?_,?_,?_,?_,?_,?_,?_⟩
 ·exact (k.wa.kept os (no (by simp))).ext hx
 ·refine⟨hx _ _ hA,by simpa using h.aa.2.1,?_⟩
  have r:=aS.set1 (f:=fun o:Option Nat=>Value.pointer (o.map fun b=>⟨b,0,none⟩)) k.aa.2.2 (i:=i) (by rw[List.length_map,h.aa.2.1];exact hi) (some P.bc);have e:(p.pl.set i (some P)).map (Option.map Pl.bc)=(p.pl.map (Option.map Pl.bc)).set i (some P.bc):=by rw[List.map_set];rfl
  rw[e];exact r
 ·refine⟨by simpa using h.ca.1,fun j h1 h2=>?_⟩
  rw[List.getElem_set,List.getElem_set];by_cases hij:i=j
  ·subst hij
   rw[if_pos rfl,if_pos rfl];exact⟨h'.off os fun b hb hm=>by have:=hP b hb;rw[List.mem_singleton.1 hm] at this;omega,fun b hb=>iC hb⟩
  ·rw[if_neg hij,if_neg hij]
   have:=k.ca.2 j (by simpa using h1) (by simpa using h2);revert this
   cases p.pl[j]'(by simpa using h1)<;>cases st.cl[j]'(by simpa using h2)<;>dsimp only
   ·exact id
   ·exact id
   ·exact id
   ·rintro⟨q1,q2⟩
    exact⟨q1.off os (fun b hb hm=>by rw[List.mem_singleton.1 hm] at hb;have:=q2 _ hb;rw[hA] at this;cases this),fun b hb=>hx _ _ (q2 b hb)⟩
 ·exact (k.qa.kept os (no (by simp))).ext hx
 ·exact (k.ev.kept os (no (by simp))).ext hx
 ·exact (k.ea.kept os fun x hx y _ j _=>no (by simp) x hx).ext hx
 ·exact (k.ms.kept os (no (by simp))).ext hx
 ·exact (k.ls.kept os (no (by simp))).ext hx
def DW (bw ca qb:Nat):Col:=fun b=>if b=bw then some .W else if b=ca then some .A else if b=qb then some .Q else none
def uL (bw ca qb n:Nat):jX:=⟨bw,ca,qb,[qb],List.replicate n none,.slice none 0 0,.slice none 0 0,.slice none 0 0,[],[]⟩
theorem aU.init {bw ca qb:Nat} (c:Cf) (h1:w.heap.size<=bw/\bw<w1.heap.size) (h2:w.heap.size<=ca/\ca<w1.heap.size) (h3:w.heap.size<=qb/\qb<w1.heap.size) (n1:bw≠ca) (n2:bw≠qb) (n3:ca≠qb) (ho:Only [] w w1)
  (hw:w1.heap[bw]? = some (.cells #[.slice s.pn s.nd.length s.cn,.slice s.pl s.lk.length s.cl,.slice s.pf s.ft.length s.cf,.int .i64 s.un,.int .u64 s.sd,.slice (some ⟨ca,0,none⟩) s.nd.length s.nd.length,.pointer (some ⟨qb,0,none⟩),.slice none 0 0,.int .i64 0,.slice none 0 0,.slice none 0 0] 92 (0,0)))
  (ha:aS ptC 126 1 w1 ca s.nd.length (List.replicate s.nd.length none)) (hq:DC w1 qb [qb] 4096 0 0 []):aU w w1 (DW bw ca qb) s (uL bw ca qb s.nd.length) (pR s.sc c 0):=by
 have hnl:s.sc.nd.length=s.nd.length:=by unfold dU.sc;simp
 have cw:DW bw ca qb bw=some .W:=by unfold DW;rw[if_pos rfl]
 have cc:DW bw ca qb ca=some .A:=by unfold DW;rw[if_neg (Ne.symm n1),if_pos rfl]
 have cq:DW bw ca qb qb=some .Q:=by unfold DW;rw[if_neg (Ne.symm n2),if_neg (Ne.symm n3),if_pos rfl]
 refine⟨ho,fun b t hb=>?_,⟨cw,hw⟩,⟨cc,by simp[uL],?_⟩,⟨?_,fun i q1 q2=>?_⟩,⟨hq,fun b hb=>by rw[List.mem_singleton.1 hb];exact cq,fun e=>by simp[uL,pR],by simp[uL,pR]⟩,⟨bU _ _,fun g hg=>by simp[uL,Value.ownBlock] at hg⟩,⟨by simp[uL,pR],fun x hx=>absurd hx (by simp[pR])⟩,⟨bU _ _,fun g hg=>by simp[uL,Value.ownBlock] at hg⟩,⟨bU _ _,fun g hg=>by simp[uL,Value.ownBlock] at hg⟩⟩
 ·unfold DW at hb
  split at hb
  ·rename_i e;subst e;exact h1
  ·split at hb
   ·rename_i e;subst e;exact h2
   ·split at hb
    ·rename_i e;subst e;exact h3
    ·cases hb
 ·have e:(uL bw ca qb s.nd.length).pl.map (Option.map Pl.bc)=List.replicate s.nd.length none:=by simp[uL]
  rw[e];exact ha
 ·simp[uL,pR,hnl]
 ·have e1:(uL bw ca qb s.nd.length).pl[i]=none:=by simp[uL]
  have e2:(pR s.sc c 0).cl[i]=none:=by simp[pR]
  rw[e1,e2];trivial
end
end Go.Proofs.YtppjhbjmfkiejaaGreat
