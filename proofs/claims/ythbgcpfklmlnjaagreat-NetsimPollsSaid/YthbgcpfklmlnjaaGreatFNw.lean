/- Nw Nx Ny -/
import Derived.Test.YthbgcpfklmlnjaaGreatFNt
import Derived.Test.YthbgcpfklmlnjaaGreatFNo
import Derived.Test.YthbgcpfklmlnjaaGreatFJl
namespace Go.Proofs.YthbgcpfklmlnjaaGreat
set_option linter.all false
open List (getD_eq_getElem?_getD length_append map_cons mem_cons_of_mem mem_cons_self mem_singleton pairwise_cons sum_cons)
open Go.RowKit Go.Sort
section
variable {w0 w w1:World} {own:Col} {s:dU} {p:j5} {st:bS}
theorem aT.cli (h:aT w0 w own s p st) {i:Nat} {P P':Pl} {c c':Cl} (hp:p.pl[i]? = some (some P)) (hc:st.cl[i]? = some (some c)) (h':bP w1 P' c') (hb:P'.bc=P.bc) (hP:∀ b∈P'.all,b∈P.all\/w.heap.size<=b) (ho:Only P.all w w1) :
  aT w0 w1 (dG own P'.all (.C i)) s { p with pl:=p.pl.set i (some P') } { st with cl:=st.cl.set i (some c') }:=by
 have hi:=(List.getElem?_eq_some_iff.1 hp).1;have hj:=(List.getElem?_eq_some_iff.1 hc).1
 have hC:∀ b∈P.all,own b=some (.C i):=by
  have:=h.ca.2 i hi hj;rw[(List.getElem?_eq_some_iff.1 hp).2,(List.getElem?_eq_some_iff.1 hc).2] at this;exact this.2
 have hq:∀ b∈P'.all,own b=some (.C i)\/w.heap.size<=b:=fun b hb=>(hP b hb).imp (hC b) id;have hx:=h.kM hq;have no:∀ {t:Tag},t≠ .C i->∀ x∈P.all,own x≠some t:=fun ht x hx q=>ht (by rw[hC x hx] at q;exact (Option.some.inj q).symm);refine⟨h.only.trans ho fun x hx=>.inr (h.lt x _ (hC x hx)).1,h.nL ho.size hq h'.lt,?_,?_,?_,?_,?_,?_,?_,?_⟩
 ·exact (h.wa.kept ho (no (by simp))).ext hx
 ·have:=(h.aa.kept ho (no (by simp))).ext hx
  refine⟨this.1,by simpa using this.2.1,?_⟩
  have e:(p.pl.set i (some P')).map (Option.map Pl.bc)=p.pl.map (Option.map Pl.bc):=by
   rw[List.map_set];refine List.ext_getElem (by simp) fun j h1 h2=>?_;rw[List.getElem_set];split
   ·rename_i hij
    subst hij;rw[List.getElem_map,(List.getElem?_eq_some_iff.1 hp).2];simp[hb]
   ·rfl
  rw[e];exact this.2.2
 ·refine⟨by simpa using h.ca.1,fun j h1 h2=>?_⟩
  rw[List.getElem_set,List.getElem_set];by_cases hij:i=j
  ·subst hij
   rw[if_pos rfl,if_pos rfl];exact⟨h',fun b hb=>iB hb⟩
  ·rw[if_neg hij,if_neg hij]
   have:=h.ca.2 j (by simpa using h1) (by simpa using h2);revert this
   cases p.pl[j]'(by simpa using h1)<;>cases st.cl[j]'(by simpa using h2)<;>dsimp only
   ·exact id
   ·exact id
   ·exact id
   ·rintro⟨q1,q2⟩
    exact⟨q1.off ho fun b hb hm=>hij (by have:=hC b hm;rw[q2 b hb] at this;cases this;rfl),fun b hb=>hx _ _ (q2 b hb)⟩
 ·exact (h.qa.kept ho (no (by simp))).ext hx
 ·exact (h.ev.kept ho (no (by simp))).ext hx
 ·exact (h.ea.kept ho fun x hx y _ j _=>no (by simp) x hx).ext hx
 ·exact (h.ms.kept ho (no (by simp))).ext hx
 ·exact (h.ls.kept ho (no (by simp))).ext hx
theorem aT.off (h:aT w0 w own s p st) {b j:Nat} (hb:own b=some (.V j)) (hj:∀ x∈st.q,x.x≠j) (ho:Only [b] w w1):aT w0 w1 own s p st:=by
 have no:∀ {t:Tag},t≠ .V j->∀ x∈[b],own x≠some t:=fun ht x hx q=>ht (by rw[mem_singleton.1 hx,hb] at q;exact (Option.some.inj q).symm);refine⟨h.only.trans ho fun x hx=>.inr (by rw[mem_singleton.1 hx];exact (h.lt b _ hb).1),fun b t q=>⟨(h.lt b t q).1,Nat.lt_of_lt_of_le (h.lt b t q).2 ho.size⟩,?_,?_,?_,?_,?_,?_,?_,?_⟩
 ·exact h.wa.kept ho (no (by simp))
 ·exact h.aa.kept ho (no (by simp))
 ·exact h.ca.kept ho fun x hx i=>no (by simp) x hx
 ·exact h.qa.kept ho (no (by simp))
 ·exact h.ev.kept ho (no (by simp))
 ·exact h.ea.kept ho fun x hx y hy i hi=>no (by intro e;cases e;exact hj y hy hi) x hx
 ·exact h.ms.kept ho (no (by simp))
 ·exact h.ls.kept ho (no (by simp))
theorem aT.cnt (h:aT w0 w own s p st) {n:Int} (ho:Only [p.bw] w w1) (hw:Q8 w1 own s p { st with sent:=n }):aT w0 w1 own s p { st with sent:=n }:=by
 have hb:=h.wa.1;have no:∀ {t:Tag},t≠ .W->∀ x∈[p.bw],own x≠some t:=fun ht x hx q=>ht (by rw[mem_singleton.1 hx,hb] at q;exact (Option.some.inj q).symm);refine⟨h.only.trans ho fun x hx=>.inr (by rw[mem_singleton.1 hx];exact (h.lt _ _ hb).1),fun b t q=>⟨(h.lt b t q).1,Nat.lt_of_lt_of_le (h.lt b t q).2 ho.size⟩,hw,?_,?_,?_,?_,?_,?_,?_⟩
 ·exact h.aa.kept ho (no (by simp))
 ·exact h.ca.kept ho fun x hx i=>no (by simp) x hx
 ·exact h.qa.kept ho (no (by simp))
 ·exact h.ev.kept ho (no (by simp))
 ·exact h.ea.kept ho fun x hx y _ i _=>no (by simp) x hx
 ·exact h.ms.kept ho (no (by simp))
 ·exact h.ls.kept ho (no (by simp))
theorem X7 {α:Type} {enc:α->List Value} {e:TypeId} {s B:Nat} {w:World} {v:Value} {l:List α} (h:Own enc e s B w v l):∀ k∈v.ownBlock.toList,B<=k/\k<w.heap.size:=fun k hk=>by
 rcases h with ⟨rfl,_⟩|⟨g,cap,rfl,q1,q2⟩
 ·simp[Value.ownBlock] at hk
 ·simp only[Value.ownBlock,Option.toList_some,mem_singleton] at hk
  subst hk;exact⟨q1,q2.lt⟩
theorem aT.mrk (h:aT w0 w own s p st) {S:List Nat} {v':Value} {x:RB} (ho:Only S w w1) (hS:∀ x∈S,own x=some .M\/own x=some .W) (hv:Own YE 61 9 w0.heap.size w1 v' (st.mks ++ [x])) (hvb:∀ k∈v'.ownBlock.toList,k∈p.vm.ownBlock.toList\/w.heap.size<=k)
  (hw:Q8 w1 own s { p with vm:=v' } st):aT w0 w1 (dG own v'.ownBlock.toList .M) s { p with vm:=v' } { st with mks:=st.mks ++ [x] }:=by
 have hq:∀ b∈v'.ownBlock.toList,own b=some .M\/w.heap.size<=b:=fun b hb=>(hvb b hb).imp (h.ms.2 b) id;have hx:=h.kM hq
 have no:∀ {t:Tag},t≠ .M->t≠ .W->∀ x∈S,own x≠some t:=fun h1 h2 x hx q=>by
  rcases hS x hx with q'|q'<;>rw[q] at q'
  ·exact h1 (Option.some.inj q')
  ·exact h2 (Option.some.inj q')
 refine⟨h.only.trans ho fun x hx=>.inr (by rcases hS x hx with q|q<;>exact (h.lt x _ q).1),h.nL ho.size hq fun b hb=>(X7 hv b hb).2,?_,?_,?_,?_,?_,?_,?_,?_⟩
 ·exact⟨hx _ _ hw.1,hw.2⟩
 ·exact (h.aa.kept ho (no (by simp) (by simp))).ext hx
 ·exact (h.ca.kept ho fun x hx i=>no (by simp) (by simp) x hx).ext hx
 ·exact (h.qa.kept ho (no (by simp) (by simp))).ext hx
 ·exact (h.ev.kept ho (no (by simp) (by simp))).ext hx
 ·exact (h.ea.kept ho fun x hx y _ i _=>no (by simp) (by simp) x hx).ext hx
 ·exact⟨hv,fun b hb=>iB hb⟩
 ·exact (h.ls.kept ho (no (by simp) (by simp))).ext hx
theorem aT.ent (h:aT w0 w own s p st) {S:List Nat} {v':Value} {x:Ent} (ho:Only S w w1) (hS:∀ x∈S,own x=some .L\/own x=some .W) (hv:Own lgC 151 6 w0.heap.size w1 v' (st.lgs ++ [x])) (hvb:∀ k∈v'.ownBlock.toList,k∈p.vl.ownBlock.toList\/w.heap.size<=k)
  (hw:Q8 w1 own s { p with vl:=v' } st):aT w0 w1 (dG own v'.ownBlock.toList .L) s { p with vl:=v' } { st with lgs:=st.lgs ++ [x] }:=by
 have hq:∀ b∈v'.ownBlock.toList,own b=some .L\/w.heap.size<=b:=fun b hb=>(hvb b hb).imp (h.ls.2 b) id;have hx:=h.kM hq
 have no:∀ {t:Tag},t≠ .L->t≠ .W->∀ x∈S,own x≠some t:=fun h1 h2 x hx q=>by
  rcases hS x hx with q'|q'<;>rw[q] at q'
  ·exact h1 (Option.some.inj q')
  ·exact h2 (Option.some.inj q')
 refine⟨h.only.trans ho fun x hx=>.inr (by rcases hS x hx with q|q<;>exact (h.lt x _ q).1),h.nL ho.size hq fun b hb=>(X7 hv b hb).2,?_,?_,?_,?_,?_,?_,?_,?_⟩
 ·exact⟨hx _ _ hw.1,hw.2⟩
 ·exact (h.aa.kept ho (no (by simp) (by simp))).ext hx
 ·exact (h.ca.kept ho fun x hx i=>no (by simp) (by simp) x hx).ext hx
 ·exact (h.qa.kept ho (no (by simp) (by simp))).ext hx
 ·exact (h.ev.kept ho (no (by simp) (by simp))).ext hx
 ·exact (h.ea.kept ho fun x hx y _ i _=>no (by simp) (by simp) x hx).ext hx
 ·exact (h.ms.kept ho (no (by simp) (by simp))).ext hx
 ·exact⟨hv,fun b hb=>iB hb⟩
end
section
def mV (r:FB):Prop:=0<=r.ref/\r.ref<=4294967295
structure LG (c:Cl):Prop where
 rt:mV c.rt
 src:∀ s∈c.srcs,mV s.rt
theorem z32:(0:Int)<=0/\(0:Int)<=4294967295:=by decide
theorem z64:(0:Int)<=0/\(0:Int)<=18446744073709551615:=by decide
theorem sV:mV LC:=⟨by decide,by decide⟩
theorem YB (p:Np) (s:iM) {id:Int} (h0:0<=id) (h1:id<=4294967295):mV (uX p s id).1:=by
 unfold uX;split
 ·split
  ·split
   ·exact⟨h0,h1⟩
   ·exact sV
  ·exact sV
 ·exact sV
theorem VP {s:Sr} {i:Int} {p:Np} {q:Qd} {prec tol:Int} (h:mV s.rt) (h0:0<=i) (h1:i<=4294967295):mV (mE s i p q prec tol).rt:=by
 unfold mE;split
 ·split
  ·exact YB _ _ h0 h1
  ·exact h
 ·exact h
theorem RP {s:Sr} {iv:Iv} {raw tol:Int}:(iO s iv raw tol).rt=s.rt:=by
 unfold iO;split
 ·split<;>rfl
 ·rfl
theorem VK {s:Sr} {i:Int} {p:Np} {iv:Iv} {has:Bool} {raw now prec tol:Int} (h:mV s.rt) (h0:0<=i) (h1:i<=100):mV (j6 s i p iv has raw now prec tol).2.rt:=by
 unfold j6;split
 ·exact h
 ·split
  ·refine VP ?_ (by omega) (by omega)
   split
   ·rw[RP];exact h
   ·exact h
  ·exact h
theorem VH {s:Sr} {raw now nonce:Int}:(gZ s raw now nonce).2.2.rt=s.rt:=by
 unfold gZ;split<;>rfl
theorem N7 {l:List Sr} {i:Nat} {c:Cf} (h:∀ x∈l,mV x.rt):mV (l.getD i (o9 c)).rt:=by
 by_cases hi:i<l.length
 ·rw[getD_eq_getElem?_getD,List.getElem?_eq_getElem hi];exact h _ (List.getElem_mem hi)
 ·rw[getD_eq_getElem?_getD,List.getElem?_eq_none (by omega)];exact sV
theorem VR {l:List Sr} {i:Nat} {s:Sr} (h:∀ x∈l,mV x.rt) (hs:mV s.rt):∀ x∈l.set i s,mV x.rt:=fun x hx=>by
 rcases List.mem_or_eq_of_mem_set hx with q|rfl
 ·exact h x q
 ·exact hs
theorem nQ (c:Cl) (raw:Int):(aH c raw).2.2.rt=c.rt/\(aH c raw).2.2.srcs=c.srcs:=by
 unfold aH;split<;>exact⟨rfl,rfl⟩
theorem LG.send {c:Cl} (h:LG c) (server raw nonce:Int):LG (dL c server raw nonce).2:=by
 unfold dL;split
 ·split
  ·exact⟨by show mV (aH c raw).2.2.rt;rw[(nQ c raw).1];exact h.rt,VR h.src (by rw[VH];exact N7 h.src)⟩
  ·exact h
 ·exact h
theorem LG.recv {c:Cl} (h:LG c) (hn:c.srcs.length<=12) (server:Int) (p:Np) (iv:Iv) (has:Bool) (raw:Int):LG (fF c server p iv has raw).2:=by
 unfold fF;split
 ·rename_i hw
  have:=aW.1 hw;split
  ·exact⟨by show mV (aH c raw).2.2.rt;rw[(nQ c raw).1];exact h.rt,VR h.src (VK (N7 h.src) (by omega) (by omega))⟩
  ·exact h
 ·exact h
theorem UR {c:Cl} (h:LG c) (raw:Int):LG (fH c raw):=
 ⟨by show mV (aH c raw).2.2.rt;rw[(nQ c raw).1];exact h.rt,by show ∀ s∈(aH c raw).2.2.srcs,_;rw[(nQ c raw).2];exact h.src⟩
theorem strM_rt {c:Cl} {now off:Int} {kept:List Cd} (h:LG c):LG (pK c now off kept):=by
 have hs:∀ s∈DW off (wK kept) kept c.srcs,mV s.rt:=zO (p:=fun s=>mV s.rt) (fun s hs=>hs) _ _ h.src;refine⟨?_,hs⟩;show mV (D6 (DW off (wK kept) kept c.srcs) kept)
 unfold D6;split
 ·rename_i s hq
  exact hs s (List.mem_of_getElem? hq)
 ·exact sV
theorem strC_rt {c:Cl} {raw now off:Int} {kept:List Cd} (h:LG c):LG (iV c raw now off kept).2.2:=by
 have hm:=strM_rt (now:=now) (off:=off) (kept:=kept) h;unfold iV;split
 ·split
  ·dsimp only
   split
   ·refine⟨hm.rt,fun s hs=>?_⟩
    obtain⟨y,hy,rfl⟩:=List.mem_map.1 hs;exact hm.src y hy
   ·exact⟨hm.rt,hm.src⟩
  ·exact⟨hm.rt,hm.src⟩
 ·exact⟨h.rt,h.src⟩
theorem LG.upd {c c':Cl} {raw er:Int} {a:Ac} (h:LG c) (hu:yQ c raw a er c'):LG c':=by
 rcases hu with ⟨_,_,_,rfl⟩|⟨_,⟨_,_,_,rfl⟩|⟨ins,hv,_,_,hs⟩⟩
 ·exact⟨by rw[(nQ c raw).1];exact h.rt,by rw[(nQ c raw).2];exact h.src⟩
 ·exact UR h raw
 ·have:c'=(iV (fH c raw) raw (aH c raw).1 (gU (mK c raw ins)) (mK c raw ins)).2.2:=by rw[<-hs]
  rw[this];exact strC_rt (UR h raw)
theorem VD {l:List Cd} (h:F3 l≠0):¬ Gd l\/sel l=none:=by
 by_cases hg:Gd l
 ·right
  cases hs:sel l with
  | none=>rfl
  | some x=>exact absurd (RO hg hs) h
 ·exact .inl hg
theorem yQ.R {c c':Cl} {raw er:Int} {a:Ac} (h:yQ c raw a er c'):UpdR c raw a er c':=by
 rcases h with h|⟨h1,⟨h2,h3,h4,h5⟩|h⟩
 ·exact .inl h
 ·exact .inr ⟨h1,.inl ⟨h2,h4,h5,VD (h3 ▸ h2)⟩⟩
 ·exact .inr ⟨h1,.inr h⟩
structure xP (c:Cl):Prop where
 u:pJ c
 r:LG c
theorem xP.len {c:Cl} (h:xP c):c.srcs.length<=12:=by have:=h.u.ok.len;have:=h.u.ok.s1;omega
theorem xP.send {c:Cl} (h:xP c) (server raw nonce:Int):xP (dL c server raw nonce).2:=⟨h.u.send _ _ _,h.r.send _ _ _⟩
theorem xP.recv {c:Cl} (h:xP c) (server:Int) {p:Np} (hp:eP p) (iv:Iv) (has:Bool) (raw:Int):xP (fF c server p iv has raw).2:=⟨h.u.recv _ hp _ _ _,h.r.recv h.len _ _ _ _ _⟩
theorem xP.upd {c c':Cl} {raw er:Int} {a:Ac} (h:xP c) (hu:yQ c raw a er c'):xP c':=⟨(h.u.upd hu.R).1,h.r.upd hu⟩
theorem xP.new {c:Cf} {raw:Int} (h:fG c=0) (hr:fI raw=true):xP (G9 c raw raw):=by
 have h0:=pJ.new h;refine⟨⟨r9.new hr hr (nS h).1,h0.sv,h0.g,h0.tol,h0.kp,h0.rd⟩,z32,fun s hs=>?_⟩;obtain rfl:=(List.mem_replicate.1 hs).2;exact sV
theorem JR (t:Int):0<=lU t/\lU t<=18446744073709551615:=by unfold lU;omega
theorem jV:eP yC:=by unfold eP yC;decide
theorem eP.xm {p:Np} {x:Int} (h:eP p) (h0:0<=x) (h1:x<=18446744073709551615):eP { p with xmt:=x }:=⟨h.1,h.2.1,h.2.2.1,h.2.2.2.1,h.2.2.2.2.1,⟨h0,h1⟩,h.2.2.2.2.2.2⟩
theorem eP.rc {p:Np} {x:Int} (h:eP p) (h0:0<=x) (h1:x<=18446744073709551615):eP { p with rcv:=x }:=⟨h.1,h.2.1,h.2.2.1,h.2.2.2.1,⟨h0,h1⟩,h.2.2.2.2.2⟩
theorem Z9 {a:As} {now nonce:Int} (h0:0<=nonce) (h1:nonce<=18446744073709551615):eP (lK a now nonce).1:=by
 unfold lK;split
 ·split
  ·exact jV
  ·split
   ·exact jV
   ·exact (show eP { yC with ver:=a.ver,mode:=3 } from jV).xm h0 h1
 ·exact jV
theorem VI {s:Sr} {raw now nonce:Int} (h0:0<=nonce) (h1:nonce<=18446744073709551615):eP (gZ s raw now nonce).1:=by
 unfold gZ;split
 ·exact Z9 h0 h1
 ·exact jV
theorem TN {c:Cl} {server raw nonce:Int} (h0:0<=nonce) (h1:nonce<=18446744073709551615):eP (dL c server raw nonce).1.1:=by
 unfold dL;split
 ·split
  ·exact VI h0 h1
  ·exact jV
 ·exact jV
theorem VT {p:Np} {t:Int} {r:FB} (hp:eP p) (hr:mV r) (h0:0<=t) (h1:t<=18446744073709551615):eP (xY p t r).1:=by
 unfold xY;split
 ·split
  ·refine⟨?_,?_,hr,hp.2.2.2.2.2.1,⟨h0,h1⟩,⟨h0,h1⟩,z64⟩<;>dsimp only<;>unfold qP<;>(repeat' split)<;>first|exact shoF_u _|exact z32
  ·exact jV
 ·exact jV
theorem xor_u (a b:Int):0<=bits .xor .u64 a b/\bits .xor .u64 a b<=18446744073709551615:=by
 have h:∀ x:Int,0<=IntKind.u64.wrap x/\IntKind.u64.wrap x<=18446744073709551615:=fun x=>by rw[IntKind.wrap_u64];omega
 exact h _
theorem frg_np {t:Int} {g:Fg} {f:Ft} (h:eP g.hd):eP (gH t g f).hd:=by
 have shd:∀ s v x,iW s v t=some x->0<=x/\x<=18446744073709551615:=fun s v x hx=>by
  unfold iW at hx;split at hx
  ·cases hx;exact JR _
  ·cases hx
 have sR:∀ (g:Fg) s v,eP g.hd->eP (g.vZ (iW s v t)).hd:=fun g s v h=>by
  cases hq:iW s v t with
  | none=>exact h
  | some x=>exact h.rc (shd _ _ _ hq).1 (shd _ _ _ hq).2
 have sX:∀ (g:Fg) s v,eP g.hd->eP (g.FW (iW s v t)).hd:=fun g s v h=>by
  cases hq:iW s v t with
  | none=>exact h
  | some x=>exact h.xm (shd _ _ _ hq).1 (shd _ _ _ hq).2
 have sI:∀ (g:Fg) o,(g.xW o).hd=g.hd:=fun g o=>by cases o<;>rfl
 unfold gH;split
 ·exact h
 ·split
  ·dsimp only;rw[sI];exact sX _ _ _ (sR _ _ _ h)
  ·split
   ·rw[sI];exact h
   ·split
    ·exact h
    ·split
     ·exact h
     ·split
      ·exact h
      ·split
       ·exact⟨h.1,h.2.1,h.2.2.1,xor_u _ _,h.2.2.2.2⟩
       ·split
        ·exact⟨h.1,h.2.1,(by decide:(0:Int)<=1380013125/\(1380013125:Int)<=4294967295),h.2.2.2⟩
        ·split<;>exact h
theorem app_np {l:List Ft} {n t:Int} {p:Np} {v:Iv} (h:eP p):eP (lV l n t p v).hd:=by
 unfold lV
 have key:∀ (l:List Ft) (g:Fg),eP g.hd->eP (l.foldl (gH t) g).hd:=by
  intro l;induction l with
  | nil=>exact fun _ h=>h
  | cons f r ih=>exact fun g h=>ih _ (frg_np h)
 exact key _ _ h
end
section
def pQ (n:Nd):Bool:=!n.rf && decide (0<n.sv.length)
def nV (s:fC) (t:zP):Prop:=(∃ i j:Nat,t.c=i/\t.s=j/\i<s.nd.length/\j<s.nd.length/\pQ (bJ s i)=true)/\0<=t.n/\t.n<=1000000000
def C8 (s:fC):EvS->Prop
 | .poll t=>nV s t
 | .req t h=>nV s t/\eP h
 | .dep t h _=>nV s t/\eP h
 | .rep t h _=>nV s t/\eP h
def TG:EvS:=.poll ⟨0,0,0,0⟩
def DC (un t:Int):EvS->Nat
 | .poll _=>14*((un-t) / 16000000000+1).toNat
 | .req _ _=>9
 | .dep _ _ _=>6
 | .rep _ _ _=>3
def phi (s:fC) (ev:List EvS) (q:List Ev):Nat:=(q.map fun x=>DC s.un x.t (ev.getD x.x.toNat TG)).sum
def tot (s:fC) (st:bS):Nat:=st.ev.length+st.sent.toNat+st.mks.length+st.lgs.length+phi s st.ev st.q
structure eD (s:fC) (st:bS):Prop where
 pu:st.pu=st.ev.length
 tm:0<=st.tm
 srt:aAb st.q
 nd:st.q.Pairwise fun x y=>x.i≠y.i
 q:∀ x∈st.q,1<=x.i/\x.i<=st.pu/\x.x=x.i-1/\st.tm<=x.t/\x.t<=s.un
 ev:∀ e∈st.ev,C8 s e
 cln:st.cl.length=s.nd.length
 cl:∀ (i:Nat) (c:Cl),st.cl[i]? = some (some c)->xP c
 sn:0<=st.sent
def vR (s:fC) (st:bS):Prop:=∀ i:Nat,i<s.nd.length->pQ (bJ s i)=true->∃ c,st.cl[i]? = some (some c)
theorem eD.idx {s:fC} {st:bS} (h:eD s st) {x:Ev} (hx:x∈st.q):x.x.toNat<st.ev.length/\0<=x.x:=by
 have:=h.q x hx;have:=h.pu;omega
theorem OV {s:fC} {ev:List EvS} {e:EvS}:∀ {q:List Ev},(∀ x∈q,x.x.toNat<ev.length)->phi s (ev ++ [e]) q=phi s ev q
 | [],_=>rfl
 |x::r,h=>by
  have ih:=OV (s:=s) (e:=e) (q:=r) fun y hy=>h y (mem_cons_of_mem _ hy);have hx:=h x (mem_cons_self ..)
  have hg:(ev ++ [e]).getD x.x.toNat TG=ev.getD x.x.toNat TG:=by
   rw[getD_eq_getElem?_getD,getD_eq_getElem?_getD,List.getElem?_append_left hx]
  unfold phi at ih |-;rw[map_cons,sum_cons,map_cons,sum_cons,ih,hg]
theorem OT {s:fC} {ev:List EvS} {x:Ev}:∀ {q:List Ev},phi s ev (pO x q)=phi s ev q+DC s.un x.t (ev.getD x.x.toNat TG)
 | []=>by simp[pO,phi]
 |y::r=>by
  have ih:=OT (s:=s) (ev:=ev) (x:=x) (q:=r);unfold pO;split
  ·unfold phi at ih |-
   rw[map_cons,sum_cons,map_cons,sum_cons,ih];omega
  ·unfold phi
   rw[map_cons,sum_cons];omega
theorem eG (s:fC) (st:bS) (t:Int) (e:EvS):(eX s st t e).cl=st.cl/\(eX s st t e).sent=st.sent/\(eX s st t e).mks=st.mks/\(eX s st t e).lgs=st.lgs/\(eX s st t e).tm=st.tm:=by
 unfold eX;split
 ·exact⟨rfl,rfl,rfl,rfl,rfl⟩
 ·split<;>exact⟨rfl,rfl,rfl,rfl,rfl⟩
theorem OH {e:Ev}:∀ {q:List Ev},q.Pairwise (fun x y=>x.i≠y.i)->(∀ x∈q,x.i≠e.i)->(pO e q).Pairwise fun x y=>x.i≠y.i
 | [],_,_=>by simp[pO]
 |x::r,h,hi=>by
  obtain⟨h1,h2⟩:=pairwise_cons.1 h;unfold pO;split
  ·refine pairwise_cons.2 ⟨fun y hy=>?_,OH h2 fun y hy=>hi y (mem_cons_of_mem _ hy)⟩
   rcases kQ.1 hy with rfl|hy
   ·exact hi x (mem_cons_self ..)
   ·exact h1 y hy
  ·exact pairwise_cons.2 ⟨fun y hy=>Ne.symm (hi y hy),h⟩
theorem LZ {lim tm:Int} {n:Nat} {t:Int} (h:fJ lim tm n t=0):0<=t/\tm<=t/\(n:Int)<lim:=by
 unfold fJ at h;split at h
 ·exact absurd h (by decide)
 ·split at h
  ·exact absurd h (by decide)
  ·split at h
   ·exact absurd h (by decide)
   ·omega
theorem eD.sch {s:fC} {st:bS} (h:eD s st) (t:Int) {e:EvS} (he:C8 s e):eD s (eX s st t e):=by
 unfold eX;split
 ·exact h
 ·rename_i hu
  split
  ·rename_i hp
   have hp:=LZ hp;have hpu:=h.pu;refine⟨by dsimp only;rw[hpu,length_append];rfl,h.tm,JC h.srt fun x hx=>?_,OH h.nd fun x hx=>?_,fun x hx=>?_,fun x hx=>?_,h.cln,h.cl,h.sn⟩
   ·have:=h.q x hx
    dsimp only;omega
   ·have:=h.q x hx
    dsimp only;omega
   ·rcases kQ.1 hx with rfl|hx
    ·dsimp only;omega
    ·have:=h.q x hx
     dsimp only;omega
   ·rcases List.mem_append.1 hx with hx|hx
    ·exact h.ev x hx
    ·rw[mem_singleton.1 hx];exact he
  ·exact h
theorem uP {s:fC} {st:bS} (h:eD s st) (t:Int) (e:EvS):tot s (eX s st t e)<=tot s st+(if t<=s.un then 1+DC s.un t e else 0):=by
 unfold eX;split
 ·omega
 ·rename_i hu
  rw[if_pos (show t<=s.un by omega)];split
  ·unfold tot
   dsimp only;rw[OT,OV fun x hx=>(h.idx hx).1]
   have:(st.ev ++ [e]).getD ((st.ev.length:Int)).toNat TG=e:=by
    rw[Int.toNat_natCast,getD_eq_getElem?_getD];simp
   rw[this,length_append,List.length_singleton];dsimp only;omega
  ·omega
theorem eD.note {s:fC} {st:bS} (h:eD s st) (e:EvS) (t:Int):eD s (iP s st e t):=⟨h.pu,h.tm,h.srt,h.nd,h.q,h.ev,h.cln,h.cl,h.sn⟩
theorem kY (s:fC) (st:bS) (e:EvS) (t:Int):tot s (iP s st e t)=tot s st+1:=by
 unfold iP tot;dsimp only;rw[length_append,List.length_singleton];omega
theorem eD.set {s:fC} {st:bS} (h:eD s st) (i:Int) {c:Cl} (hc:xP c):eD s (dO st i c):=by
 refine⟨h.pu,h.tm,h.srt,h.nd,h.q,h.ev,by unfold dO;dsimp only;rw[List.length_set];exact h.cln,fun j d hd=>?_,h.sn⟩;unfold dO at hd;dsimp only at hd;rw[List.getElem?_set] at hd;split at hd
 ·split at hd
  ·cases hd;exact hc
  ·cases hd
 ·exact h.cl j d hd
theorem vR.set {s:fC} {st:bS} (h:vR s st) (i:Int) (c:Cl):vR s (dO st i c):=by
 intro j hj hc;unfold dO;dsimp only;rw[List.getElem?_set];split
 ·rename_i hij
  obtain⟨d,hd⟩:=h j hj hc;rw[if_pos (by have:=(List.getElem?_eq_some_iff.1 hd).1;omega)];exact⟨c,rfl⟩
 ·exact h j hj hc
theorem vR.eq {s:fC} {st st':bS} (h:vR s st) (he:st'.cl=st.cl):vR s st':=fun j hj hc=>by rw[he];exact h j hj hc
theorem rM {st:bS} {i:Nat} {c:Cl}:gQ st i=some c↔st.cl[i]? = some (some c):=by
 unfold gQ;rw[Int.toNat_natCast,getD_eq_getElem?_getD]
 cases st.cl[i]? <;> simp
theorem eD.of {s:fC} {st:bS} (h:eD s st) {i:Int} {c:Cl} (hc:gQ st i=some c):xP c:=by
 unfold gQ at hc;rw[getD_eq_getElem?_getD] at hc
 cases hq:st.cl[i.toNat]? with
 | none=>rw[hq] at hc;cases hc
 | some o=>rw[hq] at hc;exact h.cl _ _ (by rw[hq];exact congrArg some hc)
theorem eD.pop {s:fC} {st:bS} (h:eD s st) {x:Ev} {r:List Ev} (hq:st.q=x::r):eD s { st with q:=r,tm:=x.t }/\st.ev[x.x.toNat]? = some (st.ev.getD x.x.toNat TG)/\C8 s (st.ev.getD x.x.toNat TG) /\
  tot s st=tot s { st with q:=r,tm:=x.t }+DC s.un x.t (st.ev.getD x.x.toNat TG)/\0<=x.t/\x.t<=s.un/\∀ y∈r,y.x≠x.x:=by
 have hs:=h.srt;have hd:=h.nd;rw[hq] at hs hd;obtain⟨d1,d2⟩:=pairwise_cons.1 hd;obtain⟨h1,h2⟩:=pairwise_cons.1 hs;have hx:=h.q x (by rw[hq];exact mem_cons_self ..);have hi:=h.idx (x:=x) (by rw[hq];exact mem_cons_self ..);have ht:=h.tm
 have hg:st.ev[x.x.toNat]? = some (st.ev.getD x.x.toNat TG):=by
  rw[getD_eq_getElem?_getD,List.getElem?_eq_getElem hi.1];rfl
 refine⟨⟨h.pu,by dsimp only;omega,h2,d2,fun y hy=>?_,h.ev,h.cln,h.cl,h.sn⟩,hg,h.ev _ (List.mem_of_getElem? hg),?_,by omega,hx.2.2.2.2,fun y hy=>?_⟩
 ·have:=h.q y (by rw[hq];exact mem_cons_of_mem _ hy)
  have:=h1 y hy;dsimp only;omega
 ·unfold tot phi
  rw[hq];dsimp only;rw[map_cons,sum_cons];omega
 ·have:=h.q y (by rw[hq];exact mem_cons_of_mem _ hy)
  have:=d1 y hy;omega
theorem arv_ev {s:fC} {e:EvS} (h:C8 s e):nV s e.trp:=by
 cases e<;>first|exact h|exact h.1
theorem nV.num {s:fC} {t:zP} (h:nV s t) {n:Int} (h0:0<=n) (h1:n<=1000000000):nV s ⟨t.c,t.i,t.s,n⟩:=⟨h.1,h0,h1⟩
theorem eD.cnt {s:fC} {st:bS} (h:eD s st):eD s { st with sent:=st.sent+1 }:=⟨h.pu,h.tm,h.srt,h.nd,h.q,h.ev,h.cln,h.cl,by have:=h.sn;dsimp only;omega⟩
theorem cnt_tot {s:fC} {st:bS} (h:eD s st):tot s { st with sent:=st.sent+1 }=tot s st+1:=by
 have:=h.sn;unfold tot;dsimp only;omega
theorem yV (s:fC) (st:bS) (i:Int) (c:Cl):tot s (dO st i c)=tot s st:=rfl
theorem eD.mark {s:fC} {st:bS} (h:eD s st) (l:List RB):eD s { st with mks:=l }:=⟨h.pu,h.tm,h.srt,h.nd,h.q,h.ev,h.cln,h.cl,h.sn⟩
theorem eD.poll {R:List (Int × Int)} {s:fC} {st:bS} (h:eD s st) (hF:vR s st) {t:Int} (ht:t<=s.un) {p:zP} (he:nV s p) (hn:st.sent<=1000000000) :
  eD s (pF R s st t p)/\vR s (pF R s st t p)/\tot s (pF R s st t p)+1<=tot s st+DC s.un t (.poll p):=by
 obtain⟨e1,e2,e3,e4,e5⟩:=eG s st (t+16000000000) (.poll ⟨p.c,p.i,p.s,0⟩);have k1:eD s (eX s st (t+16000000000) (.poll ⟨p.c,p.i,p.s,0⟩)):=h.sch _ (he.num (Int.le_refl _) (by decide));have f1:vR s (eX s st (t+16000000000) (.poll ⟨p.c,p.i,p.s,0⟩)):=hF.eq e1
 have t1:tot s (eX s st (t+16000000000) (.poll ⟨p.c,p.i,p.s,0⟩))+13<=tot s st+DC s.un t (.poll p):=by
  have:=uP h (t+16000000000) (.poll ⟨p.c,p.i,p.s,0⟩);split at this<;>simp only[DC] at this |-<;>omega
 unfold pF;generalize eX s st (t+16000000000) (.poll ⟨p.c,p.i,p.s,0⟩)=st1 at *;dsimp only;split
 ·exact⟨k1,f1,by omega⟩
 ·rename_i c hc
  have hm:=wJ (R:=R) s.sd st1.sent;have hnp:=TN (c:=c) (server:=p.i) (raw:=bO s p.c t) (nonce:=max (gL R s.sd st1.sent) 1) (by omega) (by omega);have k2:=k1.set p.c ((k1.of hc).send p.i (bO s p.c t) (max (gL R s.sd st1.sent) 1));have f2:=f1.set p.c (dL c p.i (bO s p.c t) (max (gL R s.sd st1.sent) 1)).2;have t2:=yV s st1 p.c (dL c p.i (bO s p.c t) (max (gL R s.sd st1.sent) 1)).2;have s2:(dO st1 p.c (dL c p.i (bO s p.c t) (max (gL R s.sd st1.sent) 1)).2).sent=st.sent:=e2;generalize dO st1 p.c (dL c p.i (bO s p.c t) (max (gL R s.sd st1.sent) 1)).2=st2 at *;generalize (dL c p.i (bO s p.c t) (max (gL R s.sd st1.sent) 1)).1=r at *;split
  ·have k3:=k2.cnt
   have t3:=cnt_tot k2;have f3:vR s { st2 with sent:=st2.sent+1 }:=f2;generalize ({ st2 with sent:=st2.sent+1 }:bS)=st3 at *;split
   ·refine⟨k3.note _ _,f3,?_⟩
    rw[kY];omega
   ·rename_i u _
    have hs:=h.sn;have he':C8 s (.req ⟨p.c,p.i,p.s,st2.sent⟩ r.1):=⟨he.num (by omega) (by omega),hnp⟩;have k4:=k3.sch u he';have t4:=uP k3 u (.req ⟨p.c,p.i,p.s,st2.sent⟩ r.1);have f4:vR s (eX s st3 u (.req ⟨p.c,p.i,p.s,st2.sent⟩ r.1)):=f3.eq (eG ..).1;refine⟨k4.note _ _,f4,?_⟩;rw[kY];split at t4<;>(try simp only[DC] at t4)<;>omega
  ·exact⟨k2,f2,by omega⟩
theorem ans_np {s:fC} {st:bS} (h:eD s st) {i:Int} (i0:0<=i) (i1:i<=1000000) {p:Np} (hp:eP p) (t:Int):eP (fA s st i p t).1:=by
 have hpr:mV (AU (bJ s i).er (i+1)).1:=by
  unfold AU;split
  ·exact⟨by dsimp only;omega,by dsimp only;omega⟩
  ·exact sV
 unfold fA;split
 ·split
  ·exact VT hp hpr (JR _).1 (JR _).2
  ·exact jV
 ·split
  ·exact jV
  ·rename_i c hc
   split
   ·exact VT hp (h.of hc).r.rt (JR _).1 (JR _).2
   ·exact jV
theorem eD.req {s:fC} {st:bS} (h:eD s st) (hF:vR s st) (hl:s.nd.length<=1000) (t:Int) {p:zP} {q:Np} (he:C8 s (.req p q)) :
  eD s (rQ s st t p q)/\vR s (rQ s st t p q)/\tot s (rQ s st t p q)+1<=tot s st+DC s.un t (.req p q):=by
 unfold rQ;dsimp only
 have hn:eP (fA s st p.s q t).1:=by
  obtain⟨⟨i,j,_,h2,_,h4,_⟩,_⟩:=he.1;exact ans_np h (by omega) (by omega) he.2 t
 generalize fA s st p.s q t=a at *;have hn2:eP (lV s.ft p.s t a.1 a.2.1).hd:=app_np hn;generalize lV s.ft p.s t a.1 a.2.1=g at *
 have key:∀ st1,eD s st1->vR s st1->tot s st1+2<=tot s st+DC s.un t (.req p q)->eD s (iP s st1 (.req p q) t)/\vR s (iP s st1 (.req p q) t)/\tot s (iP s st1 (.req p q) t)+1<=tot s st+DC s.un t (.req p q):=
  fun st1 a b c=>⟨a.note _ _,b,by rw[kY];omega⟩
 refine key _ ?_ ?_ ?_
 ·split
  ·split
   ·exact h
   ·exact h.sch _ (show C8 s (.dep p g.hd g.iv) from ⟨he.1,hn2⟩)
  ·exact h
 ·split
  ·split
   ·exact hF
   ·exact hF.eq (eG ..).1
  ·exact hF
 ·have:=uP h (t+g.hold) (.dep p g.hd g.iv)
  split
  ·split
   ·simp only[DC];omega
   ·split at this<;>simp only[DC] at this |-<;>omega
  ·simp only[DC];omega
theorem eD.dep {R:List (Int × Int)} {s:fC} {st:bS} (h:eD s st) (hF:vR s st) (t:Int) {p:zP} {q:Np} {v:Iv} (he:C8 s (.dep p q v)) :
  eD s (BU R s st t p q v)/\vR s (BU R s st t p q v)/\tot s (BU R s st t p q v)+1<=tot s st+DC s.un t (.dep p q v):=by
 unfold BU;split
 ·exact⟨h.note _ _,hF,by rw[kY];simp only[DC];omega⟩
 ·rename_i u _
  have:=uP h u (.rep p q v);refine⟨(h.sch u (e:=.rep p q v) he).note _ _,hF.eq (eG s st u (.rep p q v)).1,?_⟩;rw[kY];split at this<;>simp only[DC] at this |-<;>omega
theorem eD.rep {s:fC} {st st':bS} (h:eD s st) (hF:vR s st) (t:Int) {p:zP} {q:Np} {v:Iv} (he:C8 s (.rep p q v)) (hr:IK s st t p q v st') :
  eD s st'/\vR s st'/\tot s st'+1<=tot s st+DC s.un t (.rep p q v):=by
 unfold IK at hr;split at hr
 ·exact hr.elim
 ·rename_i c hc
  obtain⟨a,er,c2,hu,rfl⟩:=hr;have k1:=h.set p.c (((h.of hc).recv p.i he.2 v true (bO s p.c t)).upd hu);have f1:=hF.set p.c c2;have t1:=yV s st p.c c2;split
  ·refine⟨(k1.mark _).note _ _,f1,?_⟩
   rw[kY]
   have:∀ m,tot s { dO st p.c c2 with mks:=st.mks ++ [m] }=tot s st+1:=fun m=>by
    unfold tot dO;dsimp only;rw[length_append,List.length_singleton];omega
   rw[this];simp only[DC];omega
  ·refine⟨k1.note _ _,f1,?_⟩
   rw[kY,t1];simp only[DC];omega
theorem yR.inv {R:List (Int × Int)} {s:fC} {st st':bS} (h:eD s st) (hF:vR s st) (hl:s.nd.length<=1000) (hn:tot s st<=1000000000) (hs:yR R s st st'):eD s st'/\vR s st'/\tot s st'+1<=tot s st:=by
 obtain⟨x,r,hq,hx⟩:=hs;obtain⟨k,-,he,ht,h0,h1,-⟩:=h.pop hq;have f:vR s { st with q:=r,tm:=x.t }:=hF;have hsn:st.sent<=1000000000:=by have:=h.sn;unfold tot at hn;omega
 unfold TG at he ht;revert hx
 generalize st.ev.getD x.x.toNat (.poll ⟨0,0,0,0⟩)=e at *;rw[ht]
 cases e with
 | poll p=>rintro rfl;exact k.poll f h1 he hsn
 | req p q=>rintro rfl;exact k.req f hl _ he
 | dep p q v=>rintro rfl;exact k.dep f _ he
 | rep p q v=>exact fun hr=>k.rep f _ he hr
end
end Go.Proofs.YthbgcpfklmlnjaaGreat
