/- Nw Nx Ny O0 O1 -/
import Derived.Test.YtppjhbjmfkiejaaGreatFNo
import Derived.Test.YtppjhbjmfkiejaaGreatFJl
namespace Go.Proofs.YtppjhbjmfkiejaaGreat
set_option linter.all false
open List (getD_eq_getElem?_getD length_append map_cons mem_cons_of_mem mem_cons_self mem_singleton pairwise_cons sum_cons)
set_option maxRecDepth 100000
set_option maxHeartbeats 8000000
open Go.RowKit Go.Sort
open IntKind (wrap)
section
variable {w0 w w1:World} {own:Col} {s:dW} {p:kI} {st:bT}
theorem aX.cli (h:aX w0 w own s p st) {i:Nat} {P P':Pl} {c c':Cl} (hp:p.pl[i]? = some (some P)) (hc:st.cl[i]? = some (some c)) (h':bP w1 P' c') (hb:P'.bc=P.bc) (hP:∀ b∈P'.all,b∈P.all\/w.heap.size<=b) (ho:Oy P.all w w1) :
  aX w0 w1 (dJ own P'.all (.C i)) s { p with pl:=p.pl.set i (some P') } { st with cl:=st.cl.set i (some c') }:=by
 have hi:=(List.getElem?_eq_some_iff.1 hp).1;have hj:=(List.getElem?_eq_some_iff.1 hc).1
 have hC:∀ b∈P.all,own b=some (.C i):=by
  have:=h.ca.2 i hi hj;rw[(List.getElem?_eq_some_iff.1 hp).2,(List.getElem?_eq_some_iff.1 hc).2] at this;exact this.2
 have hq:∀ b∈P'.all,own b=some (.C i)\/w.heap.size<=b:=fun b hb=>(hP b hb).imp (hC b) id;have hx:=h.kW hq;have no:∀ {t:Tag},t≠ .C i->∀ x∈P.all,own x≠some t:=fun ht x hx q=>ht (by rw[hC x hx] at q;exact (Option.some.inj q).symm);refine⟨h.only.trans ho fun x hx=>.inr (h.lt x _ (hC x hx)).1,h.nQ ho.size hq h'.lt,?_,?_,?_,?_,?_,?_,?_,?_⟩
 ·exact (h.wa.kept ho (no (by simp))).ext hx
 ·have:=(h.aa.kept ho (no (by simp))).ext hx
  refine⟨this.1,by simpa using this.2.1,?_⟩
  have e:(p.pl.set i (some P')).map (Option.map Pl.bc)=p.pl.map (Option.map Pl.bc):=by
   rw[List.map_set];refine List.ext_getElem (by simp) fun j h1 h2=>?_;rw[List.getElem_set];split
   ·rename_i hij
    subst hij;rw[List.getElem_map,(List.getElem?_eq_some_iff.1 hp).2];simp[hb]
   ·rfl
  rw[e];exact this.2.2
 ·refine⟨by simpa using h.ca.1,fun j h1 h2=>?_⟩
  rw[List.getElem_set,List.getElem_set];by_cases hij:i=j
  ·subst hij
   rw[if_pos rfl,if_pos rfl];exact⟨h',fun b hb=>iG hb⟩
  ·rw[if_neg hij,if_neg hij]
   have:=h.ca.2 j (by simpa using h1) (by simpa using h2);revert this
   cases p.pl[j]'(by simpa using h1)<;>cases st.cl[j]'(by simpa using h2)<;>dsimp only
   ·exact id
   ·exact id
   ·exact id
   ·rintro⟨q1,q2⟩
    exact⟨q1.off ho fun b hb hm=>hij (by have:=hC b hm;rw[q2 b hb] at this;cases this;rfl),fun b hb=>hx _ _ (q2 b hb)⟩
 ·exact (h.qa.kept ho (no (by simp))).ext hx
 ·exact (h.ev.kept ho (no (by simp))).ext hx
 ·exact (h.ea.kept ho fun x hx y _ j _=>no (by simp) x hx).ext hx
 ·exact (h.ms.kept ho (no (by simp))).ext hx
 ·exact (h.ls.kept ho (no (by simp))).ext hx
theorem aX.off (h:aX w0 w own s p st) {b j:Nat} (hb:own b=some (.V j)) (hj:∀ x∈st.q,x.x≠j) (ho:Oy [b] w w1):aX w0 w1 own s p st:=by
 have no:∀ {t:Tag},t≠ .V j->∀ x∈[b],own x≠some t:=fun ht x hx q=>ht (by rw[mem_singleton.1 hx,hb] at q;exact (Option.some.inj q).symm);refine⟨h.only.trans ho fun x hx=>.inr (by rw[mem_singleton.1 hx];exact (h.lt b _ hb).1),fun b t q=>⟨(h.lt b t q).1,Nat.lt_of_lt_of_le (h.lt b t q).2 ho.size⟩,?_,?_,?_,?_,?_,?_,?_,?_⟩
 ·exact h.wa.kept ho (no (by simp))
 ·exact h.aa.kept ho (no (by simp))
 ·exact h.ca.kept ho fun x hx i=>no (by simp) x hx
 ·exact h.qa.kept ho (no (by simp))
 ·exact h.ev.kept ho (no (by simp))
 ·exact h.ea.kept ho fun x hx y hy i hi=>no (by intro e;cases e;exact hj y hy hi) x hx
 ·exact h.ms.kept ho (no (by simp))
 ·exact h.ls.kept ho (no (by simp))
theorem aX.cnt (h:aX w0 w own s p st) {n:Int} (ho:Oy [p.bw] w w1) (hw:SI w1 own s p { st with sent:=n }):aX w0 w1 own s p { st with sent:=n }:=by
 have hb:=h.wa.1;have no:∀ {t:Tag},t≠ .W->∀ x∈[p.bw],own x≠some t:=fun ht x hx q=>ht (by rw[mem_singleton.1 hx,hb] at q;exact (Option.some.inj q).symm);refine⟨h.only.trans ho fun x hx=>.inr (by rw[mem_singleton.1 hx];exact (h.lt _ _ hb).1),fun b t q=>⟨(h.lt b t q).1,Nat.lt_of_lt_of_le (h.lt b t q).2 ho.size⟩,hw,?_,?_,?_,?_,?_,?_,?_⟩
 ·exact h.aa.kept ho (no (by simp))
 ·exact h.ca.kept ho fun x hx i=>no (by simp) x hx
 ·exact h.qa.kept ho (no (by simp))
 ·exact h.ev.kept ho (no (by simp))
 ·exact h.ea.kept ho fun x hx y _ i _=>no (by simp) x hx
 ·exact h.ms.kept ho (no (by simp))
 ·exact h.ls.kept ho (no (by simp))
theorem ZK {α:Type} {enc:α->List Value} {e:TypeId} {s B:Nat} {w:World} {v:Value} {l:List α} (h:Own enc e s B w v l):∀ k∈v.ownBlock.toList,B<=k/\k<w.heap.size:=fun k hk=>by
 rcases h with ⟨rfl,_⟩|⟨g,cap,rfl,q1,q2⟩
 ·simp[Value.ownBlock] at hk
 ·simp only[Value.ownBlock,Option.toList_some,mem_singleton] at hk
  subst hk;exact⟨q1,q2.lt⟩
theorem aX.VQ (h:aX w0 w own s p st) {S:List Nat} {v':Value} {x:iD} (ho:Oy S w w1) (hS:∀ x∈S,own x=some .M\/own x=some .W) (hv:Own kC 41 9 w0.heap.size w1 v' (st.mks ++ [x])) (hvb:∀ k∈v'.ownBlock.toList,k∈p.vm.ownBlock.toList\/w.heap.size<=k)
  (hw:SI w1 own s { p with vm:=v' } st):aX w0 w1 (dJ own v'.ownBlock.toList .M) s { p with vm:=v' } { st with mks:=st.mks ++ [x] }:=by
 have hq:∀ b∈v'.ownBlock.toList,own b=some .M\/w.heap.size<=b:=fun b hb=>(hvb b hb).imp (h.ms.2 b) id;have hx:=h.kW hq
 have no:∀ {t:Tag},t≠ .M->t≠ .W->∀ x∈S,own x≠some t:=fun h1 h2 x hx q=>by
  rcases hS x hx with q'|q'<;>rw[q] at q'
  ·exact h1 (Option.some.inj q')
  ·exact h2 (Option.some.inj q')
 refine⟨h.only.trans ho fun x hx=>.inr (by rcases hS x hx with q|q<;>exact (h.lt x _ q).1),h.nQ ho.size hq fun b hb=>(ZK hv b hb).2,?_,?_,?_,?_,?_,?_,?_,?_⟩
 ·exact⟨hx _ _ hw.1,hw.2⟩
 ·exact (h.aa.kept ho (no (by simp) (by simp))).ext hx
 ·exact (h.ca.kept ho fun x hx i=>no (by simp) (by simp) x hx).ext hx
 ·exact (h.qa.kept ho (no (by simp) (by simp))).ext hx
 ·exact (h.ev.kept ho (no (by simp) (by simp))).ext hx
 ·exact (h.ea.kept ho fun x hx y _ i _=>no (by simp) (by simp) x hx).ext hx
 ·exact⟨hv,fun b hb=>iG hb⟩
 ·exact (h.ls.kept ho (no (by simp) (by simp))).ext hx
theorem aX.ent (h:aX w0 w own s p st) {S:List Nat} {v':Value} {x:Ent} (ho:Oy S w w1) (hS:∀ x∈S,own x=some .L\/own x=some .W) (hv:Own lgC 192 6 w0.heap.size w1 v' (st.lgs ++ [x])) (hvb:∀ k∈v'.ownBlock.toList,k∈p.vl.ownBlock.toList\/w.heap.size<=k)
  (hw:SI w1 own s { p with vl:=v' } st):aX w0 w1 (dJ own v'.ownBlock.toList .L) s { p with vl:=v' } { st with lgs:=st.lgs ++ [x] }:=by
 have hq:∀ b∈v'.ownBlock.toList,own b=some .L\/w.heap.size<=b:=fun b hb=>(hvb b hb).imp (h.ls.2 b) id;have hx:=h.kW hq
 have no:∀ {t:Tag},t≠ .L->t≠ .W->∀ x∈S,own x≠some t:=fun h1 h2 x hx q=>by
  rcases hS x hx with q'|q'<;>rw[q] at q'
  ·exact h1 (Option.some.inj q')
  ·exact h2 (Option.some.inj q')
 refine⟨h.only.trans ho fun x hx=>.inr (by rcases hS x hx with q|q<;>exact (h.lt x _ q).1),h.nQ ho.size hq fun b hb=>(ZK hv b hb).2,?_,?_,?_,?_,?_,?_,?_,?_⟩
 ·exact⟨hx _ _ hw.1,hw.2⟩
 ·exact (h.aa.kept ho (no (by simp) (by simp))).ext hx
 ·exact (h.ca.kept ho fun x hx i=>no (by simp) (by simp) x hx).ext hx
 ·exact (h.qa.kept ho (no (by simp) (by simp))).ext hx
 ·exact (h.ev.kept ho (no (by simp) (by simp))).ext hx
 ·exact (h.ea.kept ho fun x hx y _ i _=>no (by simp) (by simp) x hx).ext hx
 ·exact (h.ms.kept ho (no (by simp) (by simp))).ext hx
 ·exact⟨hv,fun b hb=>iG hb⟩
end
def nD (r:FX):Prop:=0<=r.ref/\r.ref<=4294967295
structure ML (c:Cl):Prop where
 rt:nD c.rt
 src:∀ s∈c.srcs,nD s.rt
theorem z32:(0:Int)<=0/\(0:Int)<=4294967295:=by decide
theorem z64:(0:Int)<=0/\(0:Int)<=18446744073709551615:=by decide
theorem uH:nD MH:=⟨by decide,by decide⟩
theorem ZP (p:Np) (s:iU) {id:Int} (h0:0<=id) (h1:id<=4294967295):nD (vU p s id).1:=by
 unfold vU;split
 ·split
  ·split
   ·exact⟨h0,h1⟩
   ·exact uH
  ·exact uH
 ·exact uH
theorem XJ {s:Sr} {i:Int} {p:Np} {q:Qd} {prec tol:Int} (h:nD s.rt) (h0:0<=i) (h1:i<=4294967295):nD (mQ s i p q prec tol).rt:=by
 unfold mQ;split
 ·split
  ·exact ZP _ _ h0 h1
  ·exact h
 ·exact h
theorem TD {s:Sr} {iv:Iv} {raw tol:Int}:(iV s iv raw tol).rt=s.rt:=by
 unfold iV;split
 ·split<;>rfl
 ·rfl
theorem XG {s:Sr} {i:Int} {p:Np} {iv:Iv} {has:Bool} {raw now prec tol:Int} (h:nD s.rt) (h0:0<=i) (h1:i<=100):nD (kJ s i p iv has raw now prec tol).2.rt:=by
 unfold kJ;split
 ·exact h
 ·split
  ·refine XJ ?_ (by omega) (by omega)
   split
   ·rw[TD];exact h
   ·exact h
  ·exact h
theorem XD {s:Sr} {raw now nonce:Int}:(iF s raw now nonce).2.2.rt=s.rt:=by
 unfold iF;split<;>rfl
theorem P5 {l:List Sr} {i:Nat} {c:Cf} (h:∀ x∈l,nD x.rt):nD (l.getD i (pU c)).rt:=by
 by_cases hi:i<l.length
 ·rw[getD_eq_getElem?_getD,List.getElem?_eq_getElem hi];exact h _ (List.getElem_mem hi)
 ·rw[getD_eq_getElem?_getD,List.getElem?_eq_none (by omega)];exact uH
theorem XM {l:List Sr} {i:Nat} {s:Sr} (h:∀ x∈l,nD x.rt) (hs:nD s.rt):∀ x∈l.set i s,nD x.rt:=fun x hx=>by
 rcases List.mem_or_eq_of_mem_set hx with q|rfl
 ·exact h x q
 ·exact hs
theorem nV (c:Cl) (raw:Int):(aI c raw).2.2.rt=c.rt/\(aI c raw).2.2.srcs=c.srcs:=by
 unfold aI;split<;>exact⟨rfl,rfl⟩
theorem ML.send {c:Cl} (h:ML c) (server raw nonce:Int):ML (dP c server raw nonce).2:=by
 unfold dP;split
 ·split
  ·exact⟨by show nD (aI c raw).2.2.rt;rw[(nV c raw).1];exact h.rt,XM h.src (by rw[XD];exact P5 h.src)⟩
  ·exact h
 ·exact h
theorem ML.recv {c:Cl} (h:ML c) (hn:c.srcs.length<=12) (server:Int) (p:Np) (iv:Iv) (has:Bool) (raw:Int):ML (fJ c server p iv has raw).2:=by
 unfold fJ;split
 ·rename_i hw
  have:=aY.1 hw;split
  ·exact⟨by show nD (aI c raw).2.2.rt;rw[(nV c raw).1];exact h.rt,XM h.src (XG (P5 h.src) (by omega) (by omega))⟩
  ·exact h
 ·exact h
theorem WB {c:Cl} (h:ML c) (raw:Int):ML (fM c raw):=
 ⟨by show nD (aI c raw).2.2.rt;rw[(nV c raw).1];exact h.rt,by show ∀ s∈(aI c raw).2.2.srcs,_;rw[(nV c raw).2];exact h.src⟩
theorem strM_rt {c:Cl} {now off:Int} {kept:List Cd} (h:ML c):ML (qC c now off kept):=by
 have hs:∀ s∈EK off (xG kept) kept c.srcs,nD s.rt:=AB (p:=fun s=>nD s.rt) (fun s hs=>hs) _ _ h.src;refine⟨?_,hs⟩;show nD (ER (EK off (xG kept) kept c.srcs) kept)
 unfold ER;split
 ·rename_i s hq
  exact hs s (List.mem_of_getElem? hq)
 ·exact uH
theorem strC_rt {c:Cl} {raw now off:Int} {kept:List Cd} (h:ML c):ML (jB c raw now off kept).2.2:=by
 have hm:=strM_rt (now:=now) (off:=off) (kept:=kept) h;unfold jB;split
 ·split
  ·dsimp only
   split
   ·refine⟨hm.rt,fun s hs=>?_⟩
    obtain⟨y,hy,rfl⟩:=List.mem_map.1 hs;exact hm.src y hy
   ·exact⟨hm.rt,hm.src⟩
  ·exact⟨hm.rt,hm.src⟩
 ·exact⟨h.rt,h.src⟩
theorem ML.upd {c c':Cl} {raw er:Int} {a:Ac} (h:ML c) (hu:tF c raw a er c'):ML c':=by
 rcases hu with ⟨_,_,_,rfl⟩|⟨_,⟨_,_,_,rfl⟩|⟨ins,hv,_,_,hs⟩⟩
 ·exact⟨by rw[(nV c raw).1];exact h.rt,by rw[(nV c raw).2];exact h.src⟩
 ·exact WB h raw
 ·have:c'=(jB (fM c raw) raw (aI c raw).1 (gZ (mY c raw ins)) (mY c raw ins)).2.2:=by rw[<-hs]
  rw[this];exact strC_rt (WB h raw)
theorem WZ {l:List Cd} (h:GU l≠0):¬ Gd l\/sel l=none:=by
 by_cases hg:Gd l
 ·right
  cases hs:sel l with
  | none=>rfl
  | some x=>exact absurd (wX hg hs) h
 ·exact .inl hg
theorem tF.R {c c':Cl} {raw er:Int} {a:Ac} (h:tF c raw a er c'):UpdR c raw a er c':=by
 rcases h with h|⟨h1,⟨h2,h3,h4,h5⟩|h⟩
 ·exact .inl h
 ·exact .inr ⟨h1,.inl ⟨h2,h4,h5,WZ (h3 ▸ h2)⟩⟩
 ·exact .inr ⟨h1,.inr h⟩
structure yL (c:Cl):Prop where
 u:qB c
 r:ML c
theorem yL.len {c:Cl} (h:yL c):c.srcs.length<=12:=by have:=h.u.ok.len;have:=h.u.ok.s1;omega
theorem yL.send {c:Cl} (h:yL c) (server raw nonce:Int):yL (dP c server raw nonce).2:=⟨h.u.send _ _ _,h.r.send _ _ _⟩
theorem yL.recv {c:Cl} (h:yL c) (server:Int) {p:Np} (hp:fA p) (iv:Iv) (has:Bool) (raw:Int):yL (fJ c server p iv has raw).2:=⟨h.u.recv _ hp _ _ _,h.r.recv h.len _ _ _ _ _⟩
theorem yL.upd {c c':Cl} {raw er:Int} {a:Ac} (h:yL c) (hu:tF c raw a er c'):yL c':=⟨(h.u.upd hu.R).1,h.r.upd hu⟩
theorem yL.new {c:Cf} {raw:Int} (h:eZ c=0) (hr:fQ raw=true):yL (I8 c raw raw):=by
 have h0:=qB.new h;refine⟨⟨tK.new hr hr (nX h).1,h0.sv,h0.g,h0.tol,h0.kp,h0.rd⟩,z32,fun s hs=>?_⟩;obtain rfl:=(List.mem_replicate.1 hs).2;exact uH
theorem KN (t:Int):0<=mF t/\mF t<=18446744073709551615:=by unfold mF;omega
theorem j6:fA zA:=by unfold fA zA;decide
theorem fA.xm {p:Np} {x:Int} (h:fA p) (h0:0<=x) (h1:x<=18446744073709551615):fA { p with xmt:=x }:=⟨h.1,h.2.1,h.2.2.1,h.2.2.2.1,h.2.2.2.2.1,⟨h0,h1⟩,h.2.2.2.2.2.2⟩
theorem fA.rc {p:Np} {x:Int} (h:fA p) (h0:0<=x) (h1:x<=18446744073709551615):fA { p with rcv:=x }:=⟨h.1,h.2.1,h.2.2.1,h.2.2.2.1,⟨h0,h1⟩,h.2.2.2.2.2⟩
theorem aSend_np {a:As} {now nonce:Int} (h0:0<=nonce) (h1:nonce<=18446744073709551615):fA (l9 a now nonce).1:=by
 unfold l9;split
 ·split
  ·exact j6
  ·split
   ·exact j6
   ·exact (show fA { zA with ver:=a.ver,mode:=3 } from j6).xm h0 h1
 ·exact j6
theorem XE {s:Sr} {raw now nonce:Int} (h0:0<=nonce) (h1:nonce<=18446744073709551615):fA (iF s raw now nonce).1:=by
 unfold iF;split
 ·exact aSend_np h0 h1
 ·exact j6
theorem U8 {c:Cl} {server raw nonce:Int} (h0:0<=nonce) (h1:nonce<=18446744073709551615):fA (dP c server raw nonce).1.1:=by
 unfold dP;split
 ·split
  ·exact XE h0 h1
  ·exact j6
 ·exact j6
theorem XO {p:Np} {t:Int} {r:FX} (hp:fA p) (hr:nD r) (h0:0<=t) (h1:t<=18446744073709551615):fA (yY p t r).1:=by
 unfold yY;split
 ·split
  ·refine⟨?_,?_,hr,hp.2.2.2.2.2.1,⟨h0,h1⟩,⟨h0,h1⟩,z64⟩<;>dsimp only<;>unfold rH<;>(repeat' split)<;>first|exact shoF_u _|exact z32
  ·exact j6
 ·exact j6
theorem xor_u (a b:Int):0<=bits .xor .u64 a b/\bits .xor .u64 a b<=18446744073709551615:=by
 have h:∀ x:Int,0<=wrap .u64 x/\wrap .u64 x<=18446744073709551615:=fun x=>by rw[IntKind.wrap_u64];omega
 exact h _
theorem frg_np {t:Int} {g:Fg} {f:Ft} (h:fA g.hd):fA (gM t g f).hd:=by
 have shd:∀ s v x,jC s v t=some x->0<=x/\x<=18446744073709551615:=fun s v x hx=>by
  unfold jC at hx;split at hx
  ·cases hx;exact KN _
  ·cases hx
 have sR:∀ (g:Fg) s v,fA g.hd->fA (g.wW (jC s v t)).hd:=fun g s v h=>by
  cases hq:jC s v t with
  | none=>exact h
  | some x=>exact h.rc (shd _ _ _ hq).1 (shd _ _ _ hq).2
 have sX:∀ (g:Fg) s v,fA g.hd->fA (g.GL (jC s v t)).hd:=fun g s v h=>by
  cases hq:jC s v t with
  | none=>exact h
  | some x=>exact h.xm (shd _ _ _ hq).1 (shd _ _ _ hq).2
 have sI:∀ (g:Fg) o,(g.yV o).hd=g.hd:=fun g o=>by cases o<;>rfl
 unfold gM;split
 ·exact h
 ·split
  ·dsimp only;rw[sI];exact sX _ _ _ (sR _ _ _ h)
  ·split
   ·rw[sI];exact h
   ·split
    ·exact h
    ·split
     ·exact h
     ·split
      ·exact h
      ·split
       ·exact⟨h.1,h.2.1,h.2.2.1,xor_u _ _,h.2.2.2.2⟩
       ·split
        ·exact⟨h.1,h.2.1,(by decide:(0:Int)<=1380013125/\(1380013125:Int)<=4294967295),h.2.2.2⟩
        ·split<;>exact h
theorem app_np {l:List Ft} {n t:Int} {p:Np} {v:Iv} (h:fA p):fA (mG l n t p v).hd:=by
 unfold mG
 have key:∀ (l:List Ft) (g:Fg),fA g.hd->fA (l.foldl (gM t) g).hd:=by
  intro l;induction l with
  | nil=>exact fun _ h=>h
  | cons f r ih=>exact fun g h=>ih _ (frg_np h)
 exact key _ _ h
def uP (n:Nd):Bool:=!n.rf && decide (0<n.sv.length)
def oC (s:eU) (t:AJ):Prop:=(∃ i j:Nat,t.c=i/\t.s=j/\i<s.nd.length/\j<s.nd.length/\uP (bX s i)=true)/\0<=t.n/\t.n<=1000000000
def DZ (s:eU):EvS->Prop
 | .poll t=>oC s t
 | .req t h=>oC s t/\fA h
 | .dep t h _=>oC s t/\fA h
 | .rep t h _=>oC s t/\fA h
def U2:EvS:=.poll ⟨0,0,0,0⟩
def D6 (un t:Int):EvS->Nat
 | .poll _=>14*((un-t) / 16000000000+1).toNat
 | .req _ _=>9
 | .dep _ _ _=>6
 | .rep _ _ _=>3
def phi (s:eU) (ev:List EvS) (q:List Ev):Nat:=(q.map fun x=>D6 s.un x.t (ev.getD x.x.toNat U2)).sum
def tot (s:eU) (st:bT):Nat:=st.ev.length+st.sent.toNat+st.mks.length+st.lgs.length+phi s st.ev st.q
structure eB (s:eU) (st:bT):Prop where
 pu:st.pu=st.ev.length
 tm:0<=st.tm
 srt:QSrt st.q
 nd:st.q.Pairwise fun x y=>x.i≠y.i
 q:∀ x∈st.q,1<=x.i/\x.i<=st.pu/\x.x=x.i-1/\st.tm<=x.t/\x.t<=s.un
 ev:∀ e∈st.ev,DZ s e
 cln:st.cl.length=s.nd.length
 cl:∀ (i:Nat) (c:Cl),st.cl[i]? = some (some c)->yL c
 sn:0<=st.sent
def wM (s:eU) (st:bT):Prop:=∀ i:Nat,i<s.nd.length->uP (bX s i)=true->∃ c,st.cl[i]? = some (some c)
theorem eB.idx {s:eU} {st:bT} (h:eB s st) {x:Ev} (hx:x∈st.q):x.x.toNat<st.ev.length/\0<=x.x:=by
 have:=h.q x hx;have:=h.pu;omega
theorem QF {s:eU} {ev:List EvS} {e:EvS}:∀ {q:List Ev},(∀ x∈q,x.x.toNat<ev.length)->phi s (ev ++ [e]) q=phi s ev q
 | [],_=>rfl
 |x::r,h=>by
  have ih:=QF (s:=s) (e:=e) (q:=r) fun y hy=>h y (mem_cons_of_mem _ hy);have hx:=h x (mem_cons_self ..)
  have hg:(ev ++ [e]).getD x.x.toNat U2=ev.getD x.x.toNat U2:=by
   rw[getD_eq_getElem?_getD,getD_eq_getElem?_getD,List.getElem?_append_left hx]
  unfold phi at ih |-;rw[map_cons,sum_cons,map_cons,sum_cons,ih,hg]
theorem QE {s:eU} {ev:List EvS} {x:Ev}:∀ {q:List Ev},phi s ev (qD x q)=phi s ev q+D6 s.un x.t (ev.getD x.x.toNat U2)
 | []=>by simp[qD,phi]
 |y::r=>by
  have ih:=QE (s:=s) (ev:=ev) (x:=x) (q:=r);unfold qD;split
  ·unfold phi at ih |-
   rw[map_cons,sum_cons,map_cons,sum_cons,ih];omega
  ·unfold phi
   rw[map_cons,sum_cons];omega
theorem eT (s:eU) (st:bT) (t:Int) (e:EvS):(fE s st t e).cl=st.cl/\(fE s st t e).sent=st.sent/\(fE s st t e).mks=st.mks/\(fE s st t e).lgs=st.lgs/\(fE s st t e).tm=st.tm:=by
 unfold fE;split
 ·exact⟨rfl,rfl,rfl,rfl,rfl⟩
 ·split<;>exact⟨rfl,rfl,rfl,rfl,rfl⟩
theorem QA {e:Ev}:∀ {q:List Ev},q.Pairwise (fun x y=>x.i≠y.i)->(∀ x∈q,x.i≠e.i)->(qD e q).Pairwise fun x y=>x.i≠y.i
 | [],_,_=>by simp[qD]
 |x::r,h,hi=>by
  obtain⟨h1,h2⟩:=pairwise_cons.1 h;unfold qD;split
  ·refine pairwise_cons.2 ⟨fun y hy=>?_,QA h2 fun y hy=>hi y (mem_cons_of_mem _ hy)⟩
   rcases lD.1 hy with rfl|hy
   ·exact hi x (mem_cons_self ..)
   ·exact h1 y hy
  ·exact pairwise_cons.2 ⟨fun y hy=>Ne.symm (hi y hy),h⟩
theorem MZ {lim tm:Int} {n:Nat} {t:Int} (h:fU lim tm n t=0):0<=t/\tm<=t/\(n:Int)<lim:=by
 unfold fU at h;split at h
 ·exact absurd h (by decide)
 ·split at h
  ·exact absurd h (by decide)
  ·split at h
   ·exact absurd h (by decide)
   ·omega
theorem eB.sch {s:eU} {st:bT} (h:eB s st) (t:Int) {e:EvS} (he:DZ s e):eB s (fE s st t e):=by
 unfold fE;split
 ·exact h
 ·rename_i hu
  split
  ·rename_i hp
   have hp:=MZ hp;have hpu:=h.pu;refine⟨by dsimp only;rw[hpu,length_append];rfl,h.tm,J2 h.srt fun x hx=>?_,QA h.nd fun x hx=>?_,fun x hx=>?_,fun x hx=>?_,h.cln,h.cl,h.sn⟩
   ·have:=h.q x hx
    dsimp only;omega
   ·have:=h.q x hx
    dsimp only;omega
   ·rcases lD.1 hx with rfl|hx
    ·dsimp only;omega
    ·have:=h.q x hx
     dsimp only;omega
   ·rcases List.mem_append.1 hx with hx|hx
    ·exact h.ev x hx
    ·rw[mem_singleton.1 hx];exact he
  ·exact h
theorem vL {s:eU} {st:bT} (h:eB s st) (t:Int) (e:EvS):tot s (fE s st t e)<=tot s st+(if t<=s.un then 1+D6 s.un t e else 0):=by
 unfold fE;split
 ·omega
 ·rename_i hu
  rw[if_pos (show t<=s.un by omega)];split
  ·unfold tot
   dsimp only;rw[QE,QF fun x hx=>(h.idx hx).1]
   have:(st.ev ++ [e]).getD ((st.ev.length:Int)).toNat U2=e:=by
    rw[Int.toNat_natCast,getD_eq_getElem?_getD];simp
   rw[this,length_append,List.length_singleton];dsimp only;omega
  ·omega
theorem eB.note {s:eU} {st:bT} (h:eB s st) (e:EvS) (t:Int):eB s (iW s st e t):=⟨h.pu,h.tm,h.srt,h.nd,h.q,h.ev,h.cln,h.cl,h.sn⟩
theorem lS (s:eU) (st:bT) (e:EvS) (t:Int):tot s (iW s st e t)=tot s st+1:=by
 unfold iW tot;dsimp only;rw[length_append,List.length_singleton];omega
theorem eB.set {s:eU} {st:bT} (h:eB s st) (i:Int) {c:Cl} (hc:yL c):eB s (dS st i c):=by
 refine⟨h.pu,h.tm,h.srt,h.nd,h.q,h.ev,by unfold dS;dsimp only;rw[List.length_set];exact h.cln,fun j d hd=>?_,h.sn⟩;unfold dS at hd;dsimp only at hd;rw[List.getElem?_set] at hd;split at hd
 ·split at hd
  ·cases hd;exact hc
  ·cases hd
 ·exact h.cl j d hd
theorem wM.set {s:eU} {st:bT} (h:wM s st) (i:Int) (c:Cl):wM s (dS st i c):=by
 intro j hj hc;unfold dS;dsimp only;rw[List.getElem?_set];split
 ·rename_i hij
  obtain⟨d,hd⟩:=h j hj hc;rw[if_pos (by have:=(List.getElem?_eq_some_iff.1 hd).1;omega)];exact⟨c,rfl⟩
 ·exact h j hj hc
theorem wM.eq {s:eU} {st st':bT} (h:wM s st) (he:st'.cl=st.cl):wM s st':=fun j hj hc=>by rw[he];exact h j hj hc
theorem sK {st:bT} {i:Nat} {c:Cl}:gW st i=some c↔st.cl[i]? = some (some c):=by
 unfold gW;rw[Int.toNat_natCast,getD_eq_getElem?_getD]
 cases st.cl[i]? <;> simp
theorem eB.of {s:eU} {st:bT} (h:eB s st) {i:Int} {c:Cl} (hc:gW st i=some c):yL c:=by
 unfold gW at hc;rw[getD_eq_getElem?_getD] at hc
 cases hq:st.cl[i.toNat]? with
 | none=>rw[hq] at hc;cases hc
 | some o=>rw[hq] at hc;exact h.cl _ _ (by rw[hq];exact congrArg some hc)
theorem eB.pop {s:eU} {st:bT} (h:eB s st) {x:Ev} {r:List Ev} (hq:st.q=x::r):eB s { st with q:=r,tm:=x.t }/\st.ev[x.x.toNat]? = some (st.ev.getD x.x.toNat U2)/\DZ s (st.ev.getD x.x.toNat U2) /\
  tot s st=tot s { st with q:=r,tm:=x.t }+D6 s.un x.t (st.ev.getD x.x.toNat U2)/\0<=x.t/\x.t<=s.un/\∀ y∈r,y.x≠x.x:=by
 have hs:=h.srt;have hd:=h.nd;rw[hq] at hs hd;obtain⟨d1,d2⟩:=pairwise_cons.1 hd;obtain⟨h1,h2⟩:=pairwise_cons.1 hs;have hx:=h.q x (by rw[hq];exact mem_cons_self ..);have hi:=h.idx (x:=x) (by rw[hq];exact mem_cons_self ..);have ht:=h.tm
 have hg:st.ev[x.x.toNat]? = some (st.ev.getD x.x.toNat U2):=by
  rw[getD_eq_getElem?_getD,List.getElem?_eq_getElem hi.1];rfl
 refine⟨⟨h.pu,by dsimp only;omega,h2,d2,fun y hy=>?_,h.ev,h.cln,h.cl,h.sn⟩,hg,h.ev _ (List.mem_of_getElem? hg),?_,by omega,hx.2.2.2.2,fun y hy=>?_⟩
 ·have:=h.q y (by rw[hq];exact mem_cons_of_mem _ hy)
  have:=h1 y hy;dsimp only;omega
 ·unfold tot phi
  rw[hq];dsimp only;rw[map_cons,sum_cons];omega
 ·have:=h.q y (by rw[hq];exact mem_cons_of_mem _ hy)
  have:=d1 y hy;omega
theorem arv_ev {s:eU} {e:EvS} (h:DZ s e):oC s e.trp:=by
 cases e<;>first|exact h|exact h.1
theorem oC.num {s:eU} {t:AJ} (h:oC s t) {n:Int} (h0:0<=n) (h1:n<=1000000000):oC s ⟨t.c,t.i,t.s,n⟩:=⟨h.1,h0,h1⟩
theorem eB.cnt {s:eU} {st:bT} (h:eB s st):eB s { st with sent:=st.sent+1 }:=⟨h.pu,h.tm,h.srt,h.nd,h.q,h.ev,h.cln,h.cl,by have:=h.sn;dsimp only;omega⟩
theorem cnt_tot {s:eU} {st:bT} (h:eB s st):tot s { st with sent:=st.sent+1 }=tot s st+1:=by
 have:=h.sn;unfold tot;dsimp only;omega
theorem zJ (s:eU) (st:bT) (i:Int) (c:Cl):tot s (dS st i c)=tot s st:=rfl
theorem eB.mark {s:eU} {st:bT} (h:eB s st) (l:List iD):eB s { st with mks:=l }:=⟨h.pu,h.tm,h.srt,h.nd,h.q,h.ev,h.cln,h.cl,h.sn⟩
theorem eB.poll {R:List (Int × Int)} {s:eU} {st:bT} (h:eB s st) (hF:wM s st) {t:Int} (ht:t<=s.un) {p:AJ} (he:oC s p) (hn:st.sent<=1000000000) :
  eB s (pX R s st t p)/\wM s (pX R s st t p)/\tot s (pX R s st t p)+1<=tot s st+D6 s.un t (.poll p):=by
 obtain⟨e1,e2,e3,e4,e5⟩:=eT s st (t+16000000000) (.poll ⟨p.c,p.i,p.s,0⟩);have k1:eB s (fE s st (t+16000000000) (.poll ⟨p.c,p.i,p.s,0⟩)):=h.sch _ (he.num (Int.le_refl _) (by decide));have f1:wM s (fE s st (t+16000000000) (.poll ⟨p.c,p.i,p.s,0⟩)):=hF.eq e1
 have t1:tot s (fE s st (t+16000000000) (.poll ⟨p.c,p.i,p.s,0⟩))+13<=tot s st+D6 s.un t (.poll p):=by
  have:=vL h (t+16000000000) (.poll ⟨p.c,p.i,p.s,0⟩);split at this<;>simp only[D6] at this |-<;>omega
 unfold pX;generalize fE s st (t+16000000000) (.poll ⟨p.c,p.i,p.s,0⟩)=st1 at *;dsimp only;split
 ·exact⟨k1,f1,by omega⟩
 ·rename_i c hc
  have hm:=xE (R:=R) s.sd st1.sent;have hnp:=U8 (c:=c) (server:=p.i) (raw:=bN s p.c t) (nonce:=max (gU R s.sd st1.sent) 1) (by omega) (by omega);have k2:=k1.set p.c ((k1.of hc).send p.i (bN s p.c t) (max (gU R s.sd st1.sent) 1));have f2:=f1.set p.c (dP c p.i (bN s p.c t) (max (gU R s.sd st1.sent) 1)).2;have t2:=zJ s st1 p.c (dP c p.i (bN s p.c t) (max (gU R s.sd st1.sent) 1)).2;have s2:(dS st1 p.c (dP c p.i (bN s p.c t) (max (gU R s.sd st1.sent) 1)).2).sent=st.sent:=e2;generalize dS st1 p.c (dP c p.i (bN s p.c t) (max (gU R s.sd st1.sent) 1)).2=st2 at *;generalize (dP c p.i (bN s p.c t) (max (gU R s.sd st1.sent) 1)).1=r at *;split
  ·have k3:=k2.cnt
   have t3:=cnt_tot k2;have f3:wM s { st2 with sent:=st2.sent+1 }:=f2;generalize ({ st2 with sent:=st2.sent+1 }:bT)=st3 at *;split
   ·refine⟨k3.note _ _,f3,?_⟩
    rw[lS];omega
   ·rename_i u _
    have hs:=h.sn;have he':DZ s (.req ⟨p.c,p.i,p.s,st2.sent⟩ r.1):=⟨he.num (by omega) (by omega),hnp⟩;have k4:=k3.sch u he';have t4:=vL k3 u (.req ⟨p.c,p.i,p.s,st2.sent⟩ r.1);have f4:wM s (fE s st3 u (.req ⟨p.c,p.i,p.s,st2.sent⟩ r.1)):=f3.eq (eT ..).1;refine⟨k4.note _ _,f4,?_⟩;rw[lS];split at t4<;>(try simp only[D6] at t4)<;>omega
  ·exact⟨k2,f2,by omega⟩
theorem ans_np {s:eU} {st:bT} (h:eB s st) {i:Int} (i0:0<=i) (i1:i<=1000000) {p:Np} (hp:fA p) (t:Int):fA (fG s st i p t).1:=by
 have hpr:nD (BN (bX s i).er (i+1)).1:=by
  unfold BN;split
  ·exact⟨by dsimp only;omega,by dsimp only;omega⟩
  ·exact uH
 unfold fG;split
 ·split
  ·exact XO hp hpr (KN _).1 (KN _).2
  ·exact j6
 ·split
  ·exact j6
  ·rename_i c hc
   split
   ·exact XO hp (h.of hc).r.rt (KN _).1 (KN _).2
   ·exact j6
theorem eB.req {s:eU} {st:bT} (h:eB s st) (hF:wM s st) (hl:s.nd.length<=1000) (t:Int) {p:AJ} {q:Np} (he:DZ s (.req p q)) :
  eB s (sQ s st t p q)/\wM s (sQ s st t p q)/\tot s (sQ s st t p q)+1<=tot s st+D6 s.un t (.req p q):=by
 unfold sQ;dsimp only
 have hn:fA (fG s st p.s q t).1:=by
  obtain⟨⟨i,j,_,h2,_,h4,_⟩,_⟩:=he.1;exact ans_np h (by omega) (by omega) he.2 t
 generalize fG s st p.s q t=a at *;have hn2:fA (mG s.ft p.s t a.1 a.2.1).hd:=app_np hn;generalize mG s.ft p.s t a.1 a.2.1=g at *
 have key:∀ st1,eB s st1->wM s st1->tot s st1+2<=tot s st+D6 s.un t (.req p q)->eB s (iW s st1 (.req p q) t)/\wM s (iW s st1 (.req p q) t)/\tot s (iW s st1 (.req p q) t)+1<=tot s st+D6 s.un t (.req p q):=
  fun st1 a b c=>⟨a.note _ _,b,by rw[lS];omega⟩
 refine key _ ?_ ?_ ?_
 ·split
  ·split
   ·exact h
   ·exact h.sch _ (show DZ s (.dep p g.hd g.iv) from ⟨he.1,hn2⟩)
  ·exact h
 ·split
  ·split
   ·exact hF
   ·exact hF.eq (eT ..).1
  ·exact hF
 ·have:=vL h (t+g.hold) (.dep p g.hd g.iv)
  split
  ·split
   ·simp only[D6];omega
   ·split at this<;>simp only[D6] at this |-<;>omega
  ·simp only[D6];omega
theorem eB.dep {R:List (Int × Int)} {s:eU} {st:bT} (h:eB s st) (hF:wM s st) (t:Int) {p:AJ} {q:Np} {v:Iv} (he:DZ s (.dep p q v)) :
  eB s (C8 R s st t p q v)/\wM s (C8 R s st t p q v)/\tot s (C8 R s st t p q v)+1<=tot s st+D6 s.un t (.dep p q v):=by
 unfold C8;split
 ·exact⟨h.note _ _,hF,by rw[lS];simp only[D6];omega⟩
 ·rename_i u _
  have:=vL h u (.rep p q v);refine⟨(h.sch u (e:=.rep p q v) he).note _ _,hF.eq (eT s st u (.rep p q v)).1,?_⟩;rw[lS];split at this<;>simp only[D6] at this |-<;>omega
theorem eB.rep {s:eU} {st st':bT} (h:eB s st) (hF:wM s st) (t:Int) {p:AJ} {q:Np} {v:Iv} (he:DZ s (.rep p q v)) (hr:EL s st t p q v st') :
  eB s st'/\wM s st'/\tot s st'+1<=tot s st+D6 s.un t (.rep p q v):=by
 unfold EL at hr;split at hr
 ·exact hr.elim
 ·rename_i c hc
  obtain⟨a,er,c2,hu,rfl⟩:=hr;have k1:=h.set p.c (((h.of hc).recv p.i he.2 v true (bN s p.c t)).upd hu);have f1:=hF.set p.c c2;have t1:=zJ s st p.c c2;split
  ·refine⟨(k1.mark _).note _ _,f1,?_⟩
   rw[lS]
   have:∀ m,tot s { dS st p.c c2 with mks:=st.mks ++ [m] }=tot s st+1:=fun m=>by
    unfold tot dS;dsimp only;rw[length_append,List.length_singleton];omega
   rw[this];simp only[D6];omega
  ·refine⟨k1.note _ _,f1,?_⟩
   rw[lS,t1];simp only[D6];omega
theorem tH.inv {R:List (Int × Int)} {s:eU} {st st':bT} (h:eB s st) (hF:wM s st) (hl:s.nd.length<=1000) (hn:tot s st<=1000000000) (hs:tH R s st st'):eB s st'/\wM s st'/\tot s st'+1<=tot s st:=by
 obtain⟨x,r,hq,hx⟩:=hs;obtain⟨k,-,he,ht,h0,h1,-⟩:=h.pop hq;have f:wM s { st with q:=r,tm:=x.t }:=hF;have hsn:st.sent<=1000000000:=by have:=h.sn;unfold tot at hn;omega
 unfold U2 at he ht;revert hx
 generalize st.ev.getD x.x.toNat (.poll ⟨0,0,0,0⟩)=e at *;rw[ht]
 cases e with
 | poll p=>rintro rfl;exact k.poll f h1 he hsn
 | req p q=>rintro rfl;exact k.req f hl _ he
 | dep p q v=>rintro rfl;exact k.dep f _ he
 | rep p q v=>exact fun hr=>k.rep f _ he hr
theorem pClRoot {w:World} {P:Pl} {c:Cl} (h:bP w P c)  :
  Calls Tryz.prog 177 #[.pointer (some ⟨P.bc,0,none⟩)] w fun e w'=>e=.returned (.agg #[.int .i64 c.rt.str,.int .i64 c.rt.dly,.int .i64 c.rt.dsp,.int .u32 c.rt.ref])/\Oy [] w w':=by
 have hl:=h.cl;unfold mW at hl;have m:=iX hl;have k:=m.zK;clear hl;go_enter Tryz.func177,Tryz.ntmps177
 go_wp2_with (first|((with_reducible refine wU ?_);clear k m;intro w m k)|((with_reducible refine lE (fun w o g k K hK=>⟨rfl,?_⟩));simp[results,Tryz.results177,go_sem,k];refine hK _ ?_;exact⟨rfl,o⟩))
theorem Y9 {w:World} {P:Pl} {c:Cl} (h:bP w P c) :
  Calls Tryz.prog 143 #[.pointer (some ⟨P.bc,0,none⟩)] w fun e w'=>e=.returned (.agg #[.int .i64 c.ck.raw,.int .i64 c.ck.time,.int .i64 c.ck.ppb,.int .i64 0,.int .i64 0,.int .i64 c.ck.steps])/\Oy [] w w':=by
 have hcl:=h.cl;unfold mW at hcl;have HS:=aA (fun w' (o:Oy [] w w')=>UC (o.got h.ck (by simp)));clear h;have m:=iX hcl;have k:=m.zK;clear hcl;go_enter Tryz.func143,Tryz.ntmps143
 go_wp2_with (first|((with_reducible first|refine cU ?_|refine cM (HS.out _ gO) ?_|refine wU ?_);clear k m;intro w m k)|((with_reducible refine lE (fun w o g k K hK=>⟨rfl,?_⟩));simp[results,Tryz.results143,go_sem,k];refine hK _ ?_;exact⟨rfl,o⟩))
structure fK (w:World) (s:dW):Prop where
 ok:s.Ok w
 osc:∀ x∈s.nd,fO x.n.ph x.n.sg=0
 lk:∀ x∈s.lk,fP x.l=0
 ft:tX s.ft=0
 un:0<=s.un/\s.un<=1125899906842624
 er:∀ x∈s.nd,0<=x.n.er/\x.n.er<=1125899906842624
 nl:s.nd.length<=24
 nst:∀ x∈s.nd,0<=x.n.st/\x.n.st<=1125899906842624
 nsv:∀ x∈s.nd,x.n.sv.length<=12
 tol:∀ x∈s.nd,0<=x.n.tol/\x.n.tol<=500000
 svr:∀ x∈s.nd,∀ v∈x.n.sv,0<=v/\v<s.nd.length
theorem fK.kept {w w':World} {s:dW} (h:fK w s) (o:Oy [] w w'):fK w' s:=⟨h.ok.kept o,h.osc,h.lk,h.ft,h.un,h.er,h.nl,h.nst,h.nsv,h.tol,h.svr⟩
theorem lk_eq (s:dW) (i:Nat):s.sc.lk.getD i zS=(s.lk.getD i jI).l:=by
 unfold dW.sc;rw[getD_eq_getElem?_getD,getD_eq_getElem?_getD,List.getElem?_map]
 cases s.lk[i]? <;> rfl
def N8 (d:Bool):Int:=if d=true then 1 else 0
theorem UK (j:Nat) (d:Bool):UL (some (j,d))=.tuple #[.int .i64 j,.int .i64 (N8 d)]:=by cases d<;>rfl
theorem KI {w:World} {own:Col} {s:dW} {p:kI} {st:bT} (hw:SI w own s p st) (hs:fK w s) {R:List (Int × Int)} (hR:rQ w R) (a b t n:Int) (t0:0<=t) (t1:t<=1125899906842624) (n0:0<=n) (n1:n<=1000000000) :
  Calls Tryz.prog 147 #[.pointer (some ⟨p.bw,0,none⟩),.int .i64 a,.int .i64 b,.int .i64 t,.int .i64 n] w fun e w'=>e=.returned (zG (xV R s.sc a b t n))/\Oy [] w w':=by
 unfold xV;have HL:=aA (fun w' (o:Oy [] w w')=>pLnk s a b (hs.ok.kept o));unfold fT at HL;have hb:=hw.2;have hll:=hs.ok.ll
 cases hq:UN s.sc.lk a b with
 | none =>
  dsimp only;rw[hq] at HL;unfold UL at HL;unfold zG;dsimp only at HL |-;have m:=iX hb;have k:=m.zK;clear hb hw hs;go_enter Tryz.func147,Tryz.ntmps147
  go_wp2_with (first|((with_reducible first|refine cM (HL.out _ gO) ?_|refine wU ?_);clear k m;intro w m k)|((with_reducible refine lE (fun w o g k K hK=>⟨rfl,?_⟩));simp[results,Tryz.results147,go_sem];refine hK _ ?_;exact⟨rfl,o⟩))
 | some x =>
  obtain⟨i,d⟩:=x;dsimp only;rw[hq,UK] at HL;rw[lk_eq];show Calls _ _ _ _ (fun e w'=>e=.returned (zG (LX R (s.lk.getD i jI).l (N8 d) t n))/\_)
  have hi:i<s.lk.length:=by
   have:=(ZX _ _ _ _ hq).2;unfold dW.sc at this;simpa using this
  have hm:=bS jI hi;have hn:=hs.ok.lko _ hm;have hl:=hs.lk _ hm;have hdr:N8 d=0\/N8 d=1:=by cases d<;>simp[N8]
  have HA:=aA (fun w' (o:Oy [] w w')=>pArrive (s.lk.getD i jI).l (N8 d) t n (hn.row.kept o) hl hn.len hdr t0 t1 n0 (by omega) (hR.kept o));have HV:=aA hs.ok.lk;obtain⟨bk,off,hpl,-⟩:=HV.out.lk (aR [] w) hi
  have HX:=aA (show ∀ w',Oy [] w w'->bk<w'.heap.size/\w'.cell? ⟨bk,off+i*9+2,none⟩=some (.int .i64 (s.lk.getD i jI).l.d0)/\w'.cell? ⟨bk,off+i*9+3,none⟩=some (.int .i64 (s.lk.getD i jI).l.d1)/\w'.cell? ⟨bk,off+i*9+4,none⟩=some (.int .i64 (s.lk.getD i jI).l.v0)/\w'.cell? ⟨bk,off+i*9+5,none⟩=some (.int .i64 (s.lk.getD i jI).l.v1)/\w'.cell? ⟨bk,off+i*9+6,none⟩=some (.int .i64 (s.lk.getD i jI).l.lo)/\w'.cell? ⟨bk,off+i*9+7,none⟩=some (.int .u64 (s.lk.getD i jI).l.sd)/\w'.cell? ⟨bk,off+i*9+8,none⟩=some (.slice (s.lk.getD i jI).p (s.lk.getD i jI).l.ch.length (s.lk.getD i jI).c) from fun w' o=>by
   obtain⟨b',o',e,c1,c2,c3,c4,c5,c6,c7,c8,c9,c10⟩:=HV.out.lk o hi;rw[hpl] at e
   cases e
   exact⟨c1,c4,c5,c6,c7,c8,c9,c10⟩)
  rw[hpl] at hb HL;have hi2:(i:Int)<(s.lk.length:Int):=by omega
  have hi3:decide ((i:Int)<0)=false:=by simp
  clear hn hw hs hm hl HV hpl;unfold VR at HA;generalize LX R (s.lk.getD i jI).l (N8 d) t n=rr at HA |-;generalize (s.lk.getD i jI).l=nd at HX HA;generalize (s.lk.getD i jI).p=ps at HX HA;generalize (s.lk.getD i jI).c=cs at HX HA;have hsl:=hi;obtain⟨wo,rfl⟩:∃ wo:World,wo=w:=⟨_,rfl⟩;have m:=iX hb;have k:=m.zK;have c:=HX.out _ (aR [] wo);clear hb
  cases rr with
  | none =>
   unfold zG at HA |-;dsimp only at HA |-;go_enter Tryz.func147,Tryz.ntmps147
   go_wp2_with (first|((with_reducible first|refine cM (HL.out _ gO) ?_|refine cM (HA.out _ gO) ?_|refine cU ?_|refine wU ?_);clear k m c;intro w m k;have c:=HX.out w m.zO)|((with_reducible refine lE (fun w o g k K hK=>⟨rfl,?_⟩));simp[results,Tryz.results147,go_sem];refine hK _ ?_;exact⟨rfl,o⟩))
  | some u =>
   unfold zG at HA |-;dsimp only at HA |-;go_enter Tryz.func147,Tryz.ntmps147
   go_wp2_with (first|((with_reducible first|refine cM (HL.out _ gO) ?_|refine cM (HA.out _ gO) ?_|refine cU ?_|refine wU ?_);clear k m c;intro w m k;have c:=HX.out w m.zO)|((with_reducible refine lE (fun w o g k K hK=>⟨rfl,?_⟩));simp[results,Tryz.results147,go_sem];refine hK _ ?_;exact⟨rfl,o⟩))
end Go.Proofs.YtppjhbjmfkiejaaGreat
