/- Nw Nx Ny -/
import Derived.Test.YtppjhbjmfkiejaaGreatFNt
import Derived.Test.YtppjhbjmfkiejaaGreatFNo
import Derived.Test.YtppjhbjmfkiejaaGreatFJl
namespace Go.Proofs.YtppjhbjmfkiejaaGreat
set_option linter.all false
open List (getD_eq_getElem?_getD length_append map_cons mem_cons_of_mem mem_cons_self sum_cons)
section
open Go.RowKit Go.Sort
variable {w0 w w1:World} {own:Col} {s:ScW} {p:SmP} {st:Sim}
theorem SimAt.cli (h:SimAt w0 w own s p st) {i:Nat} {P P':Pl} {c c':Cl} (hp:p.pl[i]? = some (some P)) (hc:st.cl[i]? = some (some c)) (h':ClAt w1 P' c') (hb:P'.bc=P.bc) (hP:∀ b∈P'.all,b∈P.all∨w.heap.size<=b) (ho:Only P.all w w1) :
  SimAt w0 w1 (paint own P'.all (.C i)) s { p with pl:=p.pl.set i (some P') } { st with cl:=st.cl.set i (some c') }:=by
 have hi:=(List.getElem?_eq_some_iff.1 hp).1;have hj:=(List.getElem?_eq_some_iff.1 hc).1
 have hC:∀ b∈P.all,own b=some (.C i):=by
  have:=h.ca.2 i hi hj;rw[(List.getElem?_eq_some_iff.1 hp).2,(List.getElem?_eq_some_iff.1 hc).2] at this;exact this.2
 have hq:∀ b∈P'.all,own b=some (.C i)∨w.heap.size<=b:=fun b hb=>(hP b hb).imp (hC b) id;have hx:=h.ext_paint hq;have no:∀ {t:Tag},t≠ .C i->∀ x∈P.all,own x≠some t:=fun ht x hx q=>ht (by rw[hC x hx] at q;exact (Option.some.inj q).symm);refine⟨h.only.trans ho fun x hx=>.inr (h.lt x _ (hC x hx)).1,h.lt_paint ho.size hq h'.lt,?_,?_,?_,?_,?_,?_,?_,?_⟩
 ·exact (h.wa.kept ho (no (by simp))).ext hx
 ·have:=(h.aa.kept ho (no (by simp))).ext hx
  refine⟨this.1,by simpa using this.2.1,?_⟩
  have e:(p.pl.set i (some P')).map (Option.map Pl.bc)=p.pl.map (Option.map Pl.bc):=by
   rw[List.map_set];refine List.ext_getElem (by simp) fun j h1 h2=>?_;rw[List.getElem_set];split
   ·rename_i hij
    subst hij;rw[List.getElem_map,(List.getElem?_eq_some_iff.1 hp).2];simp[hb]
   ·rfl
  rw[e];exact this.2.2
 ·refine⟨by simpa using h.ca.1,fun j h1 h2=>?_⟩
  rw[List.getElem_set,List.getElem_set];by_cases hij:i=j
  ·subst hij
   rw[if_pos rfl,if_pos rfl];exact⟨h',fun b hb=>paint_in hb⟩
  ·rw[if_neg hij,if_neg hij]
   have:=h.ca.2 j (by simpa using h1) (by simpa using h2);revert this
   cases p.pl[j]'(by simpa using h1)<;>cases st.cl[j]'(by simpa using h2)<;>dsimp only
   ·exact id
   ·exact id
   ·exact id
   ·rintro⟨q1,q2⟩
    exact⟨q1.off ho fun b hb hm=>hij (by have:=hC b hm;rw[q2 b hb] at this;cases this;rfl),fun b hb=>hx _ _ (q2 b hb)⟩
 ·exact (h.qa.kept ho (no (by simp))).ext hx
 ·exact (h.ev.kept ho (no (by simp))).ext hx
 ·exact (h.ea.kept ho fun x hx y _ j _=>no (by simp) x hx).ext hx
 ·exact (h.ms.kept ho (no (by simp))).ext hx
 ·exact (h.ls.kept ho (no (by simp))).ext hx
theorem SimAt.off (h:SimAt w0 w own s p st) {b j:Nat} (hb:own b=some (.V j)) (hj:∀ x∈st.q,x.x≠j) (ho:Only [b] w w1):SimAt w0 w1 own s p st:=by
 have no:∀ {t:Tag},t≠ .V j->∀ x∈[b],own x≠some t:=fun ht x hx q=>ht (by rw[List.mem_singleton.1 hx,hb] at q;exact (Option.some.inj q).symm);refine⟨h.only.trans ho fun x hx=>.inr (by rw[List.mem_singleton.1 hx];exact (h.lt b _ hb).1),fun b t q=>⟨(h.lt b t q).1,Nat.lt_of_lt_of_le (h.lt b t q).2 ho.size⟩,?_,?_,?_,?_,?_,?_,?_,?_⟩
 ·exact h.wa.kept ho (no (by simp))
 ·exact h.aa.kept ho (no (by simp))
 ·exact h.ca.kept ho fun x hx i=>no (by simp) x hx
 ·exact h.qa.kept ho (no (by simp))
 ·exact h.ev.kept ho (no (by simp))
 ·exact h.ea.kept ho fun x hx y hy i hi=>no (by intro e;cases e;exact hj y hy hi) x hx
 ·exact h.ms.kept ho (no (by simp))
 ·exact h.ls.kept ho (no (by simp))
theorem SimAt.cnt (h:SimAt w0 w own s p st) {n:Int} (ho:Only [p.bw] w w1) (hw:WAt w1 own s p { st with sent:=n }):SimAt w0 w1 own s p { st with sent:=n }:=by
 have hb:=h.wa.1;have no:∀ {t:Tag},t≠ .W->∀ x∈[p.bw],own x≠some t:=fun ht x hx q=>ht (by rw[List.mem_singleton.1 hx,hb] at q;exact (Option.some.inj q).symm);refine⟨h.only.trans ho fun x hx=>.inr (by rw[List.mem_singleton.1 hx];exact (h.lt _ _ hb).1),fun b t q=>⟨(h.lt b t q).1,Nat.lt_of_lt_of_le (h.lt b t q).2 ho.size⟩,hw,?_,?_,?_,?_,?_,?_,?_⟩
 ·exact h.aa.kept ho (no (by simp))
 ·exact h.ca.kept ho fun x hx i=>no (by simp) x hx
 ·exact h.qa.kept ho (no (by simp))
 ·exact h.ev.kept ho (no (by simp))
 ·exact h.ea.kept ho fun x hx y _ i _=>no (by simp) x hx
 ·exact h.ms.kept ho (no (by simp))
 ·exact h.ls.kept ho (no (by simp))
theorem own_lt {α:Type} {enc:α->List Value} {e:TypeId} {s B:Nat} {w:World} {v:Value} {l:List α} (h:Own enc e s B w v l):∀ k∈v.ownBlock.toList,B<=k/\k<w.heap.size:=fun k hk=>by
 rcases h with ⟨rfl,_⟩|⟨g,cap,rfl,q1,q2⟩
 ·simp[Value.ownBlock] at hk
 ·simp only[Value.ownBlock,Option.toList_some,List.mem_singleton] at hk
  subst hk;exact⟨q1,q2.lt⟩
theorem SimAt.mrk (h:SimAt w0 w own s p st) {S:List Nat} {v':Value} {x:Mrk} (ho:Only S w w1) (hS:∀ x∈S,own x=some .M∨own x=some .W) (hv:Own mkC 41 9 w0.heap.size w1 v' (st.mks ++ [x])) (hvb:∀ k∈v'.ownBlock.toList,k∈p.vm.ownBlock.toList∨w.heap.size<=k)
  (hw:WAt w1 own s { p with vm:=v' } st):SimAt w0 w1 (paint own v'.ownBlock.toList .M) s { p with vm:=v' } { st with mks:=st.mks ++ [x] }:=by
 have hq:∀ b∈v'.ownBlock.toList,own b=some .M∨w.heap.size<=b:=fun b hb=>(hvb b hb).imp (h.ms.2 b) id;have hx:=h.ext_paint hq
 have no:∀ {t:Tag},t≠ .M->t≠ .W->∀ x∈S,own x≠some t:=fun h1 h2 x hx q=>by
  rcases hS x hx with q'|q'<;>rw[q] at q'
  ·exact h1 (Option.some.inj q')
  ·exact h2 (Option.some.inj q')
 refine⟨h.only.trans ho fun x hx=>.inr (by rcases hS x hx with q|q<;>exact (h.lt x _ q).1),h.lt_paint ho.size hq fun b hb=>(own_lt hv b hb).2,?_,?_,?_,?_,?_,?_,?_,?_⟩
 ·exact⟨hx _ _ hw.1,hw.2⟩
 ·exact (h.aa.kept ho (no (by simp) (by simp))).ext hx
 ·exact (h.ca.kept ho fun x hx i=>no (by simp) (by simp) x hx).ext hx
 ·exact (h.qa.kept ho (no (by simp) (by simp))).ext hx
 ·exact (h.ev.kept ho (no (by simp) (by simp))).ext hx
 ·exact (h.ea.kept ho fun x hx y _ i _=>no (by simp) (by simp) x hx).ext hx
 ·exact⟨hv,fun b hb=>paint_in hb⟩
 ·exact (h.ls.kept ho (no (by simp) (by simp))).ext hx
theorem SimAt.ent (h:SimAt w0 w own s p st) {S:List Nat} {v':Value} {x:Ent} (ho:Only S w w1) (hS:∀ x∈S,own x=some .L∨own x=some .W) (hv:Own lgC 192 6 w0.heap.size w1 v' (st.lgs ++ [x])) (hvb:∀ k∈v'.ownBlock.toList,k∈p.vl.ownBlock.toList∨w.heap.size<=k)
  (hw:WAt w1 own s { p with vl:=v' } st):SimAt w0 w1 (paint own v'.ownBlock.toList .L) s { p with vl:=v' } { st with lgs:=st.lgs ++ [x] }:=by
 have hq:∀ b∈v'.ownBlock.toList,own b=some .L∨w.heap.size<=b:=fun b hb=>(hvb b hb).imp (h.ls.2 b) id;have hx:=h.ext_paint hq
 have no:∀ {t:Tag},t≠ .L->t≠ .W->∀ x∈S,own x≠some t:=fun h1 h2 x hx q=>by
  rcases hS x hx with q'|q'<;>rw[q] at q'
  ·exact h1 (Option.some.inj q')
  ·exact h2 (Option.some.inj q')
 refine⟨h.only.trans ho fun x hx=>.inr (by rcases hS x hx with q|q<;>exact (h.lt x _ q).1),h.lt_paint ho.size hq fun b hb=>(own_lt hv b hb).2,?_,?_,?_,?_,?_,?_,?_,?_⟩
 ·exact⟨hx _ _ hw.1,hw.2⟩
 ·exact (h.aa.kept ho (no (by simp) (by simp))).ext hx
 ·exact (h.ca.kept ho fun x hx i=>no (by simp) (by simp) x hx).ext hx
 ·exact (h.qa.kept ho (no (by simp) (by simp))).ext hx
 ·exact (h.ev.kept ho (no (by simp) (by simp))).ext hx
 ·exact (h.ea.kept ho fun x hx y _ i _=>no (by simp) (by simp) x hx).ext hx
 ·exact (h.ms.kept ho (no (by simp) (by simp))).ext hx
 ·exact⟨hv,fun b hb=>paint_in hb⟩
end
section
open Go.RowKit Go.Sort
def RtOk (r:Rot):Prop:=0<=r.ref/\r.ref<=4294967295
structure RtS (c:Cl):Prop where
 rt:RtOk c.rt
 src:∀ s∈c.srcs,RtOk s.rt
theorem z32:(0:Int)<=0/\(0:Int)<=4294967295:=by decide
theorem z64:(0:Int)<=0/\(0:Int)<=18446744073709551615:=by decide
theorem rt0_ok:RtOk ro0:=⟨by decide,by decide⟩
theorem ojoin_ok (p:Np) (s:Smp) {id:Int} (h0:0<=id) (h1:id<=4294967295):RtOk (ojoin p s id).1:=by
 unfold ojoin;split
 ·split
  ·split
   ·exact⟨h0,h1⟩
   ·exact rt0_ok
  ·exact rt0_ok
 ·exact rt0_ok
theorem sMeas_rt {s:Sr} {i:Int} {p:Np} {q:Qd} {prec tol:Int} (h:RtOk s.rt) (h0:0<=i) (h1:i<=4294967295):RtOk (sMeas s i p q prec tol).rt:=by
 unfold sMeas;split
 ·split
  ·exact ojoin_ok _ _ h0 h1
  ·exact h
 ·exact h
theorem sProve_rt {s:Sr} {iv:Iv} {raw tol:Int}:(sProve s iv raw tol).rt=s.rt:=by
 unfold sProve;split
 ·split<;>rfl
 ·rfl
theorem sRecv_rt {s:Sr} {i:Int} {p:Np} {iv:Iv} {has:Bool} {raw now prec tol:Int} (h:RtOk s.rt) (h0:0<=i) (h1:i<=100):RtOk (sRecv s i p iv has raw now prec tol).2.rt:=by
 unfold sRecv;split
 ·exact h
 ·split
  ·refine sMeas_rt ?_ (by omega) (by omega)
   split
   ·rw[sProve_rt];exact h
   ·exact h
  ·exact h
theorem sSend_rt {s:Sr} {raw now nonce:Int}:(sSend s raw now nonce).2.2.rt=s.rt:=by
 unfold sSend;split<;>rfl
theorem rt_getD {l:List Sr} {i:Nat} {c:Cf} (h:∀ x∈l,RtOk x.rt):RtOk (l.getD i (sr0 c)).rt:=by
 by_cases hi:i<l.length
 ·rw[getD_eq_getElem?_getD,List.getElem?_eq_getElem hi];exact h _ (List.getElem_mem hi)
 ·rw[getD_eq_getElem?_getD,List.getElem?_eq_none (by omega)];exact rt0_ok
theorem rt_set {l:List Sr} {i:Nat} {s:Sr} (h:∀ x∈l,RtOk x.rt) (hs:RtOk s.rt):∀ x∈l.set i s,RtOk x.rt:=fun x hx=>by
 rcases List.mem_or_eq_of_mem_set hx with q|rfl
 ·exact h x q
 ·exact hs
theorem enter_rt (c:Cl) (raw:Int):(clEnter c raw).2.2.rt=c.rt/\(clEnter c raw).2.2.srcs=c.srcs:=by
 unfold clEnter;split<;>exact⟨rfl,rfl⟩
theorem RtS.send {c:Cl} (h:RtS c) (server raw nonce:Int):RtS (clSend c server raw nonce).2:=by
 unfold clSend;split
 ·split
  ·exact⟨by show RtOk (clEnter c raw).2.2.rt;rw[(enter_rt c raw).1];exact h.rt,rt_set h.src (by rw[sSend_rt];exact rt_getD h.src)⟩
  ·exact h
 ·exact h
theorem RtS.recv {c:Cl} (h:RtS c) (hn:c.srcs.length<=12) (server:Int) (p:Np) (iv:Iv) (has:Bool) (raw:Int):RtS (clRecv c server p iv has raw).2:=by
 unfold clRecv;split
 ·rename_i hw
  have:=wth_iff.1 hw;split
  ·exact⟨by show RtOk (clEnter c raw).2.2.rt;rw[(enter_rt c raw).1];exact h.rt,rt_set h.src (sRecv_rt (rt_getD h.src) (by omega) (by omega))⟩
  ·exact h
 ·exact h
theorem upB_rt {c:Cl} (h:RtS c) (raw:Int):RtS (updB c raw):=
 ⟨by show RtOk (clEnter c raw).2.2.rt;rw[(enter_rt c raw).1];exact h.rt,by show ∀ s∈(clEnter c raw).2.2.srcs,_;rw[(enter_rt c raw).2];exact h.src⟩
theorem strM_rt {c:Cl} {now off:Int} {kept:List Cd} (h:RtS c):RtS (strM c now off kept):=by
 have hs:∀ s∈adR off (jitC kept) kept c.srcs,RtOk s.rt:=adR_all (p:=fun s=>RtOk s.rt) (fun s hs=>hs) _ _ h.src;refine⟨?_,hs⟩;show RtOk (rootC (adR off (jitC kept) kept c.srcs) kept)
 unfold rootC;split
 ·rename_i s hq
  exact hs s (List.mem_of_getElem? hq)
 ·exact rt0_ok
theorem strC_rt {c:Cl} {raw now off:Int} {kept:List Cd} (h:RtS c):RtS (strC c raw now off kept).2.2:=by
 have hm:=strM_rt (now:=now) (off:=off) (kept:=kept) h;unfold strC;split
 ·split
  ·dsimp only
   split
   ·refine⟨hm.rt,fun s hs=>?_⟩
    obtain⟨y,hy,rfl⟩:=List.mem_map.1 hs;exact hm.src y hy
   ·exact⟨hm.rt,hm.src⟩
  ·exact⟨hm.rt,hm.src⟩
 ·exact⟨h.rt,h.src⟩
theorem RtS.upd {c c':Cl} {raw er:Int} {a:Ac} (h:RtS c) (hu:UpdX c raw a er c'):RtS c':=by
 rcases hu with ⟨_,_,_,rfl⟩|⟨_,⟨_,_,_,rfl⟩|⟨ins,hv,_,_,hs⟩⟩
 ·exact⟨by rw[(enter_rt c raw).1];exact h.rt,by rw[(enter_rt c raw).2];exact h.src⟩
 ·exact upB_rt h raw
 ·have:c'=(strC (updB c raw) raw (clEnter c raw).1 (meanC (updK c raw ins)) (updK c raw ins)).2.2:=by rw[<-hs]
  rw[this];exact strC_rt (upB_rt h raw)
theorem selE_not {l:List Cd} (h:selE l≠0):¬ Gd l∨sel l=none:=by
 by_cases hg:Gd l
 ·right
  cases hs:sel l with
  | none=>rfl
  | some x=>exact absurd (selE_zero hg hs) h
 ·exact .inl hg
theorem UpdX.R {c c':Cl} {raw er:Int} {a:Ac} (h:UpdX c raw a er c'):UpdR c raw a er c':=by
 rcases h with h|⟨h1,⟨h2,h3,h4,h5⟩|h⟩
 ·exact .inl h
 ·exact .inr ⟨h1,.inl ⟨h2,h4,h5,selE_not (h3 ▸ h2)⟩⟩
 ·exact .inr ⟨h1,.inr h⟩
structure ClV (c:Cl):Prop where
 u:ClU c
 r:RtS c
theorem ClV.len {c:Cl} (h:ClV c):c.srcs.length<=12:=by have:=h.u.ok.len;have:=h.u.ok.s1;omega
theorem ClV.send {c:Cl} (h:ClV c) (server raw nonce:Int):ClV (clSend c server raw nonce).2:=⟨h.u.send _ _ _,h.r.send _ _ _⟩
theorem ClV.recv {c:Cl} (h:ClV c) (server:Int) {p:Np} (hp:npOk p) (iv:Iv) (has:Bool) (raw:Int):ClV (clRecv c server p iv has raw).2:=⟨h.u.recv _ hp _ _ _,h.r.recv h.len _ _ _ _ _⟩
theorem ClV.upd {c c':Cl} {raw er:Int} {a:Ac} (h:ClV c) (hu:UpdX c raw a er c'):ClV c':=⟨(h.u.upd hu.R).1,h.r.upd hu⟩
theorem ClV.new {c:Cf} {raw:Int} (h:ccheck c=0) (hr:isT raw=true):ClV (cl0 c raw raw):=by
 have h0:=ClU.new h;refine⟨⟨ClOk.new hr hr (ccheck_ok h).1,h0.sv,h0.g,h0.tol,h0.kp,h0.rd⟩,z32,fun s hs=>?_⟩;obtain rfl:=(List.mem_replicate.1 hs).2;exact rt0_ok
theorem ofS_u (t:Int):0<=ofS t/\ofS t<=18446744073709551615:=by unfold ofS;omega
theorem np0_ok:npOk np0:=by unfold npOk np0;decide
theorem npOk.xm {p:Np} {x:Int} (h:npOk p) (h0:0<=x) (h1:x<=18446744073709551615):npOk { p with xmt:=x }:=⟨h.1,h.2.1,h.2.2.1,h.2.2.2.1,h.2.2.2.2.1,⟨h0,h1⟩,h.2.2.2.2.2.2⟩
theorem npOk.rc {p:Np} {x:Int} (h:npOk p) (h0:0<=x) (h1:x<=18446744073709551615):npOk { p with rcv:=x }:=⟨h.1,h.2.1,h.2.2.1,h.2.2.2.1,⟨h0,h1⟩,h.2.2.2.2.2⟩
theorem aSend_np {a:As} {now nonce:Int} (h0:0<=nonce) (h1:nonce<=18446744073709551615):npOk (aSend a now nonce).1:=by
 unfold aSend;split
 ·split
  ·exact np0_ok
  ·split
   ·exact np0_ok
   ·exact (show npOk { np0 with ver:=a.ver,mode:=3 } from np0_ok).xm h0 h1
 ·exact np0_ok
theorem sSend_np {s:Sr} {raw now nonce:Int} (h0:0<=nonce) (h1:nonce<=18446744073709551615):npOk (sSend s raw now nonce).1:=by
 unfold sSend;split
 ·exact aSend_np h0 h1
 ·exact np0_ok
theorem clSend_np {c:Cl} {server raw nonce:Int} (h0:0<=nonce) (h1:nonce<=18446744073709551615):npOk (clSend c server raw nonce).1.1:=by
 unfold clSend;split
 ·split
  ·exact sSend_np h0 h1
  ·exact np0_ok
 ·exact np0_ok
theorem rpy_np {p:Np} {t:Int} {r:Rot} (hp:npOk p) (hr:RtOk r) (h0:0<=t) (h1:t<=18446744073709551615):npOk (rpyF p t r).1:=by
 unfold rpyF;split
 ·split
  ·refine⟨?_,?_,hr,hp.2.2.2.2.2.1,⟨h0,h1⟩,⟨h0,h1⟩,z64⟩<;>dsimp only<;>unfold fldF<;>(repeat' split)<;>first|exact shoF_u _|exact z32
  ·exact np0_ok
 ·exact np0_ok
theorem xor_u (a b:Int):0<=bits .xor .u64 a b/\bits .xor .u64 a b<=18446744073709551615:=by
 have h:∀ x:Int,0<=IntKind.u64.wrap x/\IntKind.u64.wrap x<=18446744073709551615:=fun x=>by rw[IntKind.wrap_u64];omega
 exact h _
theorem frg_np {t:Int} {g:Fg} {f:Ft} (h:npOk g.hd):npOk (frgF t g f).hd:=by
 have shd:∀ s v x,shdF s v t=some x->0<=x/\x<=18446744073709551615:=fun s v x hx=>by
  unfold shdF at hx;split at hx
  ·cases hx;exact ofS_u _
  ·cases hx
 have sR:∀ (g:Fg) s v,npOk g.hd->npOk (g.setR (shdF s v t)).hd:=fun g s v h=>by
  cases hq:shdF s v t with
  | none=>exact h
  | some x=>exact h.rc (shd _ _ _ hq).1 (shd _ _ _ hq).2
 have sX:∀ (g:Fg) s v,npOk g.hd->npOk (g.setX (shdF s v t)).hd:=fun g s v h=>by
  cases hq:shdF s v t with
  | none=>exact h
  | some x=>exact h.xm (shd _ _ _ hq).1 (shd _ _ _ hq).2
 have sI:∀ (g:Fg) o,(g.setI o).hd=g.hd:=fun g o=>by cases o<;>rfl
 unfold frgF;split
 ·exact h
 ·split
  ·dsimp only;rw[sI];exact sX _ _ _ (sR _ _ _ h)
  ·split
   ·rw[sI];exact h
   ·split
    ·exact h
    ·split
     ·exact h
     ·split
      ·exact h
      ·split
       ·exact⟨h.1,h.2.1,h.2.2.1,xor_u _ _,h.2.2.2.2⟩
       ·split
        ·exact⟨h.1,h.2.1,(by decide:(0:Int)<=1380013125/\(1380013125:Int)<=4294967295),h.2.2.2⟩
        ·split<;>exact h
theorem app_np {l:List Ft} {n t:Int} {p:Np} {v:Iv} (h:npOk p):npOk (appF l n t p v).hd:=by
 unfold appF
 have key:∀ (l:List Ft) (g:Fg),npOk g.hd->npOk (l.foldl (frgF t) g).hd:=by
  intro l;induction l with
  | nil=>exact fun _ h=>h
  | cons f r ih=>exact fun g h=>ih _ (frg_np h)
 exact key _ _ h
end
section
open Go.RowKit Go.Sort
def isCl (n:Nd):Bool:=!n.rf && decide (0<n.sv.length)
def TrOk (s:Scn) (t:Trp):Prop:=(∃ i j:Nat,t.c=i/\t.s=j/\i<s.nd.length/\j<s.nd.length/\isCl (nodeF s i)=true)/\0<=t.n/\t.n<=1000000000
def EvOk (s:Scn):EvS->Prop
 | .poll t=>TrOk s t
 | .req t h=>TrOk s t/\npOk h
 | .dep t h _=>TrOk s t/\npOk h
 | .rep t h _=>TrOk s t/\npOk h
def evD:EvS:=.poll ⟨0,0,0,0⟩
def wgt (un t:Int):EvS->Nat
 | .poll _=>14*((un-t) / 16000000000+1).toNat
 | .req _ _=>9
 | .dep _ _ _=>6
 | .rep _ _ _=>3
def phi (s:Scn) (ev:List EvS) (q:List Ev):Nat:=(q.map fun x=>wgt s.un x.t (ev.getD x.x.toNat evD)).sum
def tot (s:Scn) (st:Sim):Nat:=st.ev.length+st.sent.toNat+st.mks.length+st.lgs.length+phi s st.ev st.q
structure SimI (s:Scn) (st:Sim):Prop where
 pu:st.pu=st.ev.length
 tm:0<=st.tm
 srt:QSrt st.q
 nd:st.q.Pairwise fun x y=>x.i≠y.i
 q:∀ x∈st.q,1<=x.i/\x.i<=st.pu/\x.x=x.i-1/\st.tm<=x.t/\x.t<=s.un
 ev:∀ e∈st.ev,EvOk s e
 cln:st.cl.length=s.nd.length
 cl:∀ (i:Nat) (c:Cl),st.cl[i]? = some (some c)->ClV c
 sn:0<=st.sent
def ClF (s:Scn) (st:Sim):Prop:=∀ i:Nat,i<s.nd.length->isCl (nodeF s i)=true->∃ c,st.cl[i]? = some (some c)
theorem SimI.idx {s:Scn} {st:Sim} (h:SimI s st) {x:Ev} (hx:x∈st.q):x.x.toNat<st.ev.length/\0<=x.x:=by
 have:=h.q x hx;have:=h.pu;omega
theorem phi_app {s:Scn} {ev:List EvS} {e:EvS}:∀ {q:List Ev},(∀ x∈q,x.x.toNat<ev.length)->phi s (ev ++ [e]) q=phi s ev q
 | [],_=>rfl
 |x::r,h=>by
  have ih:=phi_app (s:=s) (e:=e) (q:=r) fun y hy=>h y (mem_cons_of_mem _ hy);have hx:=h x (mem_cons_self ..)
  have hg:(ev ++ [e]).getD x.x.toNat evD=ev.getD x.x.toNat evD:=by
   rw[getD_eq_getElem?_getD,getD_eq_getElem?_getD,List.getElem?_append_left hx]
  unfold phi at ih ⊢;rw[map_cons,sum_cons,map_cons,sum_cons,ih,hg]
theorem phi_ins {s:Scn} {ev:List EvS} {x:Ev}:∀ {q:List Ev},phi s ev (qIns x q)=phi s ev q+wgt s.un x.t (ev.getD x.x.toNat evD)
 | []=>by simp[qIns,phi]
 |y::r=>by
  have ih:=phi_ins (s:=s) (ev:=ev) (x:=x) (q:=r);unfold qIns;split
  ·unfold phi at ih ⊢
   rw[map_cons,sum_cons,map_cons,sum_cons,ih];omega
  ·unfold phi
   rw[map_cons,sum_cons];omega
theorem sch_same (s:Scn) (st:Sim) (t:Int) (e:EvS):(schF s st t e).cl=st.cl/\(schF s st t e).sent=st.sent/\(schF s st t e).mks=st.mks/\(schF s st t e).lgs=st.lgs/\(schF s st t e).tm=st.tm:=by
 unfold schF;split
 ·exact⟨rfl,rfl,rfl,rfl,rfl⟩
 ·split<;>exact⟨rfl,rfl,rfl,rfl,rfl⟩
theorem qIns_nd {e:Ev}:∀ {q:List Ev},q.Pairwise (fun x y=>x.i≠y.i)->(∀ x∈q,x.i≠e.i)->(qIns e q).Pairwise fun x y=>x.i≠y.i
 | [],_,_=>by simp[qIns]
 |x::r,h,hi=>by
  obtain⟨h1,h2⟩:=List.pairwise_cons.1 h;unfold qIns;split
  ·refine List.pairwise_cons.2 ⟨fun y hy=>?_,qIns_nd h2 fun y hy=>hi y (mem_cons_of_mem _ hy)⟩
   rcases qIns_mem.1 hy with rfl|hy
   ·exact hi x (mem_cons_self ..)
   ·exact h1 y hy
  ·exact List.pairwise_cons.2 ⟨fun y hy=>Ne.symm (hi y hy),h⟩
theorem pushErr_ok {lim tm:Int} {n:Nat} {t:Int} (h:pushErr lim tm n t=0):0<=t/\tm<=t/\(n:Int)<lim:=by
 unfold pushErr at h;split at h
 ·exact absurd h (by decide)
 ·split at h
  ·exact absurd h (by decide)
  ·split at h
   ·exact absurd h (by decide)
   ·omega
theorem SimI.sch {s:Scn} {st:Sim} (h:SimI s st) (t:Int) {e:EvS} (he:EvOk s e):SimI s (schF s st t e):=by
 unfold schF;split
 ·exact h
 ·rename_i hu
  split
  ·rename_i hp
   have hp:=pushErr_ok hp;have hpu:=h.pu;refine⟨by dsimp only;rw[hpu,length_append];rfl,h.tm,qIns_srt h.srt fun x hx=>?_,qIns_nd h.nd fun x hx=>?_,fun x hx=>?_,fun x hx=>?_,h.cln,h.cl,h.sn⟩
   ·have:=h.q x hx
    dsimp only;omega
   ·have:=h.q x hx
    dsimp only;omega
   ·rcases qIns_mem.1 hx with rfl|hx
    ·dsimp only;omega
    ·have:=h.q x hx
     dsimp only;omega
   ·rcases List.mem_append.1 hx with hx|hx
    ·exact h.ev x hx
    ·rw[List.mem_singleton.1 hx];exact he
  ·exact h
theorem sch_tot {s:Scn} {st:Sim} (h:SimI s st) (t:Int) (e:EvS):tot s (schF s st t e)<=tot s st+(if t<=s.un then 1+wgt s.un t e else 0):=by
 unfold schF;split
 ·omega
 ·rename_i hu
  rw[if_pos (show t<=s.un by omega)];split
  ·unfold tot
   dsimp only;rw[phi_ins,phi_app fun x hx=>(h.idx hx).1]
   have:(st.ev ++ [e]).getD ((st.ev.length:Int)).toNat evD=e:=by
    rw[Int.toNat_natCast,getD_eq_getElem?_getD];simp
   rw[this,length_append,List.length_singleton];dsimp only;omega
  ·omega
theorem SimI.note {s:Scn} {st:Sim} (h:SimI s st) (e:EvS) (t:Int):SimI s (noteF s st e t):=⟨h.pu,h.tm,h.srt,h.nd,h.q,h.ev,h.cln,h.cl,h.sn⟩
theorem note_tot (s:Scn) (st:Sim) (e:EvS) (t:Int):tot s (noteF s st e t)=tot s st+1:=by
 unfold noteF tot;dsimp only;rw[length_append,List.length_singleton];omega
theorem SimI.set {s:Scn} {st:Sim} (h:SimI s st) (i:Int) {c:Cl} (hc:ClV c):SimI s (setCl st i c):=by
 refine⟨h.pu,h.tm,h.srt,h.nd,h.q,h.ev,by unfold setCl;dsimp only;rw[List.length_set];exact h.cln,fun j d hd=>?_,h.sn⟩;unfold setCl at hd;dsimp only at hd;rw[List.getElem?_set] at hd;split at hd
 ·split at hd
  ·cases hd;exact hc
  ·cases hd
 ·exact h.cl j d hd
theorem ClF.set {s:Scn} {st:Sim} (h:ClF s st) (i:Int) (c:Cl):ClF s (setCl st i c):=by
 intro j hj hc;unfold setCl;dsimp only;rw[List.getElem?_set];split
 ·rename_i hij
  obtain⟨d,hd⟩:=h j hj hc;rw[if_pos (by have:=(List.getElem?_eq_some_iff.1 hd).1;omega)];exact⟨c,rfl⟩
 ·exact h j hj hc
theorem ClF.eq {s:Scn} {st st':Sim} (h:ClF s st) (he:st'.cl=st.cl):ClF s st':=fun j hj hc=>by rw[he];exact h j hj hc
theorem clOf_some {st:Sim} {i:Nat} {c:Cl}:clOf st i=some c↔st.cl[i]? = some (some c):=by
 unfold clOf;rw[Int.toNat_natCast,getD_eq_getElem?_getD]
 cases st.cl[i]? <;> simp
theorem SimI.of {s:Scn} {st:Sim} (h:SimI s st) {i:Int} {c:Cl} (hc:clOf st i=some c):ClV c:=by
 unfold clOf at hc;rw[getD_eq_getElem?_getD] at hc
 cases hq:st.cl[i.toNat]? with
 | none=>rw[hq] at hc;cases hc
 | some o=>rw[hq] at hc;exact h.cl _ _ (by rw[hq];exact congrArg some hc)
theorem SimI.pop {s:Scn} {st:Sim} (h:SimI s st) {x:Ev} {r:List Ev} (hq:st.q=x::r):SimI s { st with q:=r,tm:=x.t }/\st.ev[x.x.toNat]? = some (st.ev.getD x.x.toNat evD)/\EvOk s (st.ev.getD x.x.toNat evD) /\
  tot s st=tot s { st with q:=r,tm:=x.t }+wgt s.un x.t (st.ev.getD x.x.toNat evD)/\0<=x.t/\x.t<=s.un/\∀ y∈r,y.x≠x.x:=by
 have hs:=h.srt;have hd:=h.nd;rw[hq] at hs hd;obtain⟨d1,d2⟩:=List.pairwise_cons.1 hd;obtain⟨h1,h2⟩:=List.pairwise_cons.1 hs;have hx:=h.q x (by rw[hq];exact mem_cons_self ..);have hi:=h.idx (x:=x) (by rw[hq];exact mem_cons_self ..);have ht:=h.tm
 have hg:st.ev[x.x.toNat]? = some (st.ev.getD x.x.toNat evD):=by
  rw[getD_eq_getElem?_getD,List.getElem?_eq_getElem hi.1];rfl
 refine⟨⟨h.pu,by dsimp only;omega,h2,d2,fun y hy=>?_,h.ev,h.cln,h.cl,h.sn⟩,hg,h.ev _ (List.mem_of_getElem? hg),?_,by omega,hx.2.2.2.2,fun y hy=>?_⟩
 ·have:=h.q y (by rw[hq];exact mem_cons_of_mem _ hy)
  have:=h1 y hy;dsimp only;omega
 ·unfold tot phi
  rw[hq];dsimp only;rw[map_cons,sum_cons];omega
 ·have:=h.q y (by rw[hq];exact mem_cons_of_mem _ hy)
  have:=d1 y hy;omega
theorem arv_ev {s:Scn} {e:EvS} (h:EvOk s e):TrOk s e.trp:=by
 cases e<;>first|exact h|exact h.1
theorem TrOk.num {s:Scn} {t:Trp} (h:TrOk s t) {n:Int} (h0:0<=n) (h1:n<=1000000000):TrOk s ⟨t.c,t.i,t.s,n⟩:=⟨h.1,h0,h1⟩
theorem SimI.cnt {s:Scn} {st:Sim} (h:SimI s st):SimI s { st with sent:=st.sent+1 }:=⟨h.pu,h.tm,h.srt,h.nd,h.q,h.ev,h.cln,h.cl,by have:=h.sn;dsimp only;omega⟩
theorem cnt_tot {s:Scn} {st:Sim} (h:SimI s st):tot s { st with sent:=st.sent+1 }=tot s st+1:=by
 have:=h.sn;unfold tot;dsimp only;omega
theorem set_tot (s:Scn) (st:Sim) (i:Int) (c:Cl):tot s (setCl st i c)=tot s st:=rfl
theorem SimI.mark {s:Scn} {st:Sim} (h:SimI s st) (l:List Mrk):SimI s { st with mks:=l }:=⟨h.pu,h.tm,h.srt,h.nd,h.q,h.ev,h.cln,h.cl,h.sn⟩
theorem SimI.poll {R:List (Int × Int)} {s:Scn} {st:Sim} (h:SimI s st) (hF:ClF s st) {t:Int} (ht:t<=s.un) {p:Trp} (he:TrOk s p) (hn:st.sent<=1000000000) :
  SimI s (pollF R s st t p)/\ClF s (pollF R s st t p)/\tot s (pollF R s st t p)+1<=tot s st+wgt s.un t (.poll p):=by
 obtain⟨e1,e2,e3,e4,e5⟩:=sch_same s st (t+16000000000) (.poll ⟨p.c,p.i,p.s,0⟩);have k1:SimI s (schF s st (t+16000000000) (.poll ⟨p.c,p.i,p.s,0⟩)):=h.sch _ (he.num (Int.le_refl _) (by decide));have f1:ClF s (schF s st (t+16000000000) (.poll ⟨p.c,p.i,p.s,0⟩)):=hF.eq e1
 have t1:tot s (schF s st (t+16000000000) (.poll ⟨p.c,p.i,p.s,0⟩))+13<=tot s st+wgt s.un t (.poll p):=by
  have:=sch_tot h (t+16000000000) (.poll ⟨p.c,p.i,p.s,0⟩);split at this<;>simp only[wgt] at this ⊢<;>omega
 unfold pollF;generalize schF s st (t+16000000000) (.poll ⟨p.c,p.i,p.s,0⟩)=st1 at *;dsimp only;split
 ·exact⟨k1,f1,by omega⟩
 ·rename_i c hc
  have hm:=mixF_u (R:=R) s.sd st1.sent;have hnp:=clSend_np (c:=c) (server:=p.i) (raw:=rawF s p.c t) (nonce:=max (mixF R s.sd st1.sent) 1) (by omega) (by omega);have k2:=k1.set p.c ((k1.of hc).send p.i (rawF s p.c t) (max (mixF R s.sd st1.sent) 1));have f2:=f1.set p.c (clSend c p.i (rawF s p.c t) (max (mixF R s.sd st1.sent) 1)).2;have t2:=set_tot s st1 p.c (clSend c p.i (rawF s p.c t) (max (mixF R s.sd st1.sent) 1)).2;have s2:(setCl st1 p.c (clSend c p.i (rawF s p.c t) (max (mixF R s.sd st1.sent) 1)).2).sent=st.sent:=e2;generalize setCl st1 p.c (clSend c p.i (rawF s p.c t) (max (mixF R s.sd st1.sent) 1)).2=st2 at *;generalize (clSend c p.i (rawF s p.c t) (max (mixF R s.sd st1.sent) 1)).1=r at *;split
  ·have k3:=k2.cnt
   have t3:=cnt_tot k2;have f3:ClF s { st2 with sent:=st2.sent+1 }:=f2;generalize ({ st2 with sent:=st2.sent+1 }:Sim)=st3 at *;split
   ·refine⟨k3.note _ _,f3,?_⟩
    rw[note_tot];omega
   ·rename_i u _
    have hs:=h.sn;have he':EvOk s (.req ⟨p.c,p.i,p.s,st2.sent⟩ r.1):=⟨he.num (by omega) (by omega),hnp⟩;have k4:=k3.sch u he';have t4:=sch_tot k3 u (.req ⟨p.c,p.i,p.s,st2.sent⟩ r.1);have f4:ClF s (schF s st3 u (.req ⟨p.c,p.i,p.s,st2.sent⟩ r.1)):=f3.eq (sch_same ..).1;refine⟨k4.note _ _,f4,?_⟩;rw[note_tot];split at t4<;>(try simp only[wgt] at t4)<;>omega
  ·exact⟨k2,f2,by omega⟩
theorem ans_np {s:Scn} {st:Sim} (h:SimI s st) {i:Int} (i0:0<=i) (i1:i<=1000000) {p:Np} (hp:npOk p) (t:Int):npOk (ansF s st i p t).1:=by
 have hpr:RtOk (priF (nodeF s i).er (i+1)).1:=by
  unfold priF;split
  ·exact⟨by dsimp only;omega,by dsimp only;omega⟩
  ·exact rt0_ok
 unfold ansF;split
 ·split
  ·exact rpy_np hp hpr (ofS_u _).1 (ofS_u _).2
  ·exact np0_ok
 ·split
  ·exact np0_ok
  ·rename_i c hc
   split
   ·exact rpy_np hp (h.of hc).r.rt (ofS_u _).1 (ofS_u _).2
   ·exact np0_ok
theorem SimI.req {s:Scn} {st:Sim} (h:SimI s st) (hF:ClF s st) (hl:s.nd.length<=1000) (t:Int) {p:Trp} {q:Np} (he:EvOk s (.req p q)) :
  SimI s (reqF s st t p q)/\ClF s (reqF s st t p q)/\tot s (reqF s st t p q)+1<=tot s st+wgt s.un t (.req p q):=by
 unfold reqF;dsimp only
 have hn:npOk (ansF s st p.s q t).1:=by
  obtain⟨⟨i,j,_,h2,_,h4,_⟩,_⟩:=he.1;exact ans_np h (by omega) (by omega) he.2 t
 generalize ansF s st p.s q t=a at *;have hn2:npOk (appF s.ft p.s t a.1 a.2.1).hd:=app_np hn;generalize appF s.ft p.s t a.1 a.2.1=g at *
 have key:∀ st1,SimI s st1->ClF s st1->tot s st1+2<=tot s st+wgt s.un t (.req p q)->SimI s (noteF s st1 (.req p q) t)/\ClF s (noteF s st1 (.req p q) t)/\tot s (noteF s st1 (.req p q) t)+1<=tot s st+wgt s.un t (.req p q):=
  fun st1 a b c=>⟨a.note _ _,b,by rw[note_tot];omega⟩
 refine key _ ?_ ?_ ?_
 ·split
  ·split
   ·exact h
   ·exact h.sch _ (show EvOk s (.dep p g.hd g.iv) from ⟨he.1,hn2⟩)
  ·exact h
 ·split
  ·split
   ·exact hF
   ·exact hF.eq (sch_same ..).1
  ·exact hF
 ·have:=sch_tot h (t+g.hold) (.dep p g.hd g.iv)
  split
  ·split
   ·simp only[wgt];omega
   ·split at this<;>simp only[wgt] at this ⊢<;>omega
  ·simp only[wgt];omega
theorem SimI.dep {R:List (Int × Int)} {s:Scn} {st:Sim} (h:SimI s st) (hF:ClF s st) (t:Int) {p:Trp} {q:Np} {v:Iv} (he:EvOk s (.dep p q v)) :
  SimI s (depF R s st t p q v)/\ClF s (depF R s st t p q v)/\tot s (depF R s st t p q v)+1<=tot s st+wgt s.un t (.dep p q v):=by
 unfold depF;split
 ·exact⟨h.note _ _,hF,by rw[note_tot];simp only[wgt];omega⟩
 ·rename_i u _
  have:=sch_tot h u (.rep p q v);refine⟨(h.sch u (e:=.rep p q v) he).note _ _,hF.eq (sch_same s st u (.rep p q v)).1,?_⟩;rw[note_tot];split at this<;>simp only[wgt] at this ⊢<;>omega
theorem SimI.rep {s:Scn} {st st':Sim} (h:SimI s st) (hF:ClF s st) (t:Int) {p:Trp} {q:Np} {v:Iv} (he:EvOk s (.rep p q v)) (hr:RepR s st t p q v st') :
  SimI s st'/\ClF s st'/\tot s st'+1<=tot s st+wgt s.un t (.rep p q v):=by
 unfold RepR at hr;split at hr
 ·exact hr.elim
 ·rename_i c hc
  obtain⟨a,er,c2,hu,rfl⟩:=hr;have k1:=h.set p.c (((h.of hc).recv p.i he.2 v true (rawF s p.c t)).upd hu);have f1:=hF.set p.c c2;have t1:=set_tot s st p.c c2;split
  ·refine⟨(k1.mark _).note _ _,f1,?_⟩
   rw[note_tot]
   have:∀ m,tot s { setCl st p.c c2 with mks:=st.mks ++ [m] }=tot s st+1:=fun m=>by
    unfold tot setCl;dsimp only;rw[length_append,List.length_singleton];omega
   rw[this];simp only[wgt];omega
  ·refine⟨k1.note _ _,f1,?_⟩
   rw[note_tot,t1];simp only[wgt];omega
theorem StpR.inv {R:List (Int × Int)} {s:Scn} {st st':Sim} (h:SimI s st) (hF:ClF s st) (hl:s.nd.length<=1000) (hn:tot s st<=1000000000) (hs:StpR R s st st'):SimI s st'/\ClF s st'/\tot s st'+1<=tot s st:=by
 obtain⟨x,r,hq,hx⟩:=hs;obtain⟨k,-,he,ht,h0,h1,-⟩:=h.pop hq;have f:ClF s { st with q:=r,tm:=x.t }:=hF;have hsn:st.sent<=1000000000:=by have:=h.sn;unfold tot at hn;omega
 unfold evD at he ht;revert hx
 generalize st.ev.getD x.x.toNat (.poll ⟨0,0,0,0⟩)=e at *;rw[ht]
 cases e with
 | poll p=>rintro rfl;exact k.poll f h1 he hsn
 | req p q=>rintro rfl;exact k.req f hl _ he
 | dep p q v=>rintro rfl;exact k.dep f _ he
 | rep p q v=>exact fun hr=>k.rep f _ he hr
end
end Go.Proofs.YtppjhbjmfkiejaaGreat
