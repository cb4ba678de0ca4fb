/- Nt Nu -/
import Derived.Test.YtppjhbjmfkiejaaGreatFNl
import Derived.Test.YtppjhbjmfkiejaaGreatFNo
namespace Go.Proofs.YtppjhbjmfkiejaaGreat
set_option linter.all false
section
set_option maxRecDepth 100000
set_option maxHeartbeats 4000000
open Go.RowKit Go.Sort
theorem node_eq (s:ScW) (i:Nat):nodeF s.sc i=(s.nd.getD i nw0).n:=by
 unfold nodeF ScW.sc;rw[Int.toNat_natCast,List.getD_eq_getElem?_getD,List.getD_eq_getElem?_getD,List.getElem?_map]
 cases s.nd[i]? <;> rfl
theorem pRaw {w:World} {own:Col} {s:ScW} {p:SmP} {st:Sim} (hw:WAt w own s p st) (hs:s.Ok w) {i:Nat} (hi:i<s.nd.length) (ho:oscE (s.nd.getD i nw0).n.ph (s.nd.getD i nw0).n.sg=0) (t:Int) (t0:0<=t) (t1:t<=1125899906842624) :
  Calls Tryz.prog 42 #[.pointer (some ⟨p.bw,0,none⟩),.int .i64 i,.int .i64 t] w fun e w'=>e=.returned (.int .i64 (rawF s.sc i t))/\Only [] w w':=by
 unfold rawF;rw[node_eq];have hn:=hs.ndo _ (getD_mem nw0 hi);have HV:=Lib.hid hs.nd;have hl:=hs.ln;have HR:=Lib.hid (fun w' (o:Only [] w w')=>pORead _ t (hn.seg.kept o) ho t0 t1);have hb:=hw.2;obtain⟨bk,off,hpn,-⟩:=HV.out.nd (Only.refl [] w) hi
 have HX:=Lib.hid (show ∀ w',Only [] w w'->bk<w'.heap.size/\w'.cell? ⟨bk,off+i*7,none⟩=some (.int .i64 (s.nd.getD i nw0).n.ph)/\w'.cell? ⟨bk,off+i*7+1,none⟩=some (.slice (s.nd.getD i nw0).ps (s.nd.getD i nw0).n.sg.length (s.nd.getD i nw0).cs) from fun w' o=>by
  obtain⟨b',o',e,c1,c2,c3,-⟩:=HV.out.nd o hi;rw[hpn] at e
  cases e
  exact⟨c1,c2,c3⟩)
 rw[hpn] at hb;have hi2:(i:Int)<(s.nd.length:Int):=by omega
 clear hn hw hs ho HV hpn;generalize (s.nd.getD i nw0).n=nd at HR HX ⊢;generalize (s.nd.getD i nw0).ps=ps at HR HX;generalize (s.nd.getD i nw0).cs=cs at HR HX;have hsl:=hi;obtain⟨wo,hwo⟩:∃ wo:World,wo=w:=⟨_,rfl⟩;subst hwo;have m:=mmR hb;have k:=m.out.k;have c:=HX.out _ (Only.refl [] wo);clear hb;go_enter Tryz.func42,Tryz.ntmps42
 go_wp2_with (first|((with_reducible first|refine cM (HR.out _ gO) ?_|refine cU ?_|refine wU ?_);clear k m c;intro w m k;have c:=HX.out w m.out.only)|((with_reducible refine lE (fun w o g k K hK=>⟨rfl,?_⟩));simp[results,Tryz.results42,go_sem];refine hK _ ?_;exact⟨rfl,o⟩))
end
section
open Go.RowKit Go.Sort
variable {w0 w w1:World} {own:Col} {s:ScW} {p:SmP} {st:Sim}
theorem SimAt.base (h:SimAt w0 w own s p st):w0.heap.size<=w.heap.size:=h.only.size
theorem SimAt.lt_paint {l:List Nat} {t:Tag} (h:SimAt w0 w own s p st) (h1:w.heap.size<=w1.heap.size) (hl:∀ b∈l,own b=some t∨w.heap.size<=b) (hb:∀ b∈l,b<w1.heap.size) :
  ∀ b u,paint own l t b=some u->w0.heap.size<=b/\b<w1.heap.size:=fun b u hu=>by
 by_cases hm:b∈l
 ·rcases hl b hm with q|q
  ·exact⟨(h.lt b t q).1,hb b hm⟩
  ·exact⟨Nat.le_trans h.base q,hb b hm⟩
 ·rw[paint_out hm] at hu
  exact⟨(h.lt b u hu).1,Nat.lt_of_lt_of_le (h.lt b u hu).2 h1⟩
theorem SimAt.ext_paint {l:List Nat} {t:Tag} (h:SimAt w0 w own s p st) (hl:∀ b∈l,own b=some t∨w.heap.size<=b):Ext own (paint own l t):=
 paint_ext fun b hb=>(hl b hb).imp id fun q=>h.fresh q
theorem paint_old {l:List Nat} {t:Tag} (hl:∀ b∈l,own b=some t∨w.heap.size<=b) {b:Nat} (hb:b<w.heap.size):paint own l t b=own b:=by
 by_cases hm:b∈l
 ·rcases hl b hm with q|q
  ·rw[paint_in hm,q]
  ·omega
 ·exact paint_out hm
theorem SimAt.que (h:SimAt w0 w own s p st) {F':List Nat} {l' q':List Ev} {tm' pu':Int} (hq:Que w1 p.qb F' 4096 tm' pu' l') (ho:Only p.F w w1) (hF:∀ k∈F',k∈p.F∨w.heap.size<=k)
  (hl:∀ e,e∈l'↔e∈q') (hn:l'.length=q'.length) (hs:∀ x∈q',x∈st.q) :
  SimAt w0 w1 (paint own F' .Q) s { p with F:=F',l:=l' } { st with q:=q',tm:=tm',pu:=pu' }:=by
 have hQ:∀ x∈p.F,own x=some .Q:=h.qa.2.1;have hp:∀ b∈F',own b=some .Q∨w.heap.size<=b:=fun b hb=>(hF b hb).imp (hQ b) id;have hx:=h.ext_paint hp;have no:∀ {t:Tag},t≠ .Q->∀ x∈p.F,own x≠some t:=fun ht x hx q=>ht (by rw[hQ x hx] at q;exact (Option.some.inj q).symm);refine⟨h.only.trans ho fun x hx=>.inr (h.lt x _ (hQ x hx)).1,h.lt_paint ho.size hp hq.blocks,?_,?_,?_,?_,?_,?_,?_,?_⟩
 ·exact (h.wa.kept ho (no (by simp))).ext hx
 ·exact (h.aa.kept ho (no (by simp))).ext hx
 ·exact (h.ca.kept ho fun x hx i=>no (by simp) x hx).ext hx
 ·exact⟨hq,fun b hb=>paint_in hb,hl,hn⟩
 ·exact (h.ev.kept ho (no (by simp))).ext hx
 ·have:=(h.ea.kept ho fun x hx y _ j _=>no (by simp) x hx).ext hx
  exact⟨this.1,fun x hx=>this.2 x (hs x hx)⟩
 ·exact (h.ms.kept ho (no (by simp))).ext hx
 ·exact (h.ls.kept ho (no (by simp))).ext hx
theorem SimAt.put (h:SimAt w0 w own s p st) {F' S:List Nat} {l':List Ev} {t:Int} {e:EvS} {b:Nat} {v':Value} (hq:Que w1 p.qb F' 4096 st.tm (st.pu+1) l') (hF:∀ k∈F',k∈p.F∨w.heap.size<=k)
  (hb:own b=none) (hb0:w0.heap.size<=b) (hb1:b<w.heap.size) (hc:w1.heap[b]? = some (.cells (evC e).toArray (evT e) (0,0)))
  (ho:Only S w w1) (hS:∀ x∈S,own x=some .Q∨own x=some .E∨own x=some .W)
  (hv:Own evN 140 1 w0.heap.size w1 v' (p.eb ++ [(evP e,b)])) (hvb:∀ k∈v'.ownBlock.toList,k∈p.ve.ownBlock.toList∨(k ∉ F'/\w.heap.size<=k))
  (hw:WAt w1 own s { p with ve:=v' } st) (hl:∀ x,x∈l'↔x=⟨t,st.pu+1,st.ev.length⟩∨x∈st.q) (hn:l'.length=st.q.length+1) :
  ∃ own',SimAt w0 w1 own' s { p with F:=F',l:=l',ve:=v',eb:=p.eb ++ [(evP e,b)] } { st with q:=qIns ⟨t,st.pu+1,st.ev.length⟩ st.q,pu:=st.pu+1,ev:=st.ev ++ [e] }/\∀ x,x<w.heap.size->x≠b->own' x=own x:=by
 have hQ:∀ x∈p.F,own x=some .Q:=h.qa.2.1;have hE:∀ x∈p.ve.ownBlock.toList,own x=some .E:=h.ev.2;have p1:∀ k∈F',own k=some .Q∨w.heap.size<=k:=fun k hk=>(hF k hk).imp (hQ k) id;have x1:=h.ext_paint p1
 have bF:b ∉ F':=fun hm=>by
  rcases p1 b hm with q|q
  ·rw[hb] at q;cases q
  ·omega
 have bv:b ∉ v'.ownBlock.toList:=fun hm=>by
  rcases hvb b hm with q|q
  ·have:=hE b q;rw[hb] at this;cases this
  ·omega
 have x2:Ext (paint own F' .Q) (paint (paint own F' .Q) v'.ownBlock.toList .E):=paint_ext fun k hk=>by
  rcases hvb k hk with q|q
  ·exact .inl (x1 _ _ (hE k q))
  ·exact .inr (by rw[paint_out q.1];exact h.fresh q.2)
 have x3:Ext (paint (paint own F' .Q) v'.ownBlock.toList .E) (paint (paint (paint own F' .Q) v'.ownBlock.toList .E) [b] (.V st.ev.length)):=paint_ext fun k hk=>by
  rw[List.mem_singleton.1 hk,paint_out bv,paint_out bF];exact .inr hb
 have x13:Ext own (paint (paint (paint own F' .Q) v'.ownBlock.toList .E) [b] (.V st.ev.length)):=fun k u q=>x3 _ _ (x2 _ _ (x1 _ _ q))
 have vb0:∀ k∈v'.ownBlock.toList,w0.heap.size<=k/\k<w1.heap.size:=fun k hk=>by
  rcases hv with ⟨rfl,_⟩|⟨g,cap,rfl,q1,q2⟩
  ·simp[Value.ownBlock] at hk
  ·simp only[Value.ownBlock,Option.toList_some,List.mem_singleton] at hk
   subst hk;exact⟨q1,q2.lt⟩
 have hold:∀ x,x<w.heap.size->x≠b->(paint (paint (paint own F' .Q) v'.ownBlock.toList .E) [b] (.V st.ev.length)) x=own x:=fun x hx hxb=>by
  rw[paint_out (by simpa using hxb)];by_cases hm:x∈v'.ownBlock.toList
  ·rw[paint_in hm]
   rcases hvb x hm with q|q
   ·exact (hE x q).symm
   ·omega
  ·rw[paint_out hm]
   exact paint_old p1 hx
 have no:∀ {t:Tag},t≠ .Q->t≠ .E->t≠ .W->∀ x∈S,own x≠some t:=fun h1 h2 h3 x hx q=>by
  rcases hS x hx with q'|q'|q'<;>rw[q] at q'
  ·exact h1 (Option.some.inj q')
  ·exact h2 (Option.some.inj q')
  ·exact h3 (Option.some.inj q')
 have hlt:∀ k u,(paint (paint (paint own F' .Q) v'.ownBlock.toList .E) [b] (.V st.ev.length)) k=some u->w0.heap.size<=k/\k<w1.heap.size:=fun k u hk=>by
  by_cases h1:k=b
  ·subst h1;exact⟨hb0,Nat.lt_of_lt_of_le hb1 ho.size⟩
  ·rw[paint_out (by simpa using h1)] at hk
   by_cases h2:k∈v'.ownBlock.toList
   ·exact vb0 k h2
   ·rw[paint_out h2] at hk
    exact h.lt_paint ho.size p1 hq.blocks k u hk
 refine⟨_,⟨h.only.trans ho fun x hx=>.inr ?_,hlt,?_,?_,?_,?_,?_,?_,?_,?_⟩,hold⟩
 ·rcases hS x hx with q|q | q<;>exact (h.lt x _ q).1
 ·exact⟨x13 _ _ hw.1,hw.2⟩
 ·exact (h.aa.kept ho (no (by simp) (by simp) (by simp))).ext x13
 ·exact (h.ca.kept ho fun x hx i=>no (by simp) (by simp) (by simp) x hx).ext x13
 ·exact⟨hq,fun k hk=>x3 _ _ (x2 _ _ (paint_in hk)),fun x=>by rw[hl,qIns_mem],by rw[hn,qIns_len]⟩
 ·exact⟨hv,fun k hk=>x3 _ _ (paint_in hk)⟩
 ·have ha:=(h.ea.kept ho fun x hx y _ j _=>no (by simp) (by simp) (by simp) x hx).ext x13
  refine⟨by simp[ha.1],fun x hx=>?_⟩;rcases qIns_mem.1 hx with rfl|hx
  ·exact⟨st.ev.length,e,b,rfl,by simp,by rw[<-ha.1];simp,hc,paint_in (by simp)⟩
  ·obtain⟨j,e',b',q1,q2,q3,q4,q5⟩:=ha.2 x hx
   exact⟨j,e',b',q1,by rw[List.getElem?_append_left (List.getElem?_eq_some_iff.1 q2).1];exact q2,by rw[List.getElem?_append_left (List.getElem?_eq_some_iff.1 q3).1];exact q3,q4,q5⟩
 ·exact (h.ms.kept ho (no (by simp) (by simp) (by simp))).ext x13
 ·exact (h.ls.kept ho (no (by simp) (by simp) (by simp))).ext x13
end
end Go.Proofs.YtppjhbjmfkiejaaGreat
