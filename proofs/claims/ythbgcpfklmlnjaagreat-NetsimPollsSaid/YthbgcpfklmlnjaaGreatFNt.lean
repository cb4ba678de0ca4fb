/- Nt Nu Nv -/
import Derived.Test.YthbgcpfklmlnjaaGreatFNk
import Derived.Test.YthbgcpfklmlnjaaGreatFNo
namespace Go.Proofs.YthbgcpfklmlnjaaGreat
set_option linter.all false
set_option maxRecDepth 100000
set_option maxHeartbeats 8000000
open Go.RowKit Go.Sort
section
theorem eB (s:dU) (i:Nat):bJ s.sc i=(s.nd.getD i aU).n:=by
 unfold bJ dU.sc;rw[Int.toNat_natCast,List.getD_eq_getElem?_getD,List.getD_eq_getElem?_getD,List.getElem?_map]
 cases s.nd[i]? <;> rfl
theorem pRaw {w:World} {own:Col} {s:dU} {p:j5} {st:bS} (hw:Q8 w own s p st) (hs:s.Ok w) {i:Nat} (hi:i<s.nd.length) (ho:cZ (s.nd.getD i aU).n.ph (s.nd.getD i aU).n.sg=0) (t:Int) (t0:0<=t) (t1:t<=1125899906842624) :
  Calls Tryz.prog 33 #[.pointer (some ⟨p.bw,0,none⟩),.int .i64 i,.int .i64 t] w fun e w'=>e=.returned (.int .i64 (bO s.sc i t))/\Only [] w w':=by
 unfold bO;rw[eB];have hn:=hs.ndo _ (bC aU hi);have HV:=Lib.hid hs.nd;have hl:=hs.ln;have HR:=Lib.hid (fun w' (o:Only [] w w')=>pORead _ t (hn.seg.kept o) ho t0 t1);have hb:=hw.2;obtain⟨bk,off,hpn,-⟩:=HV.out.nd (Only.refl [] w) hi
 have HX:=Lib.hid (show ∀ w',Only [] w w'->bk<w'.heap.size/\w'.cell? ⟨bk,off+i*7,none⟩=some (.int .i64 (s.nd.getD i aU).n.ph)/\w'.cell? ⟨bk,off+i*7+1,none⟩=some (.slice (s.nd.getD i aU).ps (s.nd.getD i aU).n.sg.length (s.nd.getD i aU).cs) from fun w' o=>by
  obtain⟨b',o',e,c1,c2,c3,-⟩:=HV.out.nd o hi;rw[hpn] at e
  cases e
  exact⟨c1,c2,c3⟩)
 rw[hpn] at hb;have hi2:(i:Int)<(s.nd.length:Int):=by omega
 clear hn hw hs ho HV hpn;generalize (s.nd.getD i aU).n=nd at HR HX |-;generalize (s.nd.getD i aU).ps=ps at HR HX;generalize (s.nd.getD i aU).cs=cs at HR HX;have hsl:=hi;obtain⟨wo,hwo⟩:∃ wo:World,wo=w:=⟨_,rfl⟩;subst hwo;have m:=mY hb;have k:=m.out.k;have c:=HX.out _ (Only.refl [] wo);clear hb;go_enter Tryz.func33,Tryz.ntmps33
 go_wp2_with (first|((with_reducible first|refine cM (HR.out _ gO) ?_|refine cU ?_|refine wU ?_);clear k m c;intro w m k;have c:=HX.out w m.out.only)|((with_reducible refine lE (fun w o g k K hK=>⟨rfl,?_⟩));simp[results,Tryz.results33,go_sem];refine hK _ ?_;exact⟨rfl,o⟩))
end
section
variable {w0 w w1:World} {own:Col} {s:dU} {p:j5} {st:bS}
theorem aT.base (h:aT w0 w own s p st):w0.heap.size<=w.heap.size:=h.only.size
theorem aT.nL {l:List Nat} {t:Tag} (h:aT w0 w own s p st) (h1:w.heap.size<=w1.heap.size) (hl:∀ b∈l,own b=some t\/w.heap.size<=b) (hb:∀ b∈l,b<w1.heap.size) :
  ∀ b u,dG own l t b=some u->w0.heap.size<=b/\b<w1.heap.size:=fun b u hu=>by
 by_cases hm:b∈l
 ·rcases hl b hm with q|q
  ·exact⟨(h.lt b t q).1,hb b hm⟩
  ·exact⟨Nat.le_trans h.base q,hb b hm⟩
 ·rw[bQ hm] at hu
  exact⟨(h.lt b u hu).1,Nat.lt_of_lt_of_le (h.lt b u hu).2 h1⟩
theorem aT.kM {l:List Nat} {t:Tag} (h:aT w0 w own s p st) (hl:∀ b∈l,own b=some t\/w.heap.size<=b):Ext own (dG own l t):=
 wC fun b hb=>(hl b hb).imp id fun q=>h.fresh q
theorem rD {l:List Nat} {t:Tag} (hl:∀ b∈l,own b=some t\/w.heap.size<=b) {b:Nat} (hb:b<w.heap.size):dG own l t b=own b:=by
 by_cases hm:b∈l
 ·rcases hl b hm with q|q
  ·rw[iB hm,q]
  ·omega
 ·exact bQ hm
theorem aT.que (h:aT w0 w own s p st) {F':List Nat} {l' q':List Ev} {tm' pu':Int} (hq:C9 w1 p.qb F' 4096 tm' pu' l') (ho:Only p.F w w1) (hF:∀ k∈F',k∈p.F\/w.heap.size<=k)
  (hl:∀ e,e∈l'↔e∈q') (hn:l'.length=q'.length) (hs:∀ x∈q',x∈st.q) :
  aT w0 w1 (dG own F' .Q) s { p with F:=F',l:=l' } { st with q:=q',tm:=tm',pu:=pu' }:=by
 have hQ:∀ x∈p.F,own x=some .Q:=h.qa.2.1;have hp:∀ b∈F',own b=some .Q\/w.heap.size<=b:=fun b hb=>(hF b hb).imp (hQ b) id;have hx:=h.kM hp;have no:∀ {t:Tag},t≠ .Q->∀ x∈p.F,own x≠some t:=fun ht x hx q=>ht (by rw[hQ x hx] at q;exact (Option.some.inj q).symm);refine⟨h.only.trans ho fun x hx=>.inr (h.lt x _ (hQ x hx)).1,h.nL ho.size hp hq.blocks,?_,?_,?_,?_,?_,?_,?_,?_⟩
 ·exact (h.wa.kept ho (no (by simp))).ext hx
 ·exact (h.aa.kept ho (no (by simp))).ext hx
 ·exact (h.ca.kept ho fun x hx i=>no (by simp) x hx).ext hx
 ·exact⟨hq,fun b hb=>iB hb,hl,hn⟩
 ·exact (h.ev.kept ho (no (by simp))).ext hx
 ·have:=(h.ea.kept ho fun x hx y _ j _=>no (by simp) x hx).ext hx
  exact⟨this.1,fun x hx=>this.2 x (hs x hx)⟩
 ·exact (h.ms.kept ho (no (by simp))).ext hx
 ·exact (h.ls.kept ho (no (by simp))).ext hx
theorem aT.put (h:aT w0 w own s p st) {F' S:List Nat} {l':List Ev} {t:Int} {e:EvS} {b:Nat} {v':Value} (hq:C9 w1 p.qb F' 4096 st.tm (st.pu+1) l') (hF:∀ k∈F',k∈p.F\/w.heap.size<=k)
  (hb:own b=none) (hb0:w0.heap.size<=b) (hb1:b<w.heap.size) (hc:w1.heap[b]? = some (.cells (vL e).toArray (wR e) (0,0)))
  (ho:Only S w w1) (hS:∀ x∈S,own x=some .Q\/own x=some .E\/own x=some .W)
  (hv:Own evN 102 1 w0.heap.size w1 v' (p.eb ++ [(ER e,b)])) (hvb:∀ k∈v'.ownBlock.toList,k∈p.ve.ownBlock.toList\/(k ∉ F'/\w.heap.size<=k))
  (hw:Q8 w1 own s { p with ve:=v' } st) (hl:∀ x,x∈l'↔x=⟨t,st.pu+1,st.ev.length⟩\/x∈st.q) (hn:l'.length=st.q.length+1) :
  ∃ own',aT w0 w1 own' s { p with F:=F',l:=l',ve:=v',eb:=p.eb ++ [(ER e,b)] } { st with q:=pO ⟨t,st.pu+1,st.ev.length⟩ st.q,pu:=st.pu+1,ev:=st.ev ++ [e] }/\∀ x,x<w.heap.size->x≠b->own' x=own x:=by
 have hQ:∀ x∈p.F,own x=some .Q:=h.qa.2.1;have hE:∀ x∈p.ve.ownBlock.toList,own x=some .E:=h.ev.2;have p1:∀ k∈F',own k=some .Q\/w.heap.size<=k:=fun k hk=>(hF k hk).imp (hQ k) id;have x1:=h.kM p1
 have bF:b ∉ F':=fun hm=>by
  rcases p1 b hm with q|q
  ·rw[hb] at q;cases q
  ·omega
 have bv:b ∉ v'.ownBlock.toList:=fun hm=>by
  rcases hvb b hm with q|q
  ·have:=hE b q;rw[hb] at this;cases this
  ·omega
 have x2:Ext (dG own F' .Q) (dG (dG own F' .Q) v'.ownBlock.toList .E):=wC fun k hk=>by
  rcases hvb k hk with q|q
  ·exact .inl (x1 _ _ (hE k q))
  ·exact .inr (by rw[bQ q.1];exact h.fresh q.2)
 have x3:Ext (dG (dG own F' .Q) v'.ownBlock.toList .E) (dG (dG (dG own F' .Q) v'.ownBlock.toList .E) [b] (.V st.ev.length)):=wC fun k hk=>by
  rw[List.mem_singleton.1 hk,bQ bv,bQ bF];exact .inr hb
 have x13:Ext own (dG (dG (dG own F' .Q) v'.ownBlock.toList .E) [b] (.V st.ev.length)):=fun k u q=>x3 _ _ (x2 _ _ (x1 _ _ q))
 have vb0:∀ k∈v'.ownBlock.toList,w0.heap.size<=k/\k<w1.heap.size:=fun k hk=>by
  rcases hv with ⟨rfl,_⟩|⟨g,cap,rfl,q1,q2⟩
  ·simp[Value.ownBlock] at hk
  ·simp only[Value.ownBlock,Option.toList_some,List.mem_singleton] at hk
   subst hk;exact⟨q1,q2.lt⟩
 have hold:∀ x,x<w.heap.size->x≠b->(dG (dG (dG own F' .Q) v'.ownBlock.toList .E) [b] (.V st.ev.length)) x=own x:=fun x hx hxb=>by
  rw[bQ (by simpa using hxb)];by_cases hm:x∈v'.ownBlock.toList
  ·rw[iB hm]
   rcases hvb x hm with q|q
   ·exact (hE x q).symm
   ·omega
  ·rw[bQ hm]
   exact rD p1 hx
 have no:∀ {t:Tag},t≠ .Q->t≠ .E->t≠ .W->∀ x∈S,own x≠some t:=fun h1 h2 h3 x hx q=>by
  rcases hS x hx with q'|q'|q'<;>rw[q] at q'
  ·exact h1 (Option.some.inj q')
  ·exact h2 (Option.some.inj q')
  ·exact h3 (Option.some.inj q')
 have hlt:∀ k u,(dG (dG (dG own F' .Q) v'.ownBlock.toList .E) [b] (.V st.ev.length)) k=some u->w0.heap.size<=k/\k<w1.heap.size:=fun k u hk=>by
  by_cases h1:k=b
  ·subst h1;exact⟨hb0,Nat.lt_of_lt_of_le hb1 ho.size⟩
  ·rw[bQ (by simpa using h1)] at hk
   by_cases h2:k∈v'.ownBlock.toList
   ·exact vb0 k h2
   ·rw[bQ h2] at hk
    exact h.nL ho.size p1 hq.blocks k u hk
 refine⟨_,⟨h.only.trans ho fun x hx=>.inr ?_,hlt,?_,?_,?_,?_,?_,?_,?_,?_⟩,hold⟩
 ·rcases hS x hx with q|q | q<;>exact (h.lt x _ q).1
 ·exact⟨x13 _ _ hw.1,hw.2⟩
 ·exact (h.aa.kept ho (no (by simp) (by simp) (by simp))).ext x13
 ·exact (h.ca.kept ho fun x hx i=>no (by simp) (by simp) (by simp) x hx).ext x13
 ·exact⟨hq,fun k hk=>x3 _ _ (x2 _ _ (iB hk)),fun x=>by rw[hl,kQ],by rw[hn,JD]⟩
 ·exact⟨hv,fun k hk=>x3 _ _ (iB hk)⟩
 ·have ha:=(h.ea.kept ho fun x hx y _ j _=>no (by simp) (by simp) (by simp) x hx).ext x13
  refine⟨by simp[ha.1],fun x hx=>?_⟩;rcases kQ.1 hx with rfl|hx
  ·exact⟨st.ev.length,e,b,rfl,by simp,by rw[<-ha.1];simp,hc,iB (by simp)⟩
  ·obtain⟨j,e',b',q1,q2,q3,q4,q5⟩:=ha.2 x hx
   exact⟨j,e',b',q1,by rw[List.getElem?_append_left (List.getElem?_eq_some_iff.1 q2).1];exact q2,by rw[List.getElem?_append_left (List.getElem?_eq_some_iff.1 q3).1];exact q3,q4,q5⟩
 ·exact (h.ms.kept ho (no (by simp) (by simp) (by simp))).ext x13
 ·exact (h.ls.kept ho (no (by simp) (by simp) (by simp))).ext x13
end
section
open Go.Lib (hid)
def SchR (w0 w:World) (own:Col) (s:dU) (p:j5) (st':bS) (b:Nat) (w':World):Prop:=
 ∃ own' p',p'.bw=p.bw/\p'.pl=p.pl/\aT w0 w' own' s p' st'/\(∀ x,x<w.heap.size->x≠b->own' x=own x)/\∃ S,Only S w w'/\∀ x∈S,own x=some .Q\/own x=some .E\/own x=some .W
theorem Own.off {α:Type} {enc:α->List Value} {e:TypeId} {s B:Nat} {w w':World} {S:List Nat} {v:Value} {l:List α} (h:Own enc e s B w v l) (ho:Only S w w') (hS:∀ g∈v.ownBlock.toList,g ∉ S):Own enc e s B w' v l:=by
 rcases h with h1|⟨g,cap,rfl,hB,hr⟩
 ·exact .inl h1
 ·exact .inr ⟨g,cap,rfl,hB,hr.kept ho (hS g (by simp[Value.ownBlock]))⟩
theorem evN_one (x:TypeId × Nat):∀ u∈evN x,u.oneCell'=true:=by simp[evN,Value.oneCell']
theorem nG {w0 w:World} {own:Col} {s:dU} {p:j5} {st:bS} (h:aT w0 w own s p st) (hpu:st.pu=st.ev.length) (hle:st.ev.length<=1000000000) (t:Int) (e:EvS) {b:Nat} (hb:own b=none) (hb0:w0.heap.size<=b) (hc:w.heap[b]? = some (.cells (vL e).toArray (wR e) (0,0))) :
  Calls Tryz.prog 35 #[.pointer (some ⟨p.bw,0,none⟩),.int .i64 t,.iface (ER e) (.pointer (some ⟨b,0,none⟩))] w fun r w'=>r=.returned (.tuple #[])/\SchR w0 w own s p (eX s.sc st t e) b w':=by
 have HS:=hid h;have hbw:=h.wa.2;have hev:=h.ev.1;have HQ:=hid (fun w' (o:Only [] w w')=>WC (h.qa.1.kept o (by simp)) t st.ev.length (by omega) (by omega));obtain⟨vp,vc,hve,hvv⟩:=hev.eH zJ;have hlen:=h.ea.1;rw[hve] at hbw;rw[hlen] at hbw hve;have hev2:=hev;rw[hve] at hev2;unfold eX;by_cases hun:s.un<t
 ·rw[if_pos (show s.sc.un<t from hun)]
  have hd:decide (s.un<t)=true:=dF hun;have m:=mY hbw;have k:=m.out.k;have HB:=hid hbw;clear hbw h;go_enter Tryz.func35,Tryz.ntmps35
  go_wp2_with (first|((with_reducible first|refine cU ?_|refine wU ?_);clear k m;intro w m k)|((with_reducible refine lE (fun w o g k K hK=>⟨rfl,?_⟩));simp[results,Tryz.results35,go_sem];refine hK _ ?_;exact⟨rfl,own,p,rfl,rfl,HS.out.kept o,fun _ _ _=>rfl,[],o,by simp⟩))
 ·rw [if_neg (show ¬ s.sc.un<t from hun)]
  obtain⟨T,HT⟩:∃ T,Hid (T=if fJ 4096 st.tm st.q.length t=0 then { st with q:=pO ⟨t,st.pu+1,st.ev.length⟩ st.q,pu:=st.pu+1,ev:=st.ev ++ [e] } else st):=⟨_,hid rfl⟩;rw[<-HT.out];have hd:decide (s.un<t)=false:=bR hun;have m:=mY hbw;have k:=m.out.k;have HB:=hid hbw;clear hbw h;obtain⟨wo,hwo⟩:∃ wo:World,wo=w:=⟨_,rfl⟩;subst hwo;go_enter Tryz.func35,Tryz.ntmps35
  go_wp2_with ((with_reducible refine wU ?_);clear k m;intro w m k)
  refine rC (id:=1) [0,1,2,3,4,5,6,7,8,9] 10 [11,12,13,14,15] (by kernel_rfl) (by kernel_rfl) ?_;simp only[pick,List.map_cons,List.map_nil,List.getD_cons_succ,List.getD_cons_zero]
  (repeat (first|(refine aO (fun K hK=>?_);go_simp;refine hK _ ?_;clear hK K)))
  refine aR ?_;clear k m;intro w m k;refine aC rfl ?_;go_wp2_with fail
  have OB:=hid m.out.only;clear k m;refine (HQ.out w OB.out).mono ?_;rintro r w2 ⟨rfl,F',l',pu',hq,ho,hF,hp⟩;go_wp2;simp only[bG]
  (repeat (refine aJ (fun K hK=>?_);go_simp;refine hK _ ?_;clear hK K))
  refine aN ?_;intro w3 o3;have HF:=hid hF;have HP:=hid hp;have HQ3:=hid (hq.kept o3 (by simp));have OW:=hid (show Only p.F wo w3 from ((OB.out.mono (by simp)).trans ho fun x hx=>.inl hx).trans o3 (by simp));clear hF hp hq ho o3;have HB3:=hid (OW.out.got HB.out (by intro hm;have:=HS.out.qa.2.1 _ hm;rw[HS.out.wa.1] at this;cases this));have HSZ:=hid OB.out.size;by_cases he:fJ 4096 st.tm p.l.length t=0
  ·have hd0:(fJ 4096 st.tm p.l.length t == 0)=true:=by rw[he];rfl
   have hT:=HT.out;rw[if_pos (by rw[<-HS.out.qa.2.2.2];exact he)] at hT;clear HT;subst hT;rcases HP.out with ⟨-,hp1,-,-,-,hl1,hl2⟩|⟨hp1,-⟩;rotate_left
   ·exact absurd he hp1
   obtain rfl:=hp1;clear HQ HP OB;have m:=lQ HB3.out;have k:=m.out.k;go_wp2_with (first|(at_builtin;refine bD ?_)|((with_reducible refine wU ?_);clear k m;intro w m k))
   refine aF (G:=fun w0=>Stop (wpList _ _ _ _ _ w0)) ?_;intro w5 hb5 ho5 hs5;have B5:=hid hb5;have OW5:=hid (show Only p.F wo w5 from OW.out.trans ho5 (by simp));have HB5:=hid (ho5.got HB3.out (by simp));have HQ5:=hid (HQ3.out.kept ho5 (by simp));have hev5:=(HS.out.ev.kept OW5.out (fun x hx q=>by have:=HS.out.qa.2.1 x hx;rw[q] at this;cases this)).1;rw[hve] at hev5;have HE5:=hid hev5;have HB0:=hid (Nat.le_trans HS.out.base OW5.out.size);clear hb5 ho5 hev5 hs5 m k;refine cK ?_;refine iN (B:=w0.heap.size) rfl _ _ 71 rfl 102 .nilIface 1 16 Tryz.underlying71 (by kernel_rfl) rfl (by decide) evN zJ evN_one p.eb (.slice vp st.ev.length vc) rfl HE5.out _ (ER e,b) rfl (fun j u hj=>by rw[aA B5.out,<-hj];simp[evN]) (by rw[hlen];simp[maxLen];omega) (by rw[hlen];omega) HB0.out ?_;intro v6 w6 hown6 hk6 ho6;rw[<-hve] at hk6 ho6;obtain⟨vp6,vc6,hv6,-⟩:=hown6.eH zJ;rw[show (p.eb ++ [(ER e,b)]).length=st.ev.length+1 by simp[hlen]] at hv6;subst hv6;have HK6:=hid hk6;have HW6:=hid hown6;have HB6:=hid (ho6.got HB5.out (fun hm=>by have:=HS.out.ev.2 _ hm;rw[HS.out.wa.1] at this;cases this))
   have HQ6:=hid (HQ5.out.kept ho6 (fun k hk hm=>by
    rcases HF.out k hk with q|q
    ·have h1:=HS.out.qa.2.1 _ q
     rw[HS.out.ev.2 _ hm] at h1
     cases h1
    ·have h1:=(HS.out.lt _ _ (HS.out.ev.2 _ hm)).2
     have:=HSZ.out;omega))
   have OW6:=hid (show Only (p.F ++ p.ve.ownBlock.toList) wo w6 from (OW5.out.mono (fun x hx=>.inl (List.mem_append_left _ hx))).trans ho6 fun x hx=>.inl (by simp at hx |-;exact .inr hx));have HF5:=hid (fun k (hk:k∈F')=>Nat.lt_of_lt_of_le (HQ5.out.blocks k hk) (Nat.le_refl _));clear hown6 hk6 ho6 HQ3 HB3 HQ5 HE5;have m:=lQ HB6.out;have k:=m.out.k;go_wp2;refine lN rfl rfl fun w7 o7 g7=>?_;have OA:=(OW6.out.mono (S':=p.bw::(p.F ++ p.ve.ownBlock.toList)) (fun x hx=>.inl (List.mem_cons_of_mem _ hx))).trans o7 (fun x hx=>.inl (by rw[List.mem_singleton.1 hx];simp))
   have hsc:∀ x∈p.bw::(p.F ++ p.ve.ownBlock.toList),own x=some .Q\/own x=some .E\/own x=some .W:=fun x hx=>by
    rcases List.mem_cons.1 hx with rfl|hx
    ·exact .inr (.inr HS.out.wa.1)
    ·rcases List.mem_append.1 hx with hx|hx
     ·exact .inl (HS.out.qa.2.1 x hx)
     ·exact .inr (.inl (HS.out.ev.2 x hx))
   have hbl:b<wo.heap.size:=aD hc
   have hbw:∀ {k:Nat},k<wo.heap.size->own k=none->k ∉ p.bw::(p.F ++ p.ve.ownBlock.toList):=fun hk hn hm=>by
    rcases hsc _ hm with q|q | q<;>rw[hn] at q<;>cases q
   have hwb:∀ k,own k≠some .W->k ∉ [p.bw]:=fun k hk hm=>hk (by rw[List.mem_singleton.1 hm];exact HS.out.wa.1)
   obtain⟨own',hs',hold⟩:=HS.out.put (w1:=w7) (t:=t) (e:=e) (v':=.slice vp6 (st.ev.length+1) vc6) (HQ6.out.kept o7 (fun k hk=>hwb k (fun q=>by
     rcases HF.out k hk with q'|q'
     ·rw[HS.out.qa.2.1 _ q'] at q;cases q
     ·have:=HS.out.fresh (Nat.le_trans HSZ.out q');rw[this] at q;cases q))) (fun k hk=>(HF.out k hk).imp id fun q=>Nat.le_trans HSZ.out q) hb hb0 hbl (OA.got hc (hbw hbl hb)) OA hsc
    (HW6.out.off o7 (fun k hk=>hwb k (fun q=>by
     rcases HK6.out k hk with q'|q'
     ·rw[HS.out.ev.2 _ q'] at q;cases q
     ·have:=HS.out.fresh (Nat.le_trans OW5.out.size q');rw[this] at q;cases q)))
    (fun k hk=>(HK6.out k hk).imp id fun q=>⟨fun hm=>by have:=HF5.out k hm;omega,Nat.le_trans OW5.out.size q⟩) ⟨HS.out.wa.1,g7.1⟩ (fun x=>(hl2 x).trans (or_congr Iff.rfl (HS.out.qa.2.2.1 x))) (by rw[hl1,HS.out.qa.2.2.2])
   exact⟨rfl,own',{ p with F:=F',l:=l',ve:=.slice vp6 (st.ev.length+1) vc6,eb:=p.eb ++ [(ER e,b)] },rfl,rfl,hs',hold,_,OA,hsc⟩
  ·have hd0:(fJ 4096 st.tm p.l.length t == 0)=false:=by simpa using he
   have hT:=HT.out;rw[if_neg (by rw[<-HS.out.qa.2.2.2];exact he)] at hT;clear HT;subst hT;rcases HP.out with ⟨hp1,-⟩|⟨-,rfl,hl1,hl2⟩
   ·exact absurd hp1 he
   have m:=mY HB3.out;have k:=m.out.k;go_wp2_with ((with_reducible refine wU ?_);clear k m;intro w m k)
   refine lN rfl rfl fun w o g=>?_;exact⟨rfl,dG own F' .Q,{ p with F:=F',l:=l' },rfl,rfl,HS.out.que (F':=F') (l':=l') (q':=T.q) (HQ3.out.kept o (by simp)) (OW.out.trans o (by simp)) (fun k hk=>(HF.out k hk).imp id fun q=>Nat.le_trans HSZ.out q) (fun e=>(hl2 e).trans (HS.out.qa.2.2.1 e)) (hl1.trans HS.out.qa.2.2.2) (fun _ h=>h),fun x hx _=>rD (w:=wo) (fun b hb=>((HF.out b hb).imp (HS.out.qa.2.1 b) fun q=>Nat.le_trans HSZ.out q)) hx,p.F,OW.out.trans o (by simp),fun x hx=>.inl (HS.out.qa.2.1 x hx)⟩
end
end Go.Proofs.YthbgcpfklmlnjaaGreat
