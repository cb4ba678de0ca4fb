/- netsim: schedule. Conditions: those named in each theorem. -/
import Derived.Test.YtppjhbjmfkiejaaGreatFNt
import Derived.Test.YtppjhbjmfkiejaaGreatFNo
namespace Go.Proofs.YtppjhbjmfkiejaaGreat
set_option linter.all false
open Go.Lib (hid)
set_option maxRecDepth 100000
set_option maxHeartbeats 8000000
open Go.RowKit Go.Sort
def SchR (w0 w:World) (own:Col) (s:ScW) (p:SmP) (st':Sim) (b:Nat) (w':World):Prop:=
 ∃ own' p',p'.bw=p.bw/\p'.pl=p.pl/\SimAt w0 w' own' s p' st'/\(∀ x,x<w.heap.size->x≠b->own' x=own x)/\∃ S,Only S w w'/\∀ x∈S,own x=some .Q∨own x=some .E∨own x=some .W
theorem Own.off {α:Type} {enc:α->List Value} {e:TypeId} {s B:Nat} {w w':World} {S:List Nat} {v:Value} {l:List α} (h:Own enc e s B w v l) (ho:Only S w w') (hS:∀ g∈v.ownBlock.toList,g ∉ S):Own enc e s B w' v l:=by
 rcases h with h1|⟨g,cap,rfl,hB,hr⟩
 ·exact .inl h1
 ·exact .inr ⟨g,cap,rfl,hB,hr.kept ho (hS g (by simp[Value.ownBlock]))⟩
theorem evN_one (x:TypeId × Nat):∀ u∈evN x,u.oneCell'=true:=by simp[evN,Value.oneCell']
theorem pSchedule {w0 w:World} {own:Col} {s:ScW} {p:SmP} {st:Sim} (h:SimAt w0 w own s p st) (hpu:st.pu=st.ev.length) (hle:st.ev.length<=1000000000) (t:Int) (e:EvS) {b:Nat} (hb:own b=none) (hb0:w0.heap.size<=b) (hc:w.heap[b]? = some (.cells (evC e).toArray (evT e) (0,0))) :
  Calls Tryz.prog 44 #[.pointer (some ⟨p.bw,0,none⟩),.int .i64 t,.iface (evP e) (.pointer (some ⟨b,0,none⟩))] w fun r w'=>r=.returned (.tuple #[])/\SchR w0 w own s p (schF s.sc st t e) b w':=by
 have HS:=hid h;have hbw:=h.wa.2;have hev:=h.ev.1;have HQ:=hid (fun w' (o:Only [] w w')=>push_gen (h.qa.1.kept o (by simp)) t st.ev.length (by omega) (by omega));obtain⟨vp,vc,hve,hvv⟩:=hev.vrow evN_len;have hlen:=h.ea.1;rw[hve] at hbw;rw[hlen] at hbw hve;have hev2:=hev;rw[hve] at hev2;unfold schF;by_cases hun:s.un<t
 ·rw[if_pos (show s.sc.un<t from hun)]
  have hd:decide (s.un<t)=true:=decide_eq_true hun;have m:=mmR hbw;have k:=m.out.k;have HB:=hid hbw;clear hbw h;go_enter Tryz.func44,Tryz.ntmps44
  go_wp2_with (first|((with_reducible first|refine cU ?_|refine wU ?_);clear k m;intro w m k)|((with_reducible refine lE (fun w o g k K hK=>⟨rfl,?_⟩));simp[results,Tryz.results44,go_sem];refine hK _ ?_;exact⟨rfl,own,p,rfl,rfl,HS.out.kept o,fun _ _ _=>rfl,[],o,by simp⟩))
 ·rw [if_neg (show ¬ s.sc.un<t from hun)]
  obtain⟨T,HT⟩:∃ T,Hid (T=if pushErr 4096 st.tm st.q.length t=0 then { st with q:=qIns ⟨t,st.pu+1,st.ev.length⟩ st.q,pu:=st.pu+1,ev:=st.ev ++ [e] } else st):=⟨_,hid rfl⟩;rw[<-HT.out];have hd:decide (s.un<t)=false:=decide_eq_false hun;have m:=mmR hbw;have k:=m.out.k;have HB:=hid hbw;clear hbw h;obtain⟨wo,hwo⟩:∃ wo:World,wo=w:=⟨_,rfl⟩;subst hwo;go_enter Tryz.func44,Tryz.ntmps44
  go_wp2_with ((with_reducible refine wU ?_);clear k m;intro w m k)
  refine rC (id:=1) [0,1,2,3,4,5,6,7,8,9] 10 [11,12,13,14,15] (by kernel_rfl) (by kernel_rfl) ?_;simp only[pick,List.map_cons,List.map_nil,List.getD_cons_succ,List.getD_cons_zero]
  (repeat (first|(refine wpCalmG_step (fun K hK=>?_);go_simp;refine hK _ ?_;clear hK K)))
  refine wpCalmG_nil ?_;clear k m;intro w m k;refine wpOp_one rfl ?_;go_wp2_with fail
  have OB:=hid m.out.only;clear k m;refine (HQ.out w OB.out).mono ?_;rintro r w2 ⟨rfl,F',l',pu',hq,ho,hF,hp⟩;go_wp2;simp only[nrm]
  (repeat (refine wpCalm_step (fun K hK=>?_);go_simp;refine hK _ ?_;clear hK K))
  refine wpCalm_nil ?_;intro w3 o3;have HF:=hid hF;have HP:=hid hp;have HQ3:=hid (hq.kept o3 (by simp));have OW:=hid (show Only p.F wo w3 from ((OB.out.mono (by simp)).trans ho fun x hx=>.inl hx).trans o3 (by simp));clear hF hp hq ho o3;have HB3:=hid (OW.out.got HB.out (by intro hm;have:=HS.out.qa.2.1 _ hm;rw[HS.out.wa.1] at this;cases this));have HSZ:=hid OB.out.size;by_cases he:pushErr 4096 st.tm p.l.length t=0
  ·have hd0:(pushErr 4096 st.tm p.l.length t == 0)=true:=by rw[he];rfl
   have hT:=HT.out;rw[if_pos (by rw[<-HS.out.qa.2.2.2];exact he)] at hT;clear HT;subst hT;rcases HP.out with ⟨-,hp1,-,-,-,hl1,hl2⟩|⟨hp1,-⟩;rotate_left
   ·exact absurd he hp1
   obtain rfl:=hp1;clear HQ HP OB;have m:=mm1 HB3.out;have k:=m.out.k;go_wp2_with (first|(at_builtin;refine stop_here ?_)|((with_reducible refine wU ?_);clear k m;intro w m k))
   refine alloc_abs (G:=fun w0=>Stop (wpList _ _ _ _ _ w0)) ?_;intro w5 hb5 ho5 hs5;have B5:=hid hb5;have OW5:=hid (show Only p.F wo w5 from OW.out.trans ho5 (by simp));have HB5:=hid (ho5.got HB3.out (by simp));have HQ5:=hid (HQ3.out.kept ho5 (by simp));have hev5:=(HS.out.ev.kept OW5.out (fun x hx q=>by have:=HS.out.qa.2.1 x hx;rw[q] at this;cases this)).1;rw[hve] at hev5;have HE5:=hid hev5;have HB0:=hid (Nat.le_trans HS.out.base OW5.out.size);clear hb5 ho5 hev5 hs5 m k;refine stop_go ?_;refine wpList_append_any (B:=w0.heap.size) rfl _ _ 89 rfl 140 .nilIface 1 16 Tryz.underlying89 (by kernel_rfl) rfl (by decide) evN evN_len evN_one p.eb (.slice vp st.ev.length vc) rfl HE5.out _ (evP e,b) rfl (fun j u hj=>by rw[cell_got B5.out,<-hj];simp[evN]) (by rw[hlen];simp[maxLen];omega) (by rw[hlen];omega) HB0.out ?_;intro v6 w6 hown6 hk6 ho6;rw[<-hve] at hk6 ho6;obtain⟨vp6,vc6,hv6,-⟩:=hown6.vrow evN_len;rw[show (p.eb ++ [(evP e,b)]).length=st.ev.length+1 by simp[hlen]] at hv6;subst hv6;have HK6:=hid hk6;have HW6:=hid hown6;have HB6:=hid (ho6.got HB5.out (fun hm=>by have:=HS.out.ev.2 _ hm;rw[HS.out.wa.1] at this;cases this))
   have HQ6:=hid (HQ5.out.kept ho6 (fun k hk hm=>by
    rcases HF.out k hk with q|q
    ·have h1:=HS.out.qa.2.1 _ q
     rw[HS.out.ev.2 _ hm] at h1
     cases h1
    ·have h1:=(HS.out.lt _ _ (HS.out.ev.2 _ hm)).2
     have:=HSZ.out;omega))
   have OW6:=hid (show Only (p.F ++ p.ve.ownBlock.toList) wo w6 from (OW5.out.mono (fun x hx=>.inl (List.mem_append_left _ hx))).trans ho6 fun x hx=>.inl (by simp at hx ⊢;exact .inr hx));have HF5:=hid (fun k (hk:k∈F')=>Nat.lt_of_lt_of_le (HQ5.out.blocks k hk) (Nat.le_refl _));clear hown6 hk6 ho6 HQ3 HB3 HQ5 HE5;have m:=mm1 HB6.out;have k:=m.out.k;go_wp2;refine lN rfl rfl fun w7 o7 g7=>?_;have OA:=(OW6.out.mono (S':=p.bw::(p.F ++ p.ve.ownBlock.toList)) (fun x hx=>.inl (List.mem_cons_of_mem _ hx))).trans o7 (fun x hx=>.inl (by rw[List.mem_singleton.1 hx];simp))
   have hsc:∀ x∈p.bw::(p.F ++ p.ve.ownBlock.toList),own x=some .Q∨own x=some .E∨own x=some .W:=fun x hx=>by
    rcases List.mem_cons.1 hx with rfl|hx
    ·exact .inr (.inr HS.out.wa.1)
    ·rcases List.mem_append.1 hx with hx|hx
     ·exact .inl (HS.out.qa.2.1 x hx)
     ·exact .inr (.inl (HS.out.ev.2 x hx))
   have hbl:b<wo.heap.size:=got_lt hc
   have hbw:∀ {k:Nat},k<wo.heap.size->own k=none->k ∉ p.bw::(p.F ++ p.ve.ownBlock.toList):=fun hk hn hm=>by
    rcases hsc _ hm with q|q | q<;>rw[hn] at q<;>cases q
   have hwb:∀ k,own k≠some .W->k ∉ [p.bw]:=fun k hk hm=>hk (by rw[List.mem_singleton.1 hm];exact HS.out.wa.1)
   obtain⟨own',hs',hold⟩:=HS.out.put (w1:=w7) (t:=t) (e:=e) (v':=.slice vp6 (st.ev.length+1) vc6) (HQ6.out.kept o7 (fun k hk=>hwb k (fun q=>by
     rcases HF.out k hk with q'|q'
     ·rw[HS.out.qa.2.1 _ q'] at q;cases q
     ·have:=HS.out.fresh (Nat.le_trans HSZ.out q');rw[this] at q;cases q))) (fun k hk=>(HF.out k hk).imp id fun q=>Nat.le_trans HSZ.out q) hb hb0 hbl (OA.got hc (hbw hbl hb)) OA hsc
    (HW6.out.off o7 (fun k hk=>hwb k (fun q=>by
     rcases HK6.out k hk with q'|q'
     ·rw[HS.out.ev.2 _ q'] at q;cases q
     ·have:=HS.out.fresh (Nat.le_trans OW5.out.size q');rw[this] at q;cases q)))
    (fun k hk=>(HK6.out k hk).imp id fun q=>⟨fun hm=>by have:=HF5.out k hm;omega,Nat.le_trans OW5.out.size q⟩) ⟨HS.out.wa.1,g7.1⟩ (fun x=>(hl2 x).trans (or_congr Iff.rfl (HS.out.qa.2.2.1 x))) (by rw[hl1,HS.out.qa.2.2.2])
   exact⟨rfl,own',{ p with F:=F',l:=l',ve:=.slice vp6 (st.ev.length+1) vc6,eb:=p.eb ++ [(evP e,b)] },rfl,rfl,hs',hold,_,OA,hsc⟩
  ·have hd0:(pushErr 4096 st.tm p.l.length t == 0)=false:=by simpa using he
   have hT:=HT.out;rw[if_neg (by rw[<-HS.out.qa.2.2.2];exact he)] at hT;clear HT;subst hT;rcases HP.out with ⟨hp1,-⟩|⟨-,rfl,hl1,hl2⟩
   ·exact absurd hp1 he
   have m:=mmR HB3.out;have k:=m.out.k;go_wp2_with ((with_reducible refine wU ?_);clear k m;intro w m k)
   refine lN rfl rfl fun w o g=>?_;exact⟨rfl,paint own F' .Q,{ p with F:=F',l:=l' },rfl,rfl,HS.out.que (F':=F') (l':=l') (q':=T.q) (HQ3.out.kept o (by simp)) (OW.out.trans o (by simp)) (fun k hk=>(HF.out k hk).imp id fun q=>Nat.le_trans HSZ.out q) (fun e=>(hl2 e).trans (HS.out.qa.2.2.1 e)) (hl1.trans HS.out.qa.2.2.2) (fun _ h=>h),fun x hx _=>paint_old (w:=wo) (fun b hb=>((HF.out b hb).imp (HS.out.qa.2.1 b) fun q=>Nat.le_trans HSZ.out q)) hx,p.F,OW.out.trans o (by simp),fun x hx=>.inl (HS.out.qa.2.1 x hx)⟩
end Go.Proofs.YtppjhbjmfkiejaaGreat
