/- netsim: note. Conditions: those named in each theorem. -/
import Derived.Test.YtppjhbjmfkiejaaGreatFO0
namespace Go.Proofs.YtppjhbjmfkiejaaGreat
set_option linter.all false
open List (getD_cons_succ getD_cons_zero map_cons map_nil)
open Go.Lib (hid)
set_option maxRecDepth 100000
set_option maxHeartbeats 8000000
open Go.RowKit Go.Sort
def NotR (w0 w:World) (own:Col) (s:ScW) (p:SmP) (st':Sim) (w':World):Prop:=
 ∃ own' p',p'.bw=p.bw/\p'.pl=p.pl/\SimAt w0 w' own' s p' st'/\∀ x,x<w.heap.size->own' x=own x
theorem lgC_one (x:Ent):∀ u∈lgC x,u.oneCell'=true:=by simp[lgC,Value.oneCell']
theorem lg_cells {w:World} {b:Nat} {k n p m t:Int} {T:TypeId} (h:w.heap[b]? = some (.cells #[.int .i64 k,.int .i64 n,.int .i64 p,.int .i64 m,.int .i64 t,.int .i64 0] T (0,0))):∀ j u,(lgC ⟨k,n,p,m,t⟩)[j]? = some u->w.cell? ⟨b,j,none⟩=some u:=fun j u hj=>by rw[cell_got h,<-hj];simp[lgC]
theorem al_abs {G:World->Prop} {w:World} {o:Obj} (h:∀ w3,w3.heap[w.heap.size]? = some o->Only [] w w3->G w3):∀ w3,Only [] (w.alloc o) w3->G w3:=fun w3 o3 =>
 h w3 (o3.got (alloc_new w o) (by simp)) (((Only.refl [] w).alloc o).nil_trans o3)
@[go_sem] theorem as_poll_poll (v:Value) (w:World):(Instr.typeAssert (.iface 130 v) 140 130 true).run Tryz.prog w=.ok (.tuple #[v,.bool true]) w:=by kernel_rfl
@[go_sem] theorem as_poll_request (v:Value) (w:World):(Instr.typeAssert (.iface 130 v) 140 193 true).run Tryz.prog w=.ok (.tuple #[.pointer none,.bool false]) w:=by kernel_rfl
@[go_sem] theorem as_poll_departure (v:Value) (w:World):(Instr.typeAssert (.iface 130 v) 140 196 true).run Tryz.prog w=.ok (.tuple #[.pointer none,.bool false]) w:=by kernel_rfl
@[go_sem] theorem as_poll_reply (v:Value) (w:World):(Instr.typeAssert (.iface 130 v) 140 199 true).run Tryz.prog w=.ok (.tuple #[.pointer none,.bool false]) w:=by kernel_rfl
@[go_sem] theorem as_request_poll (v:Value) (w:World):(Instr.typeAssert (.iface 193 v) 140 130 true).run Tryz.prog w=.ok (.tuple #[.pointer none,.bool false]) w:=by kernel_rfl
@[go_sem] theorem as_request_request (v:Value) (w:World):(Instr.typeAssert (.iface 193 v) 140 193 true).run Tryz.prog w=.ok (.tuple #[v,.bool true]) w:=by kernel_rfl
@[go_sem] theorem as_request_departure (v:Value) (w:World):(Instr.typeAssert (.iface 193 v) 140 196 true).run Tryz.prog w=.ok (.tuple #[.pointer none,.bool false]) w:=by kernel_rfl
@[go_sem] theorem as_request_reply (v:Value) (w:World):(Instr.typeAssert (.iface 193 v) 140 199 true).run Tryz.prog w=.ok (.tuple #[.pointer none,.bool false]) w:=by kernel_rfl
@[go_sem] theorem as_departure_poll (v:Value) (w:World):(Instr.typeAssert (.iface 196 v) 140 130 true).run Tryz.prog w=.ok (.tuple #[.pointer none,.bool false]) w:=by kernel_rfl
@[go_sem] theorem as_departure_request (v:Value) (w:World):(Instr.typeAssert (.iface 196 v) 140 193 true).run Tryz.prog w=.ok (.tuple #[.pointer none,.bool false]) w:=by kernel_rfl
@[go_sem] theorem as_departure_departure (v:Value) (w:World):(Instr.typeAssert (.iface 196 v) 140 196 true).run Tryz.prog w=.ok (.tuple #[v,.bool true]) w:=by kernel_rfl
@[go_sem] theorem as_departure_reply (v:Value) (w:World):(Instr.typeAssert (.iface 196 v) 140 199 true).run Tryz.prog w=.ok (.tuple #[.pointer none,.bool false]) w:=by kernel_rfl
@[go_sem] theorem as_reply_poll (v:Value) (w:World):(Instr.typeAssert (.iface 199 v) 140 130 true).run Tryz.prog w=.ok (.tuple #[.pointer none,.bool false]) w:=by kernel_rfl
@[go_sem] theorem as_reply_request (v:Value) (w:World):(Instr.typeAssert (.iface 199 v) 140 193 true).run Tryz.prog w=.ok (.tuple #[.pointer none,.bool false]) w:=by kernel_rfl
@[go_sem] theorem as_reply_departure (v:Value) (w:World):(Instr.typeAssert (.iface 199 v) 140 196 true).run Tryz.prog w=.ok (.tuple #[.pointer none,.bool false]) w:=by kernel_rfl
@[go_sem] theorem as_reply_reply (v:Value) (w:World):(Instr.typeAssert (.iface 199 v) 140 199 true).run Tryz.prog w=.ok (.tuple #[v,.bool true]) w:=by kernel_rfl
theorem not_end {w0 w w3 w6 w8:World} {own:Col} {s:ScW} {p:SmP} {st:Sim} {v6:Value} {x:Ent} (h:SimAt w0 w own s p st) (o3:Only [] w w3) (h6:Own lgC 192 6 w0.heap.size w6 v6 (st.lgs ++ [x])) (hk:∀ k∈v6.ownBlock.toList,k∈p.vl.ownBlock.toList∨w3.heap.size<=k)
  (o6:Only p.vl.ownBlock.toList w3 w6) (o8:Only [p.bw] w6 w8) (g:(w8.heap[p.bw]?)=some (.cells #[.slice s.pn s.nd.length s.cn,.slice s.pl s.lk.length s.cl,.slice s.pf s.ft.length s.cf,.int .i64 s.un,.int .u64 s.sd,.slice (some ⟨p.ca,0,none⟩) s.nd.length s.nd.length,.pointer (some ⟨p.qb,0,none⟩),p.ve,.int .i64 st.sent,p.vm,v6] 92 (0,0))) :
  NotR w0 w own s p { st with lgs:=st.lgs ++ [x] } w8:=by
 have hk':∀ k∈v6.ownBlock.toList,k∈p.vl.ownBlock.toList∨w.heap.size<=k:=fun k hm=>(hk k hm).imp id fun q=>Nat.le_trans o3.size q;have hq:∀ b∈v6.ownBlock.toList,own b=some .L∨w.heap.size<=b:=fun b hb=>(hk' b hb).imp (h.ls.2 b) id;refine⟨_,{ p with vl:=v6 },rfl,rfl,h.ent (S:=p.bw::p.vl.ownBlock.toList) (v':=v6) (x:=x) ?_ ?_ (h6.off o8 ?_) hk' ⟨h.wa.1,g⟩,fun y hy=>paint_old hq hy⟩
 ·exact (((o3.mono (by simp)).trans o6 fun y hy=>.inl (List.mem_cons_of_mem _ hy)).trans o8 fun y hy=>.inl (by rw[List.mem_singleton.1 hy];simp))
 ·intro y hy
  rcases List.mem_cons.1 hy with rfl|hy
  ·exact .inr h.wa.1
  ·exact .inl (h.ls.2 y hy)
 ·intro k hm hb
  rw[List.mem_singleton.1 hb] at hm;rcases hq _ hm with q|q
  ·rw[h.wa.1] at q;cases q
  ·have:=(h.lt _ _ h.wa.1).2
   omega
theorem pNote {w0 w:World} {own:Col} {s:ScW} {p:SmP} {st:Sim} (h:SimAt w0 w own s p st) (hs:WScOk w s) (hlg:st.lgs.length<=1000000000) (t:Int) (t0:0<=t) (t1:t<=1125899906842624) (e:EvS) (he:TrOk s.sc e.trp) {b:Nat} (hc:w.heap[b]? = some (.cells (evC e).toArray (evT e) (0,0))) (hbb:b≠p.bw) :
  Calls Tryz.prog 47 #[.pointer (some ⟨p.bw,0,none⟩),.iface (evP e) (.pointer (some ⟨b,0,none⟩)),.int .i64 t] w fun r w'=>r=.returned (.tuple #[])/\NotR w0 w own s p (noteF s.sc st e t) w':=by
 have HS:=hid h;have hw:=h.wa;have hbw:=h.wa.2;have hnl:s.sc.nd.length=s.nd.length:=by unfold ScW.sc;simp
 rcases e with q|⟨q,z⟩|⟨q,z,y⟩|⟨q,z,y⟩;focus (obtain⟨⟨i,j,hi0,hj0,hi,hj,-⟩,hn0,hn1⟩:=(he:TrOk s.sc q))
 rotate_left
 focus (obtain⟨⟨j,i,hj0,hi0,hj,hi,-⟩,hn0,hn1⟩:=(he:TrOk s.sc q))
 rotate_left
 focus (obtain⟨⟨j,i,hj0,hi0,hj,hi,-⟩,hn0,hn1⟩:=(he:TrOk s.sc q))
 rotate_left
 focus (obtain⟨⟨i,j,hi0,hj0,hi,hj,-⟩,hn0,hn1⟩:=(he:TrOk s.sc q))
 rotate_left
 all_goals
  rw[hnl] at hi hj;obtain⟨q1,q2,q3,q4⟩:=q;replace hn0:0<=q4:=hn0;replace hn1:q4<=1000000000:=hn1;subst hi0;subst hj0;unfold noteF;dsimp only;rw[node_eq];have hnw:=hs.ok.ndo _ (getD_mem nw0 hi);have ho:=hs.osc _ (getD_mem nw0 hi);have HR:=hid (fun w' (o:Only [] w w')=>pRaw (hw.kept o (by simp)) (hs.ok.kept o) hi ho t t0 t1);have HV:=hid hs.ok.nd;have hl:=hs.ok.ln;obtain⟨bk,off,hpn,-⟩:=HV.out.nd (Only.refl [] w) hi
  have HX:=hid (show ∀ w',Only [] w w'->bk<w'.heap.size/\w'.cell? ⟨bk,off+i*7+3,none⟩=some (.bool (s.nd.getD i nw0).n.rf) from fun w' o=>by
   obtain⟨b',o',e,c1,-,-,-,c5,-⟩:=HV.out.nd o hi;rw[hpn] at e
   cases e
   exact⟨c1,c5⟩)
  obtain⟨vp,vc,hvl,hvv⟩:=h.ls.1.vrow lgC_len;rw[hvl] at hbw;rw[hpn] at hbw;have hi2:(i:Int)<(s.nd.length:Int):=by omega
  have hsl:=hi;have e1:IntKind.i64.wrap (2*q4)=2*q4:=by rw[IntKind.wrap_i64];omega
  have e2:IntKind.i64.wrap (2*q4+1)=2*q4+1:=by rw[IntKind.wrap_i64];omega
  unfold evC evT trC at hc
  (try unfold npL at hc)
  unfold evP
  (try simp only[List.cons_append,List.nil_append] at hc)
  dsimp only at hc ⊢;clear hnw hs hw HV h;generalize (s.nd.getD i nw0).n=nd at HX ⊢;generalize rawF s.sc i t=rw_ at HR ⊢;obtain⟨wo,hwo⟩:∃ wo:World,wo=w:=⟨_,rfl⟩;subst hwo;have m:Mm wo [] wo _:=⟨((Mem.start wo []).ext false hbw (by simp) (by simp)).ext false hc (by simpa using hbb) (by simp)⟩;have k:=m.out.k;have c:=HX.out _ (Only.refl [] wo);have HB:=hid hbw;clear hbw hc
  cases hrf:nd.rf<;>rw[hrf] at HX c
 all_goals
  go_enter Tryz.func47,Tryz.ntmps47
  go_wp2_with (first|((with_reducible first|refine cM (HR.out _ gO) ?_|refine cU ?_|refine wU ?_);clear k m c;intro w m k;have c:=HX.out w m.out.only)|((with_reducible refine rG (id:=4) [0,1,2,3,4,5,6,7,8,9,10,11,12,13,14,15,16] [17] (by kernel_rfl) (by kernel_rfl) ?_);simp only[pick,map_cons,map_nil,getD_cons_succ,getD_cons_zero];(repeat' (first|go_big_quiet_step (fail)|(refine wpQuiet_step (fun K hK=>?_);go_simp;(first|(refine hK _ ?_;clear hK K)|(split<;>(refine hK _ ?_;clear hK K))))));all_goals (refine wpQuiet_nil ?_;clear k m c;intro w m k;have c:=HX.out w m.out.only))|((with_reducible refine rG (id:=7) [0,1,2,3,4,5,6,7,8,9,10,11,12,13,14,15,16] [17] (by kernel_rfl) (by kernel_rfl) ?_);simp only[pick,map_cons,map_nil,getD_cons_succ,getD_cons_zero];(repeat' (first|go_big_quiet_step (fail)|(refine wpQuiet_step (fun K hK=>?_);go_simp;(first|(refine hK _ ?_;clear hK K)|(split<;>(refine hK _ ?_;clear hK K))))));all_goals (refine wpQuiet_nil ?_;clear k m c;intro w m k;have c:=HX.out w m.out.only))|((with_reducible refine rG (id:=10) [0,1,2,3,4,5,6,7,8,9,10,11,12,13,14,15,16,17] [18] (by kernel_rfl) (by kernel_rfl) ?_);simp only[pick,map_cons,map_nil,getD_cons_succ,getD_cons_zero];(repeat' (first|go_big_quiet_step (fail)|(refine wpQuiet_step (fun K hK=>?_);go_simp;(first|(refine hK _ ?_;clear hK K)|(split<;>(refine hK _ ?_;clear hK K))))));all_goals (refine wpQuiet_nil ?_;clear k m c;intro w m k;have c:=HX.out w m.out.only))|((with_reducible refine rG (id:=13) [0,1,2,3,4,5,6,7,8,9,10,11,12,13,14,15,16,17] [18] (by kernel_rfl) (by kernel_rfl) ?_);simp only[pick,map_cons,map_nil,getD_cons_succ,getD_cons_zero];(repeat' (first|go_big_quiet_step (fail)|(refine wpQuiet_step (fun K hK=>?_);go_simp;(first|(refine hK _ ?_;clear hK K)|(split<;>(refine hK _ ?_;clear hK K))))));all_goals (refine wpQuiet_nil ?_;clear k m c;intro w m k;have c:=HX.out w m.out.only))|((with_reducible refine rG (id:=15) [0,1,2,3,4,5,6,7,8,9,10] [] (by kernel_rfl) (by kernel_rfl) ?_);simp only[pick,map_cons,map_nil,getD_cons_succ,getD_cons_zero];(repeat' (first|go_big_quiet_step (fail)|(refine wpQuiet_step (fun K hK=>?_);go_simp;(first|(refine hK _ ?_;clear hK K)|(split<;>(refine hK _ ?_;clear hK K))))));all_goals (refine wpQuiet_nil ?_;clear k m c;intro w m k;have c:=HX.out w m.out.only)))
  refine rA (id:=17) [1,2,3,4,5] [0] 6 [7,8,9,10] (by kernel_rfl) (by kernel_rfl) ?_;simp only[pick,map_cons,map_nil,getD_cons_succ,getD_cons_zero]
  (repeat (first|(refine wpCalmG_step (fun K hK=>?_);go_simp;refine hK _ ?_;clear hK K)|(refine cG (by kernel_rfl) ⟨_,_,_,?_,fun w' o=>HR.out _ gO,?_⟩;(focus (intro w;go_simp;done)))));refine wpCalmG_nil ?_;(repeat (refine wpCalm_step (fun K hK=>?_);go_simp;refine hK _ ?_;clear hK K));refine wpCalm_nil ?_
  clear k m c;intro w o m k;refine wpOp_one rfl ?_;go_wp2;simp only[nrm];refine⟨o.alloc _,al_abs fun w3 b3 o3=>?_⟩;have OB:=hid (m.out.only.nil_trans o3);have B3:=hid b3;clear b3 o3;clear k m o;unfold wpTail;refine wpOp_one rfl ?_;have hE:=(HS.out.ls.kept OB.out (by simp)).1;rw[hvl] at hE;have HB3:=hid (OB.out.got HB.out (by simp));refine wpList_append_any (B:=w0.heap.size) rfl _ _ 90 rfl 192 (.agg #[.int .i64 0,.int .i64 0,.int .i64 0,.int .i64 0,.int .i64 0,.int .i64 0]) 6 48 Tryz.underlying90 (by kernel_rfl) rfl (by decide) lgC lgC_len lgC_one st.lgs (.slice vp st.lgs.length vc) rfl hE _ _ rfl (lg_cells B3.out) (by simp[maxLen];omega) (by omega) (Nat.le_trans HS.out.base OB.out.size) ?_;intro v6 w6 hown6 hk6 ho6;rw[<-hvl] at hk6 ho6;obtain⟨vp6,vc6,hv6,-⟩:=hown6.vrow lgC_len;rw[List.length_append,List.length_singleton] at hv6;subst hv6;have HE6:=hid (fun w8 o8 g8=>not_end (w8:=w8) HS.out OB.out hown6 hk6 ho6 o8 g8);have HB6:=hid (ho6.got HB3.out (fun hm=>by have:=HS.out.ls.2 _ hm;rw[HS.out.wa.1] at this;cases this));clear hE B3 hown6 hk6 ho6 HB3 OB HX HR;go_wp2;intro w7 o7;have HB7:=hid (o7.got HB6.out (by simp));have O7:=hid o7;clear o7;have m:=mm1 HB7.out;have k:=m.out.k;unfold wpTail;refine wpOp_one rfl ?_;go_wp2;simp only[nrm];refine tW ?_;clear k m;intro w m k;unfold wpTail;refine wpOp_one rfl ?_;go_wp2;simp only[nrm];refine tW ?_;clear k m;intro w m k;unfold wpTail;refine wpOp_one rfl ?_;go_wp2;simp only[nrm];refine tW ?_;clear k m;intro w m k;unfold wpTail;go_wp2;refine lN rfl rfl fun w8 o8 g8=>?_;exact⟨rfl,HE6.out w8 ((O7.out.mono (by simp)).trans o8 fun _ h=>.inl h) (by have:=g8.1;rw[<-hpn] at this;exact this)⟩
end Go.Proofs.YtppjhbjmfkiejaaGreat
