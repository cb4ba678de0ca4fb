/- netsim: a reply arrives. Conditions: those named in each theorem. -/
import Derived.Test.YthbgcpfklmlnjaaGreatFO6
import Derived.Test.YthbgcpfklmlnjaaGreatFO0
namespace Go.Proofs.YthbgcpfklmlnjaaGreat
set_option linter.all false
open List (getD_cons_succ getD_cons_zero map_cons map_nil mem_cons mem_singleton not_mem_nil)
open Go.Lib (hid)
set_option maxRecDepth 100000
set_option maxHeartbeats 4000000
open Go.RowKit Go.Sort
@[go_sem] theorem run_field5 (a b c d e f:Int) (w:World):(Instr.field 171 (.agg #[.int .i64 a,.int .i64 b,.int .i64 c,.int .i64 d,.int .i64 e,.int .i64 f]) 5).run Tryz.prog w=.ok (.int .i64 f) w:=by kernel_rfl
def hdC (h:Hd):List Value:=[.int .i64 h.kind,.string h.code,.int .i64 h.q.t1,.int .i64 h.q.t2,.int .i64 h.q.t3,.int .i64 h.q.t4]
theorem mkC_one (x:RB):∀ u∈YE x,u.oneCell'=true:=by simp[YE,Value.oneCell']
theorem mrk_end {w0 w w3 w6 w8:World} {own:Col} {s:dU} {p:j5} {st:bS} {v6:Value} {x:RB} {b:Nat} {j:Nat} {e:EvS} (h:aT w0 w own s p st) (o3:Only [] w w3) (h6:Own YE 61 9 w0.heap.size w6 v6 (st.mks ++ [x])) (hk:∀ k∈v6.ownBlock.toList,k∈p.vm.ownBlock.toList\/w3.heap.size<=k)
  (o6:Only p.vm.ownBlock.toList w3 w6) (o8:Only [p.bw] w6 w8) (g:(w8.heap[p.bw]?)=some (.cells #[.slice s.pn s.nd.length s.cn,.slice s.pl s.lk.length s.cl,.slice s.pf s.ft.length s.cf,.int .i64 s.un,.int .u64 s.sd,.slice (some ⟨p.ca,0,none⟩) s.nd.length s.nd.length,.pointer (some ⟨p.qb,0,none⟩),p.ve,.int .i64 st.sent,v6,p.vl] 74 (0,0)))
  (hb:own b=some (.V j)) (hc:w.heap[b]? = some (.cells (vL e).toArray (wR e) (0,0))) :
  oQ w0 w own s p { st with mks:=st.mks ++ [x] } b e w8:=by
 have hk':∀ k∈v6.ownBlock.toList,k∈p.vm.ownBlock.toList\/w.heap.size<=k:=fun k hm=>(hk k hm).imp id fun q=>Nat.le_trans o3.size q;have hq:∀ b∈v6.ownBlock.toList,own b=some .M\/w.heap.size<=b:=fun b hb=>(hk' b hb).imp (h.ms.2 b) id;have OA:Only (p.bw::p.vm.ownBlock.toList) w w8:=((o3.mono (by simp)).trans o6 fun y hy=>.inl (List.mem_cons_of_mem _ hy)).trans o8 fun y hy=>.inl (by rw[mem_singleton.1 hy];simp)
 have hS:∀ y∈p.bw::p.vm.ownBlock.toList,own y=some .M\/own y=some .W:=fun y hy=>by
  rcases mem_cons.1 hy with rfl|hy
  ·exact .inr h.wa.1
  ·exact .inl (h.ms.2 y hy)
 refine⟨⟨_,{ p with vm:=v6 },rfl,h.mrk (S:=p.bw::p.vm.ownBlock.toList) (v':=v6) (x:=x) OA hS (h6.off o8 ?_) hk' ⟨h.wa.1,g⟩,OA.got hc ?_,rD hq (aD hc)⟩,IW.only OA fun y hy hn=>by rcases hS y hy with q|q<;>rw[hn] at q<;>cases q⟩
 ·intro k hm hb
  rw[mem_singleton.1 hb] at hm;rcases hq _ hm with q|q
  ·rw[h.wa.1] at q;cases q
  ·have:=(h.lt _ _ h.wa.1).2
   omega
 ·intro hm
  rcases hS _ hm with q|q<;>rw[hb] at q<;>cases q
theorem pRepl {w0 w:World} {own:Col} {s:dU} {p:j5} {st:bS} (h:aT w0 w own s p st) (hs0:eO w0 s) (hml:st.mks.length<=1000000000) (t:Int) (t0:0<=t) (t1:t<=1125899906842624) (q:zP) (z:Np) (y:Iv) (he:nV s.sc q) (hz:eP z) {c:Cl} (hcl:gQ st q.c=some c) (hv:xP c)
  {b j:Nat} (hb:own b=some (.V j)) (hc:w.heap[b]? = some (.cells (vL (.rep q z y)).toArray (wR (.rep q z y)) (0,0))) :
  Calls Tryz.prog 214 #[.pointer (some ⟨b,0,none⟩),.pointer (some ⟨p.bw,0,none⟩),.int .i64 t] w fun r w'=>∃ a er c2,yQ (fF c q.i z y true (bO s.sc q.c t)).2 (bO s.sc q.c t) a er c2/\r=.returned (.bool true) /\
   oQ w0 w own s p (if (aY c2 (bO s.sc q.c t)).2=0 then { dO st q.c c2 with mks:=st.mks ++ [⟨t,q.c,bO s.sc q.c t,(aY c2 (bO s.sc q.c t)).1,c2.ck.steps,(nN c2 (bO s.sc q.c t)).1.lo,(nN c2 (bO s.sc q.c t)).1.hi,(fF c q.i z y true (bO s.sc q.c t)).1.1.kind,a.kind⟩] } else dO st q.c c2) b (.rep q z y) w':=by
 have hs:=hs0.kept h.only;obtain⟨⟨i,jj,hci,hsj,hi,-,-⟩,-,-⟩:=he;have hnl:s.sc.nd.length=s.nd.length:=by unfold dU.sc;simp
 rw[hnl] at hi;have HC:=hid hc;obtain⟨e0,he0⟩:∃ e0,e0=EvS.rep q z y:=⟨_,rfl⟩;rw[<-he0] at HC |-;obtain⟨q1,q2,q3,q4⟩:=q;dsimp only at hci hsj hcl |-;subst hci;clear hsj hnl;have ho:=hs.osc _ (bC aU hi);have hob:=GD ho t0 t1;have hraw:bO s.sc i t=qK (s.nd.getD i aU).n.ph (s.nd.getD i aU).n.sg t:=by unfold bO;rw[eB]
 rw[<-hraw] at hob;clear hraw;obtain⟨P,hP,hpi,hcii,hat,hcol⟩:=h.G6 hcl;have HRW:=hid (fun w' (o:Only [] w w')=>pRaw (h.wa.kept o (by simp)) (hs.ok.kept o) hi ho t t0 t1);have HX:=hid (fun w' (o:Only [] w w')=>by have:=h.cell hi o;rw[hP] at this;exact this);dsimp only[Option.map_some] at HX;have hv1:=hv.recv q2 hz y true (bO s.sc i t);generalize bO s.sc i t=raw at *;have HRC:=hid (fun w' (o:Only [] w w')=>dRecv (hat.kept o) hv.u.ok raw (by omega) (by omega) q2 z y true hz);generalize fF c q2 z y true raw=cs at HRC hv1 |-;obtain⟨⟨x,rer⟩,c1⟩:=cs;dsimp only at HRC hv1 |-;have HSET:=hid (fun c2=>qX st i c2);have hbw:=h.wa.2;have hbb:b≠p.bw:=fun e=>by rw[e,h.wa.1] at hb;cases hb
 have HH1:=hid h;have HAT:=hid hat;have HB1:=hid hb;have HPI:=hid hpi;have HCII:=hid hcii;have HCOL:=hid hcol;obtain⟨z1,z2,z3,z4,z5,z6,z7,z8,z9,za,zb,zc,zd⟩:=z;obtain⟨y1,y2⟩:=y;unfold vL wR UU YC at hc;simp only[List.cons_append,List.nil_append] at hc;unfold iL dS at HRC
 (try dsimp only at HRC hc)
 clear he0 h hs hb ho hat hpi hcii hcol hz hcl;obtain⟨wb,hwb⟩:∃ wb:World,wb=w:=⟨_,rfl⟩;subst hwb;have m:Mm wb [] wb _:=⟨((Mem.start wb []).ext false hbw (by simp) (by simp)).ext false hc (by simpa using hbb) (by simp)⟩;have k:=m.out.k;have c:=HX.out _ (Only.refl [] wb);have HBW:=hid hbw;have HCC:=hid hc;clear hbw hc;go_enter Tryz.func214,Tryz.ntmps214
 go_wp2_with (first|((with_reducible first|refine cM (HRW.out _ gO) ?_|refine cU ?_|refine wU ?_);clear k m c;intro w m k;have c:=HX.out w m.out.only)|((with_reducible refine rG (id:=1) [0,1,2,3,4,5,6,7,8,9,10,11] [] (by kernel_rfl) (by kernel_rfl) ?_);simp only[pick,map_cons,map_nil,getD_cons_succ,getD_cons_zero];(repeat' (first|go_big_quiet_step (fail)|(refine wpQuiet_step (fun K hK=>?_);go_simp;(first|(refine hK _ ?_;clear hK K)|(split<;>(refine hK _ ?_;clear hK K))))));all_goals (refine wpQuiet_nil ?_;clear k m c;intro w m k;have c:=HX.out w m.out.only)))
 apply zR (F:=fun nh w3=>wb.heap.size<=nh/\bP w3 P c1/\Only P.all wb w3/\w3.heap[nh]? = some (.cells (hdC x).toArray 322 (0,0)))
 case h =>
  refine rY (id:=3) [0,1,2,3,4,5,6,7,8,9,10,11,12,13,14] [] [15,20,21] 7 (by kernel_rfl) (by kernel_rfl) ?_;simp only[pick,map_cons,map_nil,getD_cons_succ,getD_cons_zero]
  (repeat (first|(refine aO (fun K hK=>?_);go_simp;refine hK _ ?_;clear hK K)));refine aR ?_;(repeat (refine aJ (fun K hK=>?_);go_simp;refine hK _ ?_;clear hK K));refine aN ?_
  intro w oW m k;have HSZ:=hid m.out.only.size;refine yM [15,19] (by kernel_rfl) rfl (.inr oW) ?_;clear k m;intro w oN m k;replace oW:=oW.aB oN;simp only[mem_cons,not_mem_nil,or_false,forall_eq_or_imp,forall_eq];refine⟨?_,?_⟩
  ·refine aC rfl ?_
   go_wp2_with fail
   with_reducible refine (HRC.out w m.out.only).mono ?_
   rintro r w2 ⟨rfl,hat2,ho2⟩;have HA2:=hid hat2;have HO2:=hid (show Only P.all wb w2 from (m.out.only.mono (by simp)).trans ho2 fun y hy=>.inl hy);have HS2:=hid (Nat.le_trans m.out.only.size ho2.size);clear hat2 ho2 k m;have m:=dD w2 [];have k:=m.out.k;go_wp2;simp only[bG];refine yP [16,17,18] 3 rfl (by kernel_rfl) ?_;simp only[pick,map_cons,map_nil,getD_cons_succ,getD_cons_zero]
   (repeat (refine aJ (fun K hK=>?_);go_simp;refine hK _ ?_;clear hK K))
   refine aN ?_;refine yM [19] (by kernel_rfl) rfl (.inl (aQ (by kernel_rfl))) ?_;clear k m;intro w oN m k;clear oN;simp only[mem_cons,not_mem_nil,or_false,forall_eq];refine aC rfl ?_;go_wp2;simp only[bG];obtain⟨nh,hnh⟩:∃ n,n=w.heap.size:=⟨_,rfl⟩;have HNH:=hid (show wb.heap.size<=nh by rw[hnh];exact Nat.le_trans HS2.out m.out.only.size);refine yA ?_;clear k m;intro w oN m k;clear oN;rw[<-hnh] at m |-;clear hnh k;have k:=m.out.k;refine yM [20] (by kernel_rfl) rfl (.inl (aQ (by kernel_rfl))) ?_;clear k m;intro w oN m k;clear oN;simp only[mem_cons,not_mem_nil,or_false,forall_eq];refine aC rfl ?_;refine jA (ty:=322) (b:=nh) (cs:=hdC x) ?_ ?_ ?_ ?_ ?_ ?_
   ·simp[Act.eval]
   ·simp[Act.eval];rfl
   ·kernel_rfl
   ·rfl
   ·rfl
   clear k m;intro w m;have k:=m.out.k;go_wp2;simp only[bG];refine yM [21] (by kernel_rfl) rfl (.inl (aQ (by kernel_rfl))) ?_;clear k m;intro w oN m k;clear oN;simp only[mem_cons,not_mem_nil,or_false,forall_eq];refine aC rfl ?_;go_wp2;simp only[bG];refine yE (by kernel_rfl) (.inl (aQ (by kernel_rfl))) ?_;clear k m;intro w m k;exact⟨rfl,nh,rfl,HNH.out,HA2.out.kept m.out.only,HO2.out.trans m.out.only (by simp),gB⟩
  ·refine aC rfl ?_
   go_wp2;simp only[bG];obtain⟨nh,hnh⟩:∃ n,n=w.heap.size:=⟨_,rfl⟩;have HNH:=hid (show wb.heap.size<=nh by rw[hnh];exact m.out.only.size);refine yA ?_;clear k m oN;intro w oN m k;replace oW:=oW.aB oN;rw[<-hnh] at m |-;clear hnh k;have k:=m.out.k;refine yM [15] (by kernel_rfl) rfl (.inr oW) ?_;clear k m oN;intro w oN m k;replace oW:=oW.aB oN;simp only[mem_cons,not_mem_nil,or_false,forall_eq];have HZ:=hid (gB (w:=w) (b:=nh));have HNP:nh ∉ P.all:=fun hm=>by have h1:=HAT.out.lt _ hm;have h2:=HNH.out;omega
   refine aC rfl ?_;go_wp2_with fail
   with_reducible refine (HRC.out w m.out.only).mono ?_
   rintro r w2 ⟨rfl,hat2,ho2⟩;have HA2:=hid hat2;have HO2:=hid (show Only P.all wb w2 from (m.out.only.mono (by simp)).trans ho2 fun y hy=>.inl hy);have hz2:=ho2.got HZ.out HNP;clear hat2 ho2 k m;have m:=lQ hz2;have k:=m.out.k;clear hz2;go_wp2;simp only[bG];refine yP [16,17,18] 2 rfl (by kernel_rfl) ?_;simp only[pick,map_cons,map_nil,getD_cons_succ,getD_cons_zero]
   (repeat (refine aJ (fun K hK=>?_);go_simp;refine hK _ ?_;clear hK K))
   refine aN ?_;refine yM [20] (by kernel_rfl) rfl (.inl (aQ (by kernel_rfl))) ?_;clear k m;intro w oN m k;clear oN;simp only[mem_cons,not_mem_nil,or_false,forall_eq];refine aC rfl ?_;refine jA (ty:=322) (b:=nh) (cs:=hdC x) ?_ ?_ ?_ ?_ ?_ ?_
   ·simp[Act.eval]
   ·simp[Act.eval];rfl
   ·kernel_rfl
   ·rfl
   ·rfl
   clear k m;intro w m;have k:=m.out.k;go_wp2;simp only[bG];refine yM [21] (by kernel_rfl) rfl (.inl (aQ (by kernel_rfl))) ?_;clear k m;intro w oN m k;clear oN;simp only[mem_cons,not_mem_nil,or_false,forall_eq];refine aC rfl ?_;go_wp2;simp only[bG];refine yE (by kernel_rfl) (.inl (aQ (by kernel_rfl))) ?_;clear k m;intro w m k;exact⟨rfl,nh,rfl,HNH.out,HA2.out.off m.out.only (fun y hy hm=>HNP (by rw[mem_singleton.1 hm] at hy;exact hy)),HO2.out.trans m.out.only (fun y hy=>.inr (by rw[mem_singleton.1 hy];exact HNH.out)),gB⟩
 case k =>
  intro nh w3 hF;obtain⟨hnh,hat3,ho3,hh3⟩:=hF;have hbP:b ∉ P.all:=fun hm=>by have:=HCOL.out b hm;rw[HB1.out] at this;cases this
  have hwP:p.bw ∉ P.all:=fun hm=>by have:=HCOL.out _ hm;rw[HH1.out.wa.1] at this;cases this
  have hnP:nh ∉ P.all:=fun hm=>by have:=HAT.out.lt _ hm;omega
  have hnb:nh≠p.bw:=fun e=>by have h1:=(HH1.out.lt _ _ HH1.out.wa.1).2;rw[<-e] at h1;omega
  have hne:nh≠b:=fun e=>by have h1:=(HH1.out.lt _ _ HB1.out).2;rw[<-e] at h1;omega
  have hpl:=(List.getElem?_eq_some_iff.1 HPI.out).1;have hcl:=(List.getElem?_eq_some_iff.1 HCII.out).1;have h2:=HH1.out.cli HPI.out HCII.out hat3 rfl (fun _ h=>.inl h) ho3;have hb2:=(bQ (own:=own) (t:=.C i) hbP).trans HB1.out;have hbe2:=bQ (own:=own) (t:=.C i) hbP;have HN2:=hid (show ∀ x,x<wb.heap.size->own x=none->dG own P.all (.C i) x=none from fun x hx hn=>(bQ fun hm=>by have:=HCOL.out x hm;rw[hn] at this;cases this).trans hn);have HO3:=hid ho3;have HCO:=hid (show ∀ x∈P.all,own x≠none from fun x hx hn=>by have:=HCOL.out x hx;rw[hn] at this;cases this);generalize dG own P.all (.C i)=own2 at h2 hb2 hbe2 HN2;have HUP:=hid (fun w' (o:Only [] w3 w')=>WO (hat3.kept o) hv1.u.ok hv1.u.sv hv1.u.g hv1.u.tol hv1.u.kp hv1.u.rd raw (by omega) (by omega));have hbw3:=ho3.got HBW.out hwP;have hc3:=ho3.got HCC.out hbP;have HC3:=hid (ho3.got HC.out hbP);have HB2:=hid hb2;have HBE2:=hid hbe2;have HH2:=hid h2;have HP2:=hid (show (p.pl.set i (some P))[i]? = some (some P) by rw[List.getElem?_set_self hpl]);have HC2:=hid (show (st.cl.set i (some c1))[i]? = some (some c1) by rw[List.getElem?_set_self hcl]);have HHH:=hid hh3;have HBW3:=hid hbw3;have HCC3:=hid hc3;unfold hdC at hh3;obtain⟨w3',hw3'⟩:∃ w3':World,w3'=w3:=⟨_,rfl⟩;subst hw3';have m:Mm w3' [] w3' _:=⟨(((Mem.start w3' []).ext false hh3 (by simp) (by simp)).ext false hbw3 (by simpa using Ne.symm hnb) (by simp)).ext false hc3 (by simpa using ⟨hbb,Ne.symm hne⟩) (by simp)⟩;have k:=m.out.k;clear HRC HX HRW HAT HB1 HPI HCII HCOL HBW HC HCC hat3 ho3 hh3 hbw3 hc3 h2 hb2 hbe2;go_wp2_with ((with_reducible first|refine cU ?_|refine wU ?_);clear k m;intro w m k)
  refine (HUP.out w3' m.out.only).mono ?_;rintro r w4 ⟨a,uer,c2,rfl,hu,⟨P',hbc,hat4,hP'⟩,ho4⟩;have OU:=m.out.only;have hP2:∀ b∈P'.all,b∈P.all\/w3'.heap.size<=b:=fun b hb=>(hP' b hb).imp id fun q=>Nat.le_trans OU.size q;have O4:Only P.all w3' w4:=(OU.mono (by simp)).trans ho4 fun y hy=>.inl hy;have hv2:=hv1.upd hu;have h3:=HH2.out.cli HP2.out HC2.out hat4 hbc hP2 O4
  have hbP':b ∉ P'.all:=fun hm=>by
   rcases hP2 b hm with q|q
   ·exact hbP q
   ·have:=(HH2.out.lt _ _ HB2.out).2;omega
  have hb3:=(bQ (own:=own2) (t:=.C i) hbP').trans HB2.out;have hbe3:=(bQ (own:=own2) (t:=.C i) hbP').trans HBE2.out;dsimp only at h3;rw[List.set_set,List.set_set] at h3;have HZ4:=hid (Nat.le_trans HO3.out.size O4.size);have HK4:=hid (IW.only (own:=own) (HO3.out.trans O4 fun y hy=>.inl hy) HCO.out)
  have HN4:=hid (show ∀ x,x<wb.heap.size->own x=none->dG own2 P'.all (.C i) x=none from fun x hx hn=>(bQ fun hm=>by
   rcases hP2 x hm with q|q
   ·exact HCO.out x q hn
   ·have:=HO3.out.size;omega).trans (HN2.out x hx hn))
  generalize dG own2 P'.all (.C i)=own3 at h3 hb3 hbe3 HN4;have HC4:=hid (O4.got HC3.out hbP);have hh4:=O4.got HHH.out hnP;have hc4:=O4.got HCC3.out hbP;have hbw4:=h3.wa.2;dsimp only at hbw4;obtain⟨vp,vc,hvm,-⟩:=h3.ms.1.eH zC;dsimp only at hvm;rw[hvm] at hbw4;have HN:=hid (fun w' (o:Only [] w4 w')=>by have:=BF (hat4.kept o) hv2.u.ok.ck raw (by omega) (by omega);rw[hbc] at this;exact this);have HI:=hid (fun w' (o:Only [] w4 w')=>by have:=EW (hat4.kept o) hv2.u.ok raw (by omega) (by omega);rw[hbc] at this;exact this);have HCK:=hid (fun w' (o:Only [] w4 w')=>by have:=XV (hat4.kept o);rw[hbc] at this;exact this);have HU:=hid hu;have HB3:=hid hb3;have HBE3:=hid hbe3;have HH3:=hid h3;have HBW4:=hid hbw4;obtain⟨a1,a2⟩:=a;unfold TV;obtain⟨n1,n2,hcn⟩:∃ n1 n2,aY c2 raw=(n1,n2):=⟨_,_,rfl⟩;obtain⟨v1,v2,ie,hci⟩:∃ v1 v2 ie,nN c2 raw=(⟨v1,v2⟩,ie):=⟨_,_,_,rfl⟩;rw[hcn] at HN;rw[hci] at HI;unfold dS at HI;dsimp only at HN HI;have HCN:=hid hcn;have HCI:=hid hci;unfold hdC at hh4;clear HUP k m HH2 HP2 HC2 HB2 HBE2 HHH HBW3 HCC3 HC3 hu hat4 hP' ho4 OU hP2 O4 h3 hb3 hbe3 hcn hci hv1 hv2 hbP hwP hnP hbP' hpl hcl HH1;obtain⟨wd,hwd⟩:∃ wd:World,wd=w4:=⟨_,rfl⟩;subst hwd;have m:Mm wd [] wd _:=⟨(((Mem.start wd []).ext false hh4 (by simp) (by simp)).ext false hbw4 (by simpa using Ne.symm hnb) (by simp)).ext false hc4 (by simpa using ⟨hbb,Ne.symm hne⟩) (by simp)⟩;have k:=m.out.k;clear hh4 hbw4 hc4;by_cases hn:n2=0
  ·subst hn
   go_wp2_with ((with_reducible first|refine cM (HN.out _ gO) ?_|refine cM (HI.out _ gO) ?_|refine cU ?_|refine wU ?_);clear k m;intro w m k)
   refine rA (id:=9) [1,2,3,4,5,6,7,8,9,10,11,12,13,14,15,16,17,18,19,20,21] [0] 22 [23,24,25,26] (by kernel_rfl) (by kernel_rfl) ?_;simp only[pick,map_cons,map_nil,getD_cons_succ,getD_cons_zero]
   (repeat (first|(refine aO (fun K hK=>?_);go_simp;refine hK _ ?_;clear hK K)|(refine cG (by kernel_rfl) ⟨_,_,_,?_,fun w' o=>HCK.out _ (m.out.only.aB o),?_⟩;(focus (intro w;go_simp;done)))));refine aR ?_;(repeat (refine aJ (fun K hK=>?_);go_simp;refine hK _ ?_;clear hK K));refine aN ?_
   clear k m;intro w o m k;refine aC rfl ?_;go_wp2;simp only[bG];refine⟨o.alloc _,NK fun w3 b3 o3=>?_⟩;have OB:=hid (m.out.only.aB o3);have B3:=hid b3;clear b3 o3 k m o;unfold aV;refine aC rfl ?_;have hE:=(HH3.out.ms.kept OB.out (by simp)).1;dsimp only at hE;rw[hvm] at hE;have HB5:=hid (OB.out.got HBW4.out (by simp));refine iN (B:=w0.heap.size) rfl _ _ 51 rfl 61 (.agg #[.int .i64 0,.int .i64 0,.int .i64 0,.int .i64 0,.int .i64 0,.int .i64 0,.int .i64 0,.int .i64 0,.int .i64 0]) 9 72 Tryz.underlying51 (by kernel_rfl) rfl (by decide) YE zC mkC_one st.mks (.slice vp st.mks.length vc) rfl hE _ ⟨t,i,raw,n1,c2.ck.steps,v1,v2,x.kind,a1⟩ rfl (fun jj u hj=>by rw[aA B3.out,<-hj];simp[YE]) (by simp[maxLen];omega) (by omega) (Nat.le_trans HH3.out.base OB.out.size) ?_;intro v6 w6 hown6 hk6 ho6;rw[<-hvm] at hk6 ho6;obtain⟨vp6,vc6,hv6,-⟩:=hown6.eH zC;rw[show (st.mks ++ [(⟨t,i,raw,n1,c2.ck.steps,v1,v2,x.kind,a1⟩:RB)]).length=st.mks.length+1 by simp] at hv6;subst hv6;have HE6:=hid (fun w8 o8 g8=>mrk_end (w8:=w8) HH3.out OB.out hown6 hk6 ho6 o8 g8 HB3.out HC4.out);have HB6:=hid (ho6.got HB5.out (fun hm=>by have:=HH3.out.ms.2 _ hm;rw[HH3.out.wa.1] at this;cases this))
   have HFIN:=hid (fun w8 o8 g8=>(show oQ w0 wb own s p (if (aY c2 raw).2=0 then { dO st i c2 with mks:=st.mks ++ [⟨t,i,raw,(aY c2 raw).1,c2.ck.steps,(nN c2 raw).1.lo,(nN c2 raw).1.hi,x.kind,a1⟩] } else dO st i c2) b e0 w8 by
    rw[HCN.out,if_pos rfl,HCI.out,HSET.out];exact (HE6.out w8 o8 g8).trans rfl HBE3.out HK4.out HZ4.out HN4.out))
   clear hE B3 hown6 hk6 ho6 HB5 OB HN HI HCK HC4;go_wp2;intro w7 o7;have HB7:=hid (o7.got HB6.out (by simp));have O7:=hid o7;clear o7;have m:=lQ HB7.out;have k:=m.out.k;unfold aV;refine aC rfl ?_;go_wp2;simp only[bG];refine tW ?_;clear k m;intro w m k;unfold aV;refine aC rfl ?_;go_wp2;simp only[bG];refine tW ?_;clear k m;intro w m k;unfold aV;refine aC rfl ?_;go_wp2;simp only[bG];refine tW ?_;clear k m;intro w m k;unfold aV;go_wp2_with (first|((with_reducible refine wU ?_);clear k m;intro w m k)|((with_reducible refine lE (fun w o g k K hK=>⟨rfl,?_⟩));simp[results,Tryz.results214,go_sem];refine hK _ ?_;exact⟨_,_,c2,HU.out,rfl,HFIN.out _ ((O7.out.mono (by simp)).trans o fun _ h=>.inl h) g.1⟩))
  ·have der:(n2 != 0)=true:=by simpa using hn
   have HFIN:=hid (fun w' (o:Only [] wd w')=>(show oQ w0 wb own s p (if (aY c2 raw).2=0 then { dO st i c2 with mks:=st.mks ++ [⟨t,i,raw,(aY c2 raw).1,c2.ck.steps,(nN c2 raw).1.lo,(nN c2 raw).1.hi,x.kind,a1⟩] } else dO st i c2) b e0 w' by
    rw[HCN.out,if_neg hn,HSET.out];exact⟨⟨own3,{ p with pl:=p.pl.set i (some P') },rfl,HH3.out.kept o,o.got HC4.out (by simp),HBE3.out⟩,HK4.out.trans (IW.only (own:=own3) o (by simp)) HZ4.out HN4.out⟩))
   go_wp2_with (first|((with_reducible first|refine cM (HN.out _ gO) ?_|refine cU ?_|refine wU ?_);clear k m;intro w m k)|((with_reducible refine lE (fun w o g k K hK=>⟨rfl,?_⟩));simp[results,Tryz.results214,go_sem];refine hK _ ?_;exact⟨_,_,c2,HU.out,rfl,HFIN.out _ o⟩))
end Go.Proofs.YthbgcpfklmlnjaaGreat
