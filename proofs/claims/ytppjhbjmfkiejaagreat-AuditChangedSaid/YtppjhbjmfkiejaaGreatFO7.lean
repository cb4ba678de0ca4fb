/- netsim: a reply arrives. Conditions: those named in each theorem. -/
import Derived.Test.YtppjhbjmfkiejaaGreatFO6
import Derived.Test.YtppjhbjmfkiejaaGreatFNw
namespace Go.Proofs.YtppjhbjmfkiejaaGreat
set_option linter.all false
set_option maxRecDepth 100000
set_option maxHeartbeats 4000000
open Go.RowKit Go.Sort
@[go_sem] theorem run_field5 (a b c d e f:Int) (w:World):(Instr.field 213 (.agg #[.int .i64 a,.int .i64 b,.int .i64 c,.int .i64 d,.int .i64 e,.int .i64 f]) 5).run Tryz.prog w=.ok (.int .i64 f) w:=by kernel_rfl
def hdC (h:Hd):List Value:=[.int .i64 h.kind,.string h.code,.int .i64 h.q.t1,.int .i64 h.q.t2,.int .i64 h.q.t3,.int .i64 h.q.t4]
theorem II (x:iD):∀ u∈kC x,u.oneCell'=true:=by simp[kC,Value.oneCell']
theorem mrk_end {w0 w w3 w6 w8:World} {own:Col} {s:dW} {p:kI} {st:bT} {v6:Value} {x:iD} {b:Nat} {j:Nat} {e:EvS} (h:aX w0 w own s p st) (o3:Oy [] w w3) (h6:Own kC 41 9 w0.heap.size w6 v6 (st.mks ++ [x])) (hk:∀ k∈v6.ownBlock.toList,k∈p.vm.ownBlock.toList\/w3.heap.size<=k)
  (o6:Oy p.vm.ownBlock.toList w3 w6) (o8:Oy [p.bw] w6 w8) (g:(w8.heap[p.bw]?)=some (.cells #[.slice s.pn s.nd.length s.cn,.slice s.pl s.lk.length s.cl,.slice s.pf s.ft.length s.cf,.int .i64 s.un,.int .u64 s.sd,.slice (some ⟨p.ca,0,none⟩) s.nd.length s.nd.length,.pointer (some ⟨p.qb,0,none⟩),p.ve,.int .i64 st.sent,v6,p.vl] 92 (0,0)))
  (hb:own b=some (.V j)) (hc:w.heap[b]? = some (.cells (wD e).toArray (xP e) (0,0))) :
  pO w0 w own s p { st with mks:=st.mks ++ [x] } b e w8:=by
 have hk':∀ k∈v6.ownBlock.toList,k∈p.vm.ownBlock.toList\/w.heap.size<=k:=fun k hm=>(hk k hm).imp id fun q=>Nat.le_trans o3.size q;have hq:∀ b∈v6.ownBlock.toList,own b=some .M\/w.heap.size<=b:=fun b hb=>(hk' b hb).imp (h.ms.2 b) id;have OA:Oy (p.bw::p.vm.ownBlock.toList) w w8:=((o3.mono (by simp)).trans o6 fun y hy=>.inl (List.mem_cons_of_mem _ hy)).trans o8 fun y hy=>.inl (by rw[List.mem_singleton.1 hy];simp)
 have hS:∀ y∈p.bw::p.vm.ownBlock.toList,own y=some .M\/own y=some .W:=fun y hy=>by
  rcases List.mem_cons.1 hy with rfl|hy
  ·exact .inr h.wa.1
  ·exact .inl (h.ms.2 y hy)
 refine⟨⟨_,{ p with vm:=v6 },rfl,h.VQ (S:=p.bw::p.vm.ownBlock.toList) (v':=v6) (x:=x) OA hS (h6.off o8 ?_) hk' ⟨h.wa.1,g⟩,OA.got hc ?_,r9 hq (aF hc)⟩,JM.only OA fun y hy hn=>by rcases hS y hy with q|q<;>rw[hn] at q<;>cases q⟩
 ·intro k hm hb
  rw[List.mem_singleton.1 hb] at hm;rcases hq _ hm with q|q
  ·rw[h.wa.1] at q;cases q
  ·have:=(h.lt _ _ h.wa.1).2
   omega
 ·intro hm
  rcases hS _ hm with q|q<;>rw[hb] at q<;>cases q
theorem pRepl {w0 w:World} {own:Col} {s:dW} {p:kI} {st:bT} (h:aX w0 w own s p st) (hs0:fK w0 s) (hml:st.mks.length<=1000000000) (t:Int) (t0:0<=t) (t1:t<=1125899906842624) (q:AJ) (z:Np) (y:Iv) (he:oC s.sc q) (hz:fA z) {c:Cl} (hcl:gW st q.c=some c) (hv:yL c)
  {b j:Nat} (hb:own b=some (.V j)) (hc:w.heap[b]? = some (.cells (wD (.rep q z y)).toArray (xP (.rep q z y)) (0,0))) :
  Calls Tryz.prog 229 #[.pointer (some ⟨b,0,none⟩),.pointer (some ⟨p.bw,0,none⟩),.int .i64 t] w fun r w'=>∃ a er c2,tF (fJ c q.i z y true (bN s.sc q.c t)).2 (bN s.sc q.c t) a er c2/\r=.returned (.bool true) /\
   pO w0 w own s p (if (aZ c2 (bN s.sc q.c t)).2=0 then { dS st q.c c2 with mks:=st.mks ++ [⟨t,q.c,bN s.sc q.c t,(aZ c2 (bN s.sc q.c t)).1,c2.ck.steps,(nS c2 (bN s.sc q.c t)).1.lo,(nS c2 (bN s.sc q.c t)).1.hi,(fJ c q.i z y true (bN s.sc q.c t)).1.1.kind,a.kind⟩] } else dS st q.c c2) b (.rep q z y) w':=by
 have hs:=hs0.kept h.only;obtain⟨⟨i,jj,hci,hsj,hi,-,-⟩,-,-⟩:=he;have hnl:s.sc.nd.length=s.nd.length:=by unfold dW.sc;simp
 rw[hnl] at hi;have HC:=aA hc;obtain⟨e0,he0⟩:∃ e0,e0=EvS.rep q z y:=⟨_,rfl⟩;rw[<-he0] at HC |-;obtain⟨q1,q2,q3,q4⟩:=q;dsimp only at hci hsj hcl |-;subst hci;clear hsj hnl;have ho:=hs.osc _ (bS bD hi);have hob:=IC ho t0 t1;have hraw:bN s.sc i t=qR (s.nd.getD i bD).n.ph (s.nd.getD i bD).n.sg t:=by unfold bN;rw[fH]
 rw[<-hraw] at hob;clear hraw;obtain⟨P,hP,hpi,hcii,hat,hcol⟩:=h.I7 hcl;have HRW:=aA (fun w' (o:Oy [] w w')=>pRaw (h.wa.kept o (by simp)) (hs.ok.kept o) hi ho t t0 t1);have HX:=aA (fun w' (o:Oy [] w w')=>by have:=h.cell hi o;rw[hP] at this;exact this);dsimp only[Option.map_some] at HX;have hv1:=hv.recv q2 hz y true (bN s.sc i t);generalize bN s.sc i t=raw at *;have HRC:=aA (fun w' (o:Oy [] w w')=>dRecv (hat.kept o) hv.u.ok raw (by omega) (by omega) q2 z y true hz);generalize fJ c q2 z y true raw=cs at HRC hv1 |-;obtain⟨⟨x,rer⟩,c1⟩:=cs;dsimp only at HRC hv1 |-;have HSET:=aA (fun c2=>rV st i c2);have hbw:=h.wa.2;have hbb:b≠p.bw:=fun e=>by rw[e,h.wa.1] at hb;cases hb
 have HH1:=aA h;have HAT:=aA hat;have HB1:=aA hb;have HPI:=aA hpi;have HCII:=aA hcii;have HCOL:=aA hcol;obtain⟨z1,z2,z3,z4,z5,z6,z7,z8,z9,za,zb,zc,zd⟩:=z;obtain⟨y1,y2⟩:=y;unfold wD xP WC ZQ at hc;simp only[List.cons_append,List.nil_append] at hc;unfold iR dV at HRC
 (try dsimp only at HRC hc)
 clear he0 h hs hb ho hat hpi hcii hcol hz hcl;obtain⟨wb,rfl⟩:∃ wb:World,wb=w:=⟨_,rfl⟩;have m:Mm wb [] wb _:=⟨((Mem.start wb []).ext false hbw (by simp) (by simp)).ext false hc (by simpa using hbb) (by simp)⟩;have k:=m.zK;have c:=HX.out _ (aR [] wb);have HBW:=aA hbw;have HCC:=aA hc;clear hbw hc;go_enter Tryz.func229,Tryz.ntmps229
 go_wp2_with (first|((with_reducible first|refine cM (HRW.out _ gO) ?_|refine cU ?_|refine wU ?_);clear k m c;intro w m k;have c:=HX.out w m.zO)|((with_reducible refine iY (id:=1) [0,1,2,3,4,5,6,7,8,9,10,11] [] ?_);simp only[bV];(repeat' (first|go_big_quiet_step (fail)|(refine wpQuiet_step (fun K hK=>?_);go_simp;(first|(refine hK _ ?_;clear hK K)|(split<;>(refine hK _ ?_;clear hK K))))));all_goals (refine wpQuiet_nil ?_;clear k m c;intro w m k;have c:=HX.out w m.zO)))
 apply AO (F:=fun nh w3=>wb.heap.size<=nh/\bP w3 P c1/\Oy P.all wb w3/\w3.heap[nh]? = some (.cells (hdC x).toArray 366 (0,0)))
 case h =>
  refine rY (id:=3) [0,1,2,3,4,5,6,7,8,9,10,11,12,13,14] [] [15,20,21] 7 (by kernel_rfl) (by kernel_rfl) ?_;simp only[bV]
  (repeat (first|(refine aQ (fun K hK=>?_);go_simp;refine hK _ ?_;clear hK K)));refine aS ?_;(repeat (refine aJ (fun K hK=>?_);go_simp;refine hK _ ?_;clear hK K));refine aK ?_
  intro w oW m k;have HSZ:=aA m.zO.size;refine yM [15,19] (by kernel_rfl) rfl (.inr oW) ?_;clear k m;intro w oN m k;replace oW:=oW.aB oN;simp only[List.mem_cons,List.not_mem_nil,or_false,forall_eq_or_imp,forall_eq];refine⟨?_,?_⟩
  ·refine aD rfl ?_
   go_wp2_with fail
   with_reducible refine (HRC.out w m.zO).mono ?_
   rintro r w2 ⟨rfl,hat2,ho2⟩;have HA2:=aA hat2;have HO2:=aA (show Oy P.all wb w2 from (m.zO.mono (by simp)).trans ho2 fun y hy=>.inl hy);have HS2:=aA (Nat.le_trans m.zO.size ho2.size);clear hat2 ho2 k m;have m:=bJ w2 [];have k:=m.zK;go_wp2;simp only[bA];refine yP [16,17,18] 3 rfl (by kernel_rfl) ?_;simp only[bV]
   (repeat (refine aJ (fun K hK=>?_);go_simp;refine hK _ ?_;clear hK K))
   refine aK ?_;refine yM [19] (by kernel_rfl) rfl (.inl (aT (by kernel_rfl))) ?_;clear k m;intro w oN m k;clear oN;simp only[eD];refine aD rfl ?_;go_wp2;simp only[bA];obtain⟨nh,hnh⟩:∃ n,n=w.heap.size:=⟨_,rfl⟩;have HNH:=aA (show wb.heap.size<=nh by rw[hnh];exact Nat.le_trans HS2.out m.zO.size);refine yA ?_;clear k m;intro w oN m k;clear oN;rw[<-hnh] at m |-;clear hnh k;have k:=m.zK;refine yM [20] (by kernel_rfl) rfl (.inl (aT (by kernel_rfl))) ?_;clear k m;intro w oN m k;clear oN;simp only[eD];refine aD rfl ?_;refine iL (ty:=366) (b:=nh) (cs:=hdC x) ?_ ?_ ?_ ?_ ?_ ?_
   ·simp[Act.eval]
   ·simp[Act.eval];rfl
   ·kernel_rfl
   ·rfl
   ·rfl
   clear k m;intro w m;have k:=m.zK;go_wp2;simp only[bA];refine yM [21] (by kernel_rfl) rfl (.inl (aT (by kernel_rfl))) ?_;clear k m;intro w oN m k;clear oN;simp only[eD];refine aD rfl ?_;go_wp2;simp only[bA];refine yE (by kernel_rfl) (.inl (aT (by kernel_rfl))) ?_;clear k m;intro w m k;exact⟨rfl,nh,rfl,HNH.out,HA2.out.kept m.zO,HO2.out.trans m.zO (by simp),gB⟩
  ·refine aD rfl ?_
   go_wp2;simp only[bA];obtain⟨nh,hnh⟩:∃ n,n=w.heap.size:=⟨_,rfl⟩;have HNH:=aA (show wb.heap.size<=nh by rw[hnh];exact m.zO.size);refine yA ?_;clear k m oN;intro w oN m k;replace oW:=oW.aB oN;rw[<-hnh] at m |-;clear hnh k;have k:=m.zK;refine yM [15] (by kernel_rfl) rfl (.inr oW) ?_;clear k m oN;intro w oN m k;replace oW:=oW.aB oN;simp only[eD];have HZ:=aA (gB (w:=w) (b:=nh));have HNP:nh ∉ P.all:=fun hm=>by have h1:=HAT.out.lt _ hm;have h2:=HNH.out;omega
   refine aD rfl ?_;go_wp2_with fail
   with_reducible refine (HRC.out w m.zO).mono ?_
   rintro r w2 ⟨rfl,hat2,ho2⟩;have HA2:=aA hat2;have HO2:=aA (show Oy P.all wb w2 from (m.zO.mono (by simp)).trans ho2 fun y hy=>.inl hy);have hz2:=ho2.got HZ.out HNP;clear hat2 ho2 k m;have m:=kV hz2;have k:=m.zK;clear hz2;go_wp2;simp only[bA];refine yP [16,17,18] 2 rfl (by kernel_rfl) ?_;simp only[bV]
   (repeat (refine aJ (fun K hK=>?_);go_simp;refine hK _ ?_;clear hK K))
   refine aK ?_;refine yM [20] (by kernel_rfl) rfl (.inl (aT (by kernel_rfl))) ?_;clear k m;intro w oN m k;clear oN;simp only[eD];refine aD rfl ?_;refine iL (ty:=366) (b:=nh) (cs:=hdC x) ?_ ?_ ?_ ?_ ?_ ?_
   ·simp[Act.eval]
   ·simp[Act.eval];rfl
   ·kernel_rfl
   ·rfl
   ·rfl
   clear k m;intro w m;have k:=m.zK;go_wp2;simp only[bA];refine yM [21] (by kernel_rfl) rfl (.inl (aT (by kernel_rfl))) ?_;clear k m;intro w oN m k;clear oN;simp only[eD];refine aD rfl ?_;go_wp2;simp only[bA];refine yE (by kernel_rfl) (.inl (aT (by kernel_rfl))) ?_;clear k m;intro w m k;exact⟨rfl,nh,rfl,HNH.out,HA2.out.off m.zO (fun y hy hm=>HNP (by rw[List.mem_singleton.1 hm] at hy;exact hy)),HO2.out.trans m.zO (fun y hy=>.inr (by rw[List.mem_singleton.1 hy];exact HNH.out)),gB⟩
 case k =>
  intro nh w3 hF;obtain⟨hnh,hat3,ho3,hh3⟩:=hF;have hbP:b ∉ P.all:=fun hm=>by have:=HCOL.out b hm;rw[HB1.out] at this;cases this
  have hwP:p.bw ∉ P.all:=fun hm=>by have:=HCOL.out _ hm;rw[HH1.out.wa.1] at this;cases this
  have hnP:nh ∉ P.all:=fun hm=>by have:=HAT.out.lt _ hm;omega
  have hnb:nh≠p.bw:=fun e=>by have h1:=(HH1.out.lt _ _ HH1.out.wa.1).2;rw[<-e] at h1;omega
  have hne:nh≠b:=fun e=>by have h1:=(HH1.out.lt _ _ HB1.out).2;rw[<-e] at h1;omega
  have hpl:=(List.getElem?_eq_some_iff.1 HPI.out).1;have hcl:=(List.getElem?_eq_some_iff.1 HCII.out).1;have h2:=HH1.out.cli HPI.out HCII.out hat3 rfl (fun _ h=>.inl h) ho3;have hb2:=(bW (own:=own) (t:=.C i) hbP).trans HB1.out;have hbe2:=bW (own:=own) (t:=.C i) hbP;have HN2:=aA (show ∀ x,x<wb.heap.size->own x=none->dJ own P.all (.C i) x=none from fun x hx hn=>(bW fun hm=>by have:=HCOL.out x hm;rw[hn] at this;cases this).trans hn);have HO3:=aA ho3;have HCO:=aA (show ∀ x∈P.all,own x≠none from fun x hx hn=>by have:=HCOL.out x hx;rw[hn] at this;cases this);generalize dJ own P.all (.C i)=own2 at h2 hb2 hbe2 HN2;have HUP:=aA (fun w' (o:Oy [] w3 w')=>YA (hat3.kept o) hv1.u.ok hv1.u.sv hv1.u.g hv1.u.tol hv1.u.kp hv1.u.rd raw (by omega) (by omega));have hbw3:=ho3.got HBW.out hwP;have hc3:=ho3.got HCC.out hbP;have HC3:=aA (ho3.got HC.out hbP);have HB2:=aA hb2;have HBE2:=aA hbe2;have HH2:=aA h2;have HP2:=aA (show (p.pl.set i (some P))[i]? = some (some P) by rw[List.getElem?_set_self hpl]);have HC2:=aA (show (st.cl.set i (some c1))[i]? = some (some c1) by rw[List.getElem?_set_self hcl]);have HHH:=aA hh3;have HBW3:=aA hbw3;have HCC3:=aA hc3;unfold hdC at hh3;obtain⟨w3',hw3'⟩:∃ w3':World,w3'=w3:=⟨_,rfl⟩;subst hw3';have m:Mm w3' [] w3' _:=⟨(((Mem.start w3' []).ext false hh3 (by simp) (by simp)).ext false hbw3 (by simpa using Ne.symm hnb) (by simp)).ext false hc3 (by simpa using ⟨hbb,Ne.symm hne⟩) (by simp)⟩;have k:=m.zK;clear HRC HX HRW HAT HB1 HPI HCII HCOL HBW HC HCC hat3 ho3 hh3 hbw3 hc3 h2 hb2 hbe2;go_wp2_with ((with_reducible first|refine cU ?_|refine wU ?_);clear k m;intro w m k)
  refine (HUP.out w3' m.zO).mono ?_;rintro r w4 ⟨a,uer,c2,rfl,hu,⟨P',hbc,hat4,hP'⟩,ho4⟩;have OU:=m.zO;have hP2:∀ b∈P'.all,b∈P.all\/w3'.heap.size<=b:=fun b hb=>(hP' b hb).imp id fun q=>Nat.le_trans OU.size q;have O4:Oy P.all w3' w4:=(OU.mono (by simp)).trans ho4 fun y hy=>.inl hy;have hv2:=hv1.upd hu;have h3:=HH2.out.cli HP2.out HC2.out hat4 hbc hP2 O4
  have hbP':b ∉ P'.all:=fun hm=>by
   rcases hP2 b hm with q|q
   ·exact hbP q
   ·have:=(HH2.out.lt _ _ HB2.out).2;omega
  have hb3:=(bW (own:=own2) (t:=.C i) hbP').trans HB2.out;have hbe3:=(bW (own:=own2) (t:=.C i) hbP').trans HBE2.out;dsimp only at h3;rw[List.set_set,List.set_set] at h3;have HZ4:=aA (Nat.le_trans HO3.out.size O4.size);have HK4:=aA (JM.only (own:=own) (HO3.out.trans O4 fun y hy=>.inl hy) HCO.out)
  have HN4:=aA (show ∀ x,x<wb.heap.size->own x=none->dJ own2 P'.all (.C i) x=none from fun x hx hn=>(bW fun hm=>by
   rcases hP2 x hm with q|q
   ·exact HCO.out x q hn
   ·have:=HO3.out.size;omega).trans (HN2.out x hx hn))
  generalize dJ own2 P'.all (.C i)=own3 at h3 hb3 hbe3 HN4;have HC4:=aA (O4.got HC3.out hbP);have hh4:=O4.got HHH.out hnP;have hc4:=O4.got HCC3.out hbP;have hbw4:=h3.wa.2;dsimp only at hbw4;obtain⟨vp,vc,hvm,-⟩:=h3.ms.1.dI bO;dsimp only at hvm;rw[hvm] at hbw4;have HN:=aA (fun w' (o:Oy [] w4 w')=>by have:=CB (hat4.kept o) hv2.u.ok.ck raw (by omega) (by omega);rw[hbc] at this;exact this);have HI:=aA (fun w' (o:Oy [] w4 w')=>by have:=FQ (hat4.kept o) hv2.u.ok raw (by omega) (by omega);rw[hbc] at this;exact this);have HCK:=aA (fun w' (o:Oy [] w4 w')=>by have:=Y9 (hat4.kept o);rw[hbc] at this;exact this);have HU:=aA hu;have HB3:=aA hb3;have HBE3:=aA hbe3;have HH3:=aA h3;have HBW4:=aA hbw4;obtain⟨a1,a2⟩:=a;unfold VI;obtain⟨n1,n2,hcn⟩:∃ n1 n2,aZ c2 raw=(n1,n2):=⟨_,_,rfl⟩;obtain⟨v1,v2,ie,hci⟩:∃ v1 v2 ie,nS c2 raw=(⟨v1,v2⟩,ie):=⟨_,_,_,rfl⟩;rw[hcn] at HN;rw[hci] at HI;unfold dV at HI;dsimp only at HN HI;have HCN:=aA hcn;have HCI:=aA hci;unfold hdC at hh4;clear HUP k m HH2 HP2 HC2 HB2 HBE2 HHH HBW3 HCC3 HC3 hu hat4 hP' ho4 OU hP2 O4 h3 hb3 hbe3 hcn hci hv1 hv2 hbP hwP hnP hbP' hpl hcl HH1;obtain⟨wd,rfl⟩:∃ wd:World,wd=w4:=⟨_,rfl⟩;have m:Mm wd [] wd _:=⟨(((Mem.start wd []).ext false hh4 (by simp) (by simp)).ext false hbw4 (by simpa using Ne.symm hnb) (by simp)).ext false hc4 (by simpa using ⟨hbb,Ne.symm hne⟩) (by simp)⟩;have k:=m.zK;clear hh4 hbw4 hc4;by_cases hn:n2=0
  ·subst hn
   go_wp2_with ((with_reducible first|refine cM (HN.out _ gO) ?_|refine cM (HI.out _ gO) ?_|refine cU ?_|refine wU ?_);clear k m;intro w m k)
   refine rA (id:=9) [1,2,3,4,5,6,7,8,9,10,11,12,13,14,15,16,17,18,19,20,21] [0] 22 [23,24,25,26] (by kernel_rfl) (by kernel_rfl) ?_;simp only[bV]
   (repeat (first|(refine aQ (fun K hK=>?_);go_simp;refine hK _ ?_;clear hK K)|(refine cG (by kernel_rfl) ⟨_,_,_,?_,fun w' o=>HCK.out _ (m.zO.aB o),?_⟩;(focus (intro w;go_simp;done)))));refine aS ?_;(repeat (refine aJ (fun K hK=>?_);go_simp;refine hK _ ?_;clear hK K));refine aK ?_
   clear k m;intro w o m k;refine aD rfl ?_;go_wp2;simp only[bA];refine⟨o.alloc _,PL fun w3 b3 o3=>?_⟩;have OB:=aA (m.zO.aB o3);have B3:=aA b3;clear b3 o3 k m o;unfold aV;refine aD rfl ?_;have hE:=(HH3.out.ms.kept OB.out (by simp)).1;dsimp only at hE;rw[hvm] at hE;have HB5:=aA (OB.out.got HBW4.out (by simp));refine bQ (B:=w0.heap.size) rfl _ _ 34 rfl 41 (.agg #[.int .i64 0,.int .i64 0,.int .i64 0,.int .i64 0,.int .i64 0,.int .i64 0,.int .i64 0,.int .i64 0,.int .i64 0]) 9 72 Tryz.underlying34 (by kernel_rfl) rfl (by decide) kC bO II st.mks (.slice vp st.mks.length vc) rfl hE _ ⟨t,i,raw,n1,c2.ck.steps,v1,v2,x.kind,a1⟩ rfl (fun jj u hj=>by rw[aC B3.out,<-hj];simp[kC]) (by simp[maxLen];omega) (by omega) (Nat.le_trans HH3.out.base OB.out.size) ?_;intro v6 w6 hown6 hk6 ho6;rw[<-hvm] at hk6 ho6;obtain⟨vp6,vc6,hv6,-⟩:=hown6.dI bO;rw[show (st.mks ++ [(⟨t,i,raw,n1,c2.ck.steps,v1,v2,x.kind,a1⟩:iD)]).length=st.mks.length+1 by simp] at hv6;subst hv6;have HE6:=aA (fun w8 o8 g8=>mrk_end (w8:=w8) HH3.out OB.out hown6 hk6 ho6 o8 g8 HB3.out HC4.out);have HB6:=aA (ho6.got HB5.out (fun hm=>by have:=HH3.out.ms.2 _ hm;rw[HH3.out.wa.1] at this;cases this))
   have HFIN:=aA (fun w8 o8 g8=>(show pO w0 wb own s p (if (aZ c2 raw).2=0 then { dS st i c2 with mks:=st.mks ++ [⟨t,i,raw,(aZ c2 raw).1,c2.ck.steps,(nS c2 raw).1.lo,(nS c2 raw).1.hi,x.kind,a1⟩] } else dS st i c2) b e0 w8 by
    rw[HCN.out,if_pos rfl,HCI.out,HSET.out];exact (HE6.out w8 o8 g8).trans rfl HBE3.out HK4.out HZ4.out HN4.out))
   clear hE B3 hown6 hk6 ho6 HB5 OB HN HI HCK HC4;go_wp2;intro w7 o7;have HB7:=aA (o7.got HB6.out (by simp));have O7:=aA o7;clear o7;have m:=kV HB7.out;have k:=m.zK;unfold aV;refine aD rfl ?_;go_wp2;simp only[bA];refine tW ?_;clear k m;intro w m k;unfold aV;refine aD rfl ?_;go_wp2;simp only[bA];refine tW ?_;clear k m;intro w m k;unfold aV;refine aD rfl ?_;go_wp2;simp only[bA];refine tW ?_;clear k m;intro w m k;unfold aV;go_wp2_with (first|((with_reducible refine wU ?_);clear k m;intro w m k)|((with_reducible refine lE (fun w o g k K hK=>⟨rfl,?_⟩));simp[results,Tryz.results229,go_sem];refine hK _ ?_;exact⟨_,_,c2,HU.out,rfl,HFIN.out _ ((O7.out.mono (by simp)).trans o fun _ h=>.inl h) g.1⟩))
  ·have der:(n2 != 0)=true:=by simpa using hn
   have HFIN:=aA (fun w' (o:Oy [] wd w')=>(show pO w0 wb own s p (if (aZ c2 raw).2=0 then { dS st i c2 with mks:=st.mks ++ [⟨t,i,raw,(aZ c2 raw).1,c2.ck.steps,(nS c2 raw).1.lo,(nS c2 raw).1.hi,x.kind,a1⟩] } else dS st i c2) b e0 w' by
    rw[HCN.out,if_neg hn,HSET.out];exact⟨⟨own3,{ p with pl:=p.pl.set i (some P') },rfl,HH3.out.kept o,o.got HC4.out (by simp),HBE3.out⟩,HK4.out.trans (JM.only (own:=own3) o (by simp)) HZ4.out HN4.out⟩))
   go_wp2_with (first|((with_reducible first|refine cM (HN.out _ gO) ?_|refine cU ?_|refine wU ?_);clear k m;intro w m k)|((with_reducible refine lE (fun w o g k K hK=>⟨rfl,?_⟩));simp[results,Tryz.results229,go_sem];refine hK _ ?_;exact⟨_,_,c2,HU.out,rfl,HFIN.out _ o⟩))
end Go.Proofs.YtppjhbjmfkiejaaGreat
