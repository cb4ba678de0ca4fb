/- Rs1 Rs2 -/
import Derived.Test.YtedgpfgccpnjnaaGreatFRri
import Derived.Test.YtedgpfgccpnjnaaGreatFRrd
import Derived.Test.YtedgpfgccpnjnaaGreatFRra
import Derived.Test.YtedgpfgccpnjnaaGreatFRr7
import Derived.Test.YtedgpfgccpnjnaaGreatFRr4
import Derived.Test.YtedgpfgccpnjnaaGreatFRr1
import Derived.Test.YtedgpfgccpnjnaaGreatFRq2
import Derived.Test.YtedgpfgccpnjnaaGreatFJm
import Derived.Test.YtedgpfgccpnjnaaGreatFR7
namespace Go.Proofs.YtedgpfgccpnjnaaGreat
section
open Go.Lib (hid)
set_option maxRecDepth 100000
set_option maxHeartbeats 4000000
open Go.RowKit Go.Sort
def QSrB (w:World) (b a f:Nat) (s:Sr):Prop:=w.heap[b]? = some (.cells #[.pointer (some ⟨a,0,none⟩),.pointer (some ⟨f,0,none⟩),.int .i64 s.rc.bits,.int .i64 s.rc.poll,.int .i64 s.rc.mn,.int .i64 s.rc.mx,.int .i64 s.rc.cnt,.int .i64 s.sent,.bool s.hr,.int .i64 s.hdr.leap,.int .i64 s.hdr.ver,.int .i64 s.hdr.mode,.int .i64 s.hdr.strat,.int .i64 s.hdr.poll,.int .i64 s.hdr.prec,.int .u32 s.hdr.rdel,.int .u32 s.hdr.rdsp,.int .u32 s.hdr.rid,.int .u64 s.hdr.ref,.int .u64 s.hdr.org,.int .u64 s.hdr.rcv,.int .u64 s.hdr.xmt,.int .i64 s.rt.str,.int .i64 s.rt.dly,.int .i64 s.rt.dsp,.int .u32 s.rt.ref,.bool s.hp,.int .i64 s.prf.lo,.int .i64 s.prf.hi,.int .i64 s.pat] 93 (0,0))
structure QSrAt (M:List Nat) (w:World) (p:Nat × Nat × Nat) (s:Sr):Prop where
 b:QSrB w p.1 p.2.1 p.2.2 s
 a:QAsAt w p.2.1 s.sa
 f:QFlAt M w p.2.2 s.fl
def QClB (w:World) (P:Pl) (c:Cl):Prop:=w.heap[P.bc]? = some (.cells #[.int .i64 c.cf.servers,.int .i64 c.cf.tol,.int .i64 c.cf.prec,.int .i64 c.cf.keep,.int .i64 c.cf.sv.kp,.int .i64 c.cf.sv.ki,.int .i64 c.cf.sv.lim,.int .i64 c.cf.sv.sf,.int .i64 c.cf.sv.sl,.int .i64 c.cf.rate,.int .i64 c.cf.mn,.int .i64 c.cf.mx,.slice (some ⟨P.g,0,none⟩) P.ps.length P.cap,.pointer (some ⟨P.bk,0,none⟩),.pointer (some ⟨P.bv,0,none⟩),.int .i64 c.own.lo,.int .i64 c.own.hi,.int .i64 c.owned,.int .i64 c.last,.bool c.st,.int .i64 c.rd,.int .i64 c.rt.str,.int .i64 c.rt.dly,.int .i64 c.rt.dsp,.int .u32 c.rt.ref] 86 (0,0))
structure QClAt (M:List Nat) (w:World) (P:Pl) (c:Cl):Prop where
 cl:QClB w P c
 ck:QCkAt w P.bk c.ck
 sv:QSvAt w P.bv c.sv
 row:RowAt ptrC 87 1 w P.g P.cap (P.ps.map (·.1))
 len:P.ps.length=c.srcs.length
 src:∀ i (h:i<P.ps.length) (h':i<c.srcs.length),QSrAt M w P.ps[i] c.srcs[i]
 nd:P.all.Nodup
 lt:∀ b∈P.all,b<w.heap.size
 sub:∀ b∈P.all,b∈M
 ml:∀ x∈M,x<w.heap.size
theorem QSrAt.kept {M S:List Nat} {w w':World} {p:Nat × Nat × Nat} {s:Sr} (h:QSrAt M w p s) (ho:Only S w w') (h1:p.1 ∉ S) (h2:p.2.1 ∉ S) (h3:p.2.2 ∉ S) (hS:∀ x∈S,x∈M∨w.heap.size≤x):QSrAt M w' p s:=
 ⟨ho.got h.b h1,h.a.kept ho h2,h.f.kept ho h3 hS⟩
theorem QClAt.off {M T:List Nat} {w w':World} {P:Pl} {c:Cl} (h:QClAt M w P c) (ho:Only T w w') (hT:∀ b∈P.all,b ∉ T) (hM:∀ x∈T,x∈M∨w.heap.size≤x):QClAt M w' P c:=by
 have hp:∀ i (hi:i<P.ps.length),P.ps[i].1 ∉ T∧P.ps[i].2.1 ∉ T∧P.ps[i].2.2 ∉ T:=fun i hi=>by
  have hm:∀ x∈[P.ps[i].1,P.ps[i].2.1,P.ps[i].2.2],x ∉ T:=fun x hx=>hT x (by unfold Pl.all;simp only[List.mem_cons];exact .inr (.inr (.inr (.inr (List.mem_flatMap.2 ⟨_,List.getElem_mem hi,hx⟩)))));exact⟨hm _ (by simp),hm _ (by simp),hm _ (by simp)⟩
 exact⟨ho.got h.cl (hT _ (by simp[Pl.all])),ho.got h.ck (hT _ (by simp[Pl.all])),ho.got h.sv (hT _ (by simp[Pl.all])),h.row.kept ho (hT _ (by simp[Pl.all])),h.len,fun i h1 h2=>(h.src i h1 h2).kept ho (hp i h1).1 (hp i h1).2.1 (hp i h1).2.2 hM,h.nd,fun b hb=>Nat.lt_of_lt_of_le (h.lt b hb) ho.size,h.sub,fun b hb=>Nat.lt_of_lt_of_le (h.ml b hb) ho.size⟩
theorem QClAt.kept {M:List Nat} {w w':World} {P:Pl} {c:Cl} (h:QClAt M w P c) (ho:Only [] w w'):QClAt M w' P c:=h.off ho (by simp) (by simp)
theorem QClAt.putB {M:List Nat} {w w':World} {P:Pl} {c c':Cl} (h:QClAt M w P c) (ho:Only [P.bc] w w') (hb:QClB w' P c') (h1:c'.ck=c.ck) (h2:c'.sv=c.sv) (h3:c'.srcs=c.srcs):QClAt M w' P c':=by
 have hnd:=h.nd;unfold Pl.all at hnd;simp only[List.nodup_cons,List.mem_cons,not_or] at hnd;obtain⟨⟨n1,n2,n3,n4⟩,_⟩:=hnd
 have key:∀ i (hi:i<P.ps.length),∀ x∈[P.ps[i].1,P.ps[i].2.1,P.ps[i].2.2],x ∉ [P.bc]:=fun i hi x hx hm=>by
  simp only[List.mem_cons,List.not_mem_nil,or_false] at hm;exact n4 (hm ▸ List.mem_flatMap.2 ⟨P.ps[i],List.getElem_mem hi,hx⟩)
 have hm:∀ x∈[P.bc],x∈M∨w.heap.size≤x:=fun x hx=>.inl (h.sub x (by rw[List.mem_singleton.1 hx];simp[Pl.all]));refine⟨hb,?_,?_,h.row.kept ho (by simpa using Ne.symm n3),h3 ▸ h.len,?_,h.nd,fun b hb=>Nat.lt_of_lt_of_le (h.lt b hb) ho.size,h.sub,fun b hb=>Nat.lt_of_lt_of_le (h.ml b hb) ho.size⟩
 ·rw[h1];exact ho.got h.ck (by simpa using Ne.symm n1)
 ·rw[h2];exact ho.got h.sv (by simpa using Ne.symm n2)
 ·rw[h3]
  exact fun i hi hi'=>(h.src i hi hi').kept ho (key i hi _ (by simp)) (key i hi _ (by simp)) (key i hi _ (by simp)) hm
theorem QClAt.putS {M:List Nat} {w w':World} {P:Pl} {c:Cl} {S:List Nat} {s':Sr} (h:QClAt M w P c) (i:Nat) (hi:i<P.ps.length) (ho:Only S w w') (hS:∀ x∈S,x∈[P.ps[i].1,P.ps[i].2.1,P.ps[i].2.2]) (hs:QSrAt M w' P.ps[i] s'):QClAt M w' P { c with srcs:=c.srcs.set i s' }:=by
 have hnd:=h.nd;have hsub:=h.sub;unfold Pl.all at hnd hsub;simp only[List.nodup_cons,List.mem_cons,not_or] at hnd;obtain⟨⟨n1,n2,n3,n4⟩,⟨n5,n6,n7⟩,⟨n8,n9⟩,n10,n11⟩:=hnd;have key:∀ b,b ∉ (P.ps.flatMap fun p=>[p.1,p.2.1,p.2.2])→b ∉ S:=fun b hb hm=>hb (List.mem_flatMap.2 ⟨P.ps[i],List.getElem_mem hi,hS b hm⟩);have hm:∀ x∈S,x∈M∨w.heap.size≤x:=fun x hx=>.inl (hsub x (by simp only[List.mem_cons];exact .inr (.inr (.inr (.inr (List.mem_flatMap.2 ⟨P.ps[i],List.getElem_mem hi,hS x hx⟩))))));refine⟨ho.got h.cl (key _ n4),ho.got h.ck (key _ n7),ho.got h.sv (key _ n9),h.row.kept ho (key _ n10),by simpa using h.len,?_,h.nd,fun b hb=>Nat.lt_of_lt_of_le (h.lt b hb) ho.size,h.sub,fun b hb=>Nat.lt_of_lt_of_le (h.ml b hb) ho.size⟩;intro j hj hj';by_cases e:i=j
 ·subst e
  simpa using hs
 ·have hjc:j<c.srcs.length:=h.len ▸ hj
  have ap:∀ x∈[P.ps[j].1,P.ps[j].2.1,P.ps[j].2.2],x ∉ S:=fun x hx hm=>flat_apart (f:=fun p:Nat × Nat × Nat=>[p.1,p.2.1,p.2.2]) hj hi n11 (Ne.symm e) x hx (hS x hm);have:=(h.src j hj hjc).kept ho (ap _ (by simp)) (ap _ (by simp)) (ap _ (by simp)) hm;simpa [List.getElem_set_ne e] using this
theorem qClNow {M:List Nat} {w:World} {P:Pl} {c:Cl} (h:QClAt M w P c) (hok:CkOk c.ck) (raw:Int)  :
  Calls Tryz.prog 35 #[.pointer (some ⟨P.bc,0,none⟩),.int .i64 raw] w fun e w'=>e=.returned (.tuple #[.int .i64 (clNow c raw).1,.int .i64 (clNow c raw).2])∧Only [] w w':=by
 have HN:=hid (fun w' (ho:Only [] w w')=>qCNow (ho.got h.ck (by simp)) hok raw);have hl:=h.cl;unfold QClB at hl;obtain⟨res,HE⟩:∃ zz,Hid (clNow c raw=zz):=⟨_,hid rfl⟩;rw[HE.out];unfold clNow at HE
 have hz:(cNow c.ck raw).2≠0→(cNow c.ck raw).1=0:=fun hne=>by
  unfold cNow at hne ⊢;split
  ·rfl
  ·split
   ·rfl
   ·split
    ·rename_i h1 h2 h3;rw[if_neg h1,if_neg h2,if_pos h3] at hne;exact absurd rfl hne
    ·rfl
 generalize cNow c.ck raw=nn at HE HN hz;obtain⟨nv,ne⟩:=nn;dsimp only at HE HN hz;by_cases hne:ne=0
 focus
  subst hne;rw[if_pos rfl] at HE;by_cases hlt:raw<c.last
  focus
   have dhlt:decide (raw<c.last)=true:=decide_eq_true hlt;rw[if_pos hlt] at HE
  rotate_left 1
  focus
   have dhlt:decide (raw<c.last)=false:=decide_eq_false hlt;rw[if_neg hlt] at HE
 rotate_left 2
 focus
  rw[if_neg hne] at HE;have q1:(ne == 0)=false:=by simpa using hne
  obtain rfl:=hz hne
 all_goals
  obtain rfl:=HE.out;clear HE hz;have m:=mmR hl;have k:=m.out.k;clear hl;go_enter Tryz.func35,Tryz.ntmps35
  go_wp2_with (first|((with_reducible first|refine cM (HN.out _ m.out.only) ?_|refine wU ?_);clear k m;intro w m k)|((with_reducible refine lE (fun w o g k K hK=>⟨rfl,?_⟩));simp[results,Tryz.results35,go_sem];refine hK _ ?_;exact⟨rfl,o⟩))
theorem qClEnter {M:List Nat} {w:World} {P:Pl} {c:Cl} (h:QClAt M w P c) (hok:CkOk c.ck) (raw:Int) :
  Calls Tryz.prog 57 #[.pointer (some ⟨P.bc,0,none⟩),.int .i64 raw] w fun e w'=>e=.returned (.tuple #[.int .i64 (clEnter c raw).1,.int .i64 (clEnter c raw).2.1])∧QClB w' P (clEnter c raw).2.2∧Only [P.bc] w w':=by
 have HN:=hid (qClNow h hok raw);have hl:=h.cl;unfold QClB at hl ⊢;obtain⟨res,HE⟩:∃ zz,Hid (clEnter c raw=zz):=⟨_,hid rfl⟩;rw[HE.out];unfold clEnter at HE;generalize clNow c raw=nn at HE HN;obtain⟨nv,ne⟩:=nn;dsimp only at HE HN;by_cases hne:ne=0
 focus
  subst hne;rw[if_pos rfl] at HE
 rotate_left 1
 focus
  rw[if_neg hne] at HE;have q1:(ne == 0)=false:=by simpa using hne
 all_goals
  obtain rfl:=HE.out;clear HE;have m:=mm1 hl;have k:=m.out.k;clear hl;go_enter Tryz.func57,Tryz.ntmps57
  go_wp2_with (first|((with_reducible first|refine cM (HN.out) ?_|refine wU ?_);clear k m;intro w m k)|((with_reducible refine lE (fun w o g k K hK=>⟨rfl,?_⟩));simp[results,Tryz.results57,go_sem];refine hK _ ?_;exact⟨rfl,Has.h w g,o⟩))
theorem qClRoot {M:List Nat} {w:World} {P:Pl} {c:Cl} (h:QClAt M w P c)  :
  Calls Tryz.prog 41 #[.pointer (some ⟨P.bc,0,none⟩)] w fun e w'=>e=.returned (.agg #[.int .i64 c.rt.str,.int .i64 c.rt.dly,.int .i64 c.rt.dsp,.int .u32 c.rt.ref])∧Only [] w w':=by
 have hl:=h.cl;unfold QClB at hl;have m:=mmR hl;have k:=m.out.k;clear hl;go_enter Tryz.func41,Tryz.ntmps41
 go_wp2_with (first|((with_reducible refine wU ?_);clear k m;intro w m k)|((with_reducible refine lE (fun w o g k K hK=>⟨rfl,?_⟩));simp[results,Tryz.results41,go_sem,k];refine hK _ ?_;exact⟨rfl,o⟩))
theorem qClClock {M:List Nat} {w:World} {P:Pl} {c:Cl} (h:QClAt M w P c)  :
  Calls Tryz.prog 43 #[.pointer (some ⟨P.bc,0,none⟩)] w fun e w'=>e=.returned (.agg #[.int .i64 c.ck.raw,.int .i64 c.ck.time,.int .i64 c.ck.ppb,.int .i64 0,.int .i64 0,.int .i64 c.ck.steps])∧Only [] w w':=by
 have HN:=hid (fun w' (ho:Only [] w w')=>qClkState (ho.got h.ck (by simp)));have hl:=h.cl;unfold QClB at hl;have m:=mmR hl;have k:=m.out.k;clear hl;go_enter Tryz.func43,Tryz.ntmps43
 go_wp2_with (first|((with_reducible first|refine cU ?_|refine cM (HN.out _ m.out.only) ?_|refine wU ?_);clear k m;intro w m k)|((with_reducible refine lE (fun w o g k K hK=>⟨rfl,?_⟩));simp[results,Tryz.results43,go_sem,k];refine hK _ ?_;exact⟨rfl,o⟩))
theorem qAged {w:World} {P:Pl} {c:Cl} (hl:QClB w P c) (x:Iv) (a b:Int) (hab: -9223372036854775808≤b-a∧b-a≤9223372036854775807)  :
  Calls Tryz.prog 108 #[.pointer (some ⟨P.bc,0,none⟩),ivV x,.int .i64 a,.int .i64 b] w fun e w'=>e=.returned (ivV (agedC x a b c.cf.tol))∧Only [] w w':=by
 have HA:=hid (fun w'=>qAge x (b-a) c.cf.tol w');have HEV:=hid (fun w'=>qEvery w');have HCL:=hid (fun w'=>qClip (ageI x (b-a) c.cf.tol).1 w');have r1:IntKind.i64.wrap (b-a)=b-a:=by rw[IntKind.wrap_i64];omega
 obtain⟨res,HE⟩:∃ zz,Hid (agedC x a b c.cf.tol=zz):=⟨_,hid rfl⟩;rw[HE.out];unfold agedC at HE;unfold QClB at hl;generalize ageI x (b-a) c.cf.tol=y at HA HCL HE;obtain⟨⟨yl,yh⟩,er⟩:=y;obtain⟨xl,xh⟩:=x;dsimp only at HA HCL HE;generalize clipI ⟨yl,yh⟩=z at HCL HE;obtain⟨zl,zh⟩:=z;generalize evI=ev at HEV HE;obtain⟨el,eh⟩:=ev;simp only[ivV] at HA HCL HEV ⊢;clear hab;by_cases hne:er=0
 focus
  subst hne;rw[if_pos rfl] at HE
 rotate_left 1
 focus
  rw[if_neg hne] at HE;have q1:(er != 0)=true:=by simpa using hne
 all_goals
  obtain rfl:=HE.out;clear HE;have m:=mmR hl;have k:=m.out.k;clear hl;go_enter Tryz.func108,Tryz.ntmps108
  go_wp2_with (first|((with_reducible first|refine cM (HA.out _) ?_|refine cM (HEV.out _) ?_|refine cM (HCL.out _) ?_|refine wU ?_);clear k m;intro w m k)|((with_reducible refine rA (id:=1) [0,1,2,3,4,5,6,7,8,9,10,11] [12] 13 [14,15] (by kernel_rfl) (by kernel_rfl) ?_);simp only[pick,List.map_cons,List.map_nil,List.getD_cons_succ,List.getD_cons_zero];(repeat (first|(refine wpCalmG_step (fun K hK=>?_);go_simp;refine hK _ ?_;clear hK K)|(refine cG (by kernel_rfl) ⟨_,_,_,?_,fun w' o=>HA.out _,?_⟩;(focus (intro w;go_simp;done)))));refine wpCalmG_nil ?_;(repeat (refine wpCalm_step (fun K hK=>?_);go_simp;refine hK _ ?_;clear hK K));refine wpCalm_nil ?_;clear k m;intro w o m k;refine wpOp_one rfl ?_;go_wp2;simp only[nrm];refine⟨o.alloc _,tW ?_⟩;clear o;clear k m;intro w m k;unfold wpTail;refine wpOp_one rfl ?_;go_wp2;simp only[nrm];refine tW ?_;clear k m;intro w m k;unfold wpTail;refine wpOp_one rfl ?_;go_wp2;simp only[nrm];refine tW ?_;clear k m;intro w m k;unfold wpTail)|((with_reducible refine lE (fun w o g k K hK=>⟨rfl,?_⟩));simp[results,Tryz.results108,go_sem,k];refine hK _ ?_;exact⟨rfl,o⟩))
end
section
open Go.Lib (hid)
set_option maxRecDepth 100000
set_option maxHeartbeats 16000000
open Go.RowKit Go.Sort
theorem QClAt.put {M S:List Nat} {w w':World} {P:Pl} {c c':Cl} {s':Sr} (h:QClAt M w P c) (i:Nat) (hi:i<P.ps.length) (ho:Only S w w') (hS:∀ x∈S,x=P.bc∨x∈[P.ps[i].1,P.ps[i].2.1,P.ps[i].2.2]) (hb:QClB w' P c') (h1:c'.ck=c.ck) (h2:c'.sv=c.sv) (h3:c'.srcs=c.srcs.set i s') (hs:QSrAt M w' P.ps[i] s'):QClAt M w' P c':=by
 have hnd:=h.nd;have hsub:=h.sub;unfold Pl.all at hnd hsub;simp only[List.nodup_cons,List.mem_cons,not_or] at hnd;obtain⟨⟨n1,n2,n3,n4⟩,⟨n5,n6,n7⟩,⟨n8,n9⟩,n10,n11⟩:=hnd;have key:∀ b,b≠P.bc→b ∉ (P.ps.flatMap fun p=>[p.1,p.2.1,p.2.2])→b ∉ S:=fun b hbc hb hm=>(hS b hm).elim hbc (fun hx=>hb (List.mem_flatMap.2 ⟨P.ps[i],List.getElem_mem hi,hx⟩));have hm:∀ x∈S,x∈M∨w.heap.size≤x:=fun x hx=>.inl ((hS x hx).elim (fun e=>hsub x (by rw[e];simp)) (fun hx=>hsub x (by simp only[List.mem_cons];exact .inr (.inr (.inr (.inr (List.mem_flatMap.2 ⟨P.ps[i],List.getElem_mem hi,hx⟩)))))));refine⟨hb,?_,?_,h.row.kept ho (key _ (Ne.symm n3) n10),by rw[h3,List.length_set];exact h.len,?_,h.nd,fun b hb=>Nat.lt_of_lt_of_le (h.lt b hb) ho.size,h.sub,fun b hb=>Nat.lt_of_lt_of_le (h.ml b hb) ho.size⟩
 ·rw[h1];exact ho.got h.ck (key _ (Ne.symm n1) n7)
 ·rw[h2];exact ho.got h.sv (key _ (Ne.symm n2) n9)
 ·simp only[h3]
  intro j hj hj';by_cases e:i=j
  ·subst e
   simpa using hs
  ·have hjc:j<c.srcs.length:=h.len ▸ hj
   have ap:∀ x∈[P.ps[j].1,P.ps[j].2.1,P.ps[j].2.2],x ∉ S:=fun x hx hm=>(hS x hm).elim (fun e2=>n4 (by rw[←e2];exact List.mem_flatMap.2 ⟨P.ps[j],List.getElem_mem hj,hx⟩)) (fun h9=>flat_apart (f:=fun p:Nat × Nat × Nat=>[p.1,p.2.1,p.2.2]) hj hi n11 (Ne.symm e) x hx h9);have:=(h.src j hj hjc).kept ho (ap _ (by simp)) (ap _ (by simp)) (ap _ (by simp)) hm;simpa [List.getElem_set_ne e] using this
theorem pl_at {P:Pl} (hnd:P.all.Nodup) {i:Nat} (hi:i<P.ps.length) {pb pa pf:Nat} (hp:P.ps[i]=(pb,pa,pf)):(P.bc≠pb∧P.bc≠pa∧P.bc≠pf∧P.g≠P.bc∧P.g≠pb∧P.g≠pa)∧pb≠pa∧pb≠pf∧pa≠pf:=by
 unfold Pl.all at hnd;simp only[List.nodup_cons,List.mem_cons,not_or] at hnd;obtain⟨⟨n1,n2,n3,n4⟩,⟨n5,n6,n7⟩,⟨n8,n9⟩,n10,n11⟩:=hnd;have key:∀ x∈[pb,pa,pf],x∈P.ps.flatMap fun p=>[p.1,p.2.1,p.2.2]:=fun x hx=>List.mem_flatMap.2 ⟨P.ps[i],List.getElem_mem hi,by rw[hp];exact hx⟩;have h3:=nodup_of_flat n11 (List.getElem_mem hi);rw[hp] at h3;simp only[List.nodup_cons,List.mem_cons,not_or,List.not_mem_nil,or_false,not_false_eq_true,List.nodup_nil,and_true] at h3;exact⟨⟨fun e=>n4 (e ▸ key pb (by simp)),fun e=>n4 (e ▸ key pa (by simp)),fun e=>n4 (e ▸ key pf (by simp)),Ne.symm n3,fun e=>n10 (e ▸ key pb (by simp)),fun e=>n10 (e ▸ key pa (by simp))⟩,h3.1.1,h3.1.2,h3.2⟩
theorem QClAt.ptr {M:List Nat} {w:World} {P:Pl} {c:Cl} (h:QClAt M w P c) {i:Nat} (hi:i<P.ps.length):P.g<w.heap.size∧w.cell? ⟨P.g,i,none⟩=some (.pointer (some ⟨P.ps[i].1,0,none⟩)):=by
 have hv:=h.row.vrow (n:=P.ps.length) ptrC_len (by simp);obtain⟨b,off,hp,hb,hc⟩:=hv.cell i P.ps[i].1 (by simp[hi]);simp only[Option.some.injEq,Addr.mk.injEq,and_true] at hp;obtain⟨rfl,rfl⟩:=hp;exact⟨hb,by simpa using hc 0 _ rfl⟩
set_option synthInstance.maxSize 2000 in
set_option synthInstance.maxHeartbeats 400000 in
theorem qClSend {M:List Nat} {w:World} {P:Pl} {c:Cl} (h:QClAt M w P c) (hok:CkOk c.ck) (raw nonce:Int) (i:Nat) (hi:i<P.ps.length) (hic:i<c.srcs.length) (he:(clEnter c raw).2.1=0) :
  Calls Tryz.prog 30 #[.pointer (some ⟨P.bc,0,none⟩),.int .i64 i,.int .i64 raw,.int .u64 nonce] w fun e w'=>e=.returned (.tuple #[npV (sSend c.srcs[i] raw (clEnter c raw).1 nonce).1,.int .i64 (sSend c.srcs[i] raw (clEnter c raw).1 nonce).2.1])∧QClAt M w' P { (clEnter c raw).2.2 with srcs:=c.srcs.set i (sSend c.srcs[i] raw (clEnter c raw).1 nonce).2.2 }∧Only [P.bc,P.ps[i].1,P.ps[i].2.1] w w':=by
 obtain⟨pb,pa,pf,hp⟩:∃ pb pa pf,P.ps[i]=(pb,pa,pf):=⟨_,_,_,rfl⟩;obtain⟨⟨d1,d2,d3,d4,d5,d6⟩,d7,d8,d9⟩:=pl_at h.nd hi hp;have HLT:=hid h.lt;have hps:∀ x∈[pb,pa,pf],x∈P.all:=fun x hx=>by unfold Pl.all;simp only[List.mem_cons];exact .inr (.inr (.inr (.inr (List.mem_flatMap.2 ⟨P.ps[i],List.getElem_mem hi,by rw[hp];exact hx⟩))))
 have lbc:=HLT.out P.bc (by simp[Pl.all]);have lpb:=HLT.out pb (hps _ (by simp));have lpa:=HLT.out pa (hps _ (by simp));have HC:=hid h;have HEN:=hid (fun w' (o:Only [] w w')=>qClEnter (h.kept o) hok raw);have HSM:=hid (clEnter_same c raw);obtain⟨ce,hce⟩:∃ x,clEnter c raw=x:=⟨_,rfl⟩;rw[hce] at HEN HSM he ⊢;obtain⟨now,er,c1⟩:=ce;obtain rfl:er=0:=he;dsimp only at HEN HSM ⊢;obtain⟨s,hs⟩:∃ s,c.srcs[i]=s:=⟨_,rfl⟩;rw[hs,hp];obtain⟨R,HR⟩:∃ R:Np × Int × Sr,Hid (sSend s raw now nonce=R):=⟨_,hid rfl⟩;rw[HR.out];unfold sSend at HR;have HS:=hid hs;have HP:=hid hp;have HF0:=hid (show QFlAt M w pf s.fl by have:=(h.src i hi hic).f;rwa [hp,hs] at this)
 have HSUB:=hid (show ∀ x∈[P.bc,pb,pa],x∈M from fun x hx=>h.sub x (by
  rcases List.mem_cons.1 hx with e|hx
  ·rw[e];simp[Pl.all]
  ·exact hps x (by rcases List.mem_cons.1 hx with e|hx<;>simp_all)))
 have HPUT:=hid (fun w' s' (o:Only [P.bc,pb,pa] w w') (hb:QClB w' P c1) (h9:QSrAt M w' (pb,pa,pf) s')=>h.put (c':={ c1 with srcs:=c.srcs.set i s' }) i hi o (by rw[hp];simp) hb HSM.out.1 HSM.out.2.1 rfl (by rw[hp];exact h9));have hl:=h.cl;unfold QClB at hl;have hii:(i:Int)<(P.ps.length:Int):=by omega
 have hn0:¬ (i:Int)<0:=by omega
 clear hp hs hce;obtain⟨wo,hwo⟩:∃ wo:World,wo=w:=⟨_,rfl⟩;subst hwo;have m:=mmR hl;have k:=m.out.k;clear hl;go_enter Tryz.func30,Tryz.ntmps30
 go_wp2_with ((with_reducible first|refine cU ?_|refine wU ?_);clear k m;intro w m k)
 refine (HEN.out _ m.out.only).mono ?_;rintro e w2 ⟨rfl,hcb,ho2⟩;have hbl:=HLT.out;have hb2:w2.heap[wo.heap.size]? = some (.cells #[.int .i64 0,.int .i64 0,.int .i64 0,.int .i64 0,.int .i64 0,.int .i64 0,.int .u32 0,.int .u32 0,.int .u32 0,.int .u64 0,.int .u64 0,.int .u64 0,.int .u64 0] 41 (0,0)):=ho2.got (gB (w:=w)) (by simp;omega);have HC2:=hid ((HC.out.kept m.out.only).putB ho2 hcb HSM.out.1 HSM.out.2.1 HSM.out.2.2);have O2:=hid ((m.out.only.weak (S':=[P.bc]) (by simp)).trans ho2 (by simp));clear k m HEN hcb ho2 hbl;obtain⟨wq,hwq⟩:∃ wq:World,wq=w2:=⟨_,rfl⟩;subst hwq;have hsr:=HC2.out.src i hi (by rw[HSM.out.2.2];exact hic);have hs2:c1.srcs[i]'(by rw[HSM.out.2.2];exact hic)=s:=by simp only[HSM.out.2.2];exact HS.out
 rw[HP.out,hs2] at hsr;have HSR:=hid hsr;have hcl:=HC2.out.cl;have hsb:=hsr.b;unfold QClB at hcl;unfold QSrB at hsb;have hpt:=HC2.out.ptr hi;rw[HP.out] at hpt;have HX:=hid (fun w' (o:Only [] wq w')=>And.intro (Nat.lt_of_lt_of_le hpt.1 o.size) ((o.cell hpt.1 (by simp)).trans hpt.2));have HB2:=hid hb2;have HSB:=hid hsb;have HA:=hid (fun w' (o:Only [] wq w')=>qASend (hsr.a.kept o (by simp)) now nonce);have HSH:=hid (fun w'=>qShift s.rc w');generalize aSend s.sa now nonce=asd at HA HR;obtain⟨⟨p1,p2,p3,p4,p5,p6,p7,p8,p9,p10,p11,p12,p13⟩,ae,as2⟩:=asd;generalize rshift s.rc=rc2 at HSH HR;obtain⟨r1,r2,r3,r4,r5⟩:=rc2;simp only[npV,rcV] at HA HSH;dsimp only at HR;have m:Mm wq [] wq _:=⟨((Mem.start wq []).ext false hcl (by simp) (by simp)).ext false hsb (by simp;omega) (by simp)⟩;have k:=m.out.k;have c:=HX.out wq (Only.refl _ _);clear hcl hsb hsr hs2 hb2;go_wp2_with ((with_reducible first|refine cU ?_|refine wU ?_);clear k m c;intro w m k;have c:=HX.out w m.out.only)
 refine (HA.out _ m.out.only).mono ?_;rintro e w3 ⟨rfl,hA3,ho3⟩;have hb3:=ho3.got HB2.out (by simp;omega);have hsb3:=ho3.got HSB.out (by simp;omega);have HCL3:=hid (show QClB w3 P c1 from ho3.got HC2.out.cl (by simp;omega));have O3:=hid ((O2.out.weak (S':=[P.bc,pb,pa]) (by simp)).trans ho3 (by simp));clear k m c ho3 HA;obtain⟨wp,hwp⟩:∃ wp:World,wp=w3:=⟨_,rfl⟩;subst hwp
 have HFIN:=hid (fun w' s' (o:Only [wo.heap.size,pb] wp w') (hb:QSrB w' pb pa pf s') (e1:s'.sa=as2) (e2:s'.fl=s.fl)=>show QClAt M w' P { c1 with srcs:=c.srcs.set i s' }∧Only [P.bc,pb,pa] wo w' from by
  have OA:=O3.out.trans o (fun x hx=>by
   rcases List.mem_cons.1 hx with e|hx
   ·exact .inr (by omega)
   ·exact .inl (by rw[List.mem_singleton.1 hx];simp))
  exact⟨HPUT.out w' s' OA (o.got HCL3.out (by simp;omega)) ⟨hb,by rw[e1];exact hA3.kept o (by simp;omega),by rw[e2];exact HF0.out.kept OA (by simp;omega) (fun x hx=>.inl (HSUB.out x hx))⟩,OA⟩)
 have m:Mm wp [wo.heap.size,pb] wp _:=⟨((Mem.start wp [wo.heap.size,pb]).ext true hb3 (by simp) (by simp)).ext true hsb3 (by simp;omega) (by simp)⟩;have k:=m.out.k;clear hb3 hsb3;by_cases hne:ae=0
 focus
  subst hne;rw[if_pos rfl] at HR
 rotate_left 1
 focus
  rw[if_neg hne] at HR;have q1:(ae != 0)=true:=by simpa using hne
 all_goals
  obtain rfl:=HR.out;clear HR;go_wp2_with (first|((with_reducible first|refine cM (HSH.out _) ?_|refine wU ?_);clear k m;intro w m k)|((with_reducible refine lE (fun w o g k K hK=>⟨rfl,?_⟩));simp[results,Tryz.results30,go_sem,k];refine hK _ ?_;exact⟨rfl,HFIN.out w _ o (Has.h w g) rfl rfl⟩))
end
end Go.Proofs.YtedgpfgccpnjnaaGreat
