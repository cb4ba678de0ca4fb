/- Rt1 Rt2 -/
import Derived.Test.YtedgpfgccpnjnaaGreatFMx
import Derived.Test.YtedgpfgccpnjnaaGreatFJm
import Derived.Test.YtedgpfgccpnjnaaGreatFRp1
import Derived.Test.YtedgpfgccpnjnaaGreatFRs1
import Derived.Test.YtedgpfgccpnjnaaGreatFRt0
import Derived.Test.YtedgpfgccpnjnaaGreatFJh
namespace Go.Proofs.YtedgpfgccpnjnaaGreat
section
open Go.RowKit Go.Sort
def FlG (tol:Int) (s:Sr):Prop:=s.fl.tol=tol∧Ris s.fl.l∧s.fl.l.length≤8
theorem FlG.same {tol:Int} {s s':Sr} (h:FlG tol s) (e:s'.fl=s.fl):FlG tol s':=by unfold FlG;rw[e];exact h
theorem ris_last {l:List Smp} (h:Ris l) {x:Smp} (hx:l.getLast? = some x):∀ y∈l,y.tat≤x.tat:=by
 intro y hy;obtain⟨i,hi,rfl⟩:=List.getElem_of_mem hy;have hl:l.getLast? = some (l[l.length-1]'(by omega)):=by rw[List.getLast?_eq_getElem?,List.getElem?_eq_getElem]
 rw[hl] at hx;obtain rfl:=Option.some.inj hx;rcases Nat.lt_or_ge i (l.length-1) with h1|h1
 ·have:=List.pairwise_iff_getElem.1 h i (l.length-1) hi (by omega) h1
  omega
 ·have:i=l.length-1:=by omega
  subst this;exact Int.le_refl _
theorem fAdd_fl {tol:Int} {f:Fl} {x:Smp} (h1:f.tol=tol) (h2:Ris f.l) (h3:f.l.length≤8):(fAdd f x).1.tol=tol∧Ris (fAdd f x).1.l∧(fAdd f x).1.l.length≤8:=by
 have push:(∀ y∈f.l,y.tat<x.tat)→(fPush f x).tol=tol∧Ris (fPush f x).l∧(fPush f x).l.length≤8:=fun hy=>by
  unfold fPush;dsimp only;refine⟨h1,?_,?_⟩
  ·unfold Ris at h2 ⊢
   split
   ·refine List.pairwise_append.2 ⟨h2.sublist (List.drop_sublist _ _),List.pairwise_singleton _ _,fun a ha b hb=>?_⟩
    rw[List.mem_singleton.1 hb];exact hy a (List.mem_of_mem_drop ha)
   ·refine List.pairwise_append.2 ⟨h2,List.pairwise_singleton _ _,fun a ha b hb=>?_⟩
    rw[List.mem_singleton.1 hb];exact hy a ha
  ·split
   ·rename_i h8
    rw[List.length_append,List.length_drop,h8];simp
   ·rename_i h8
    rw[List.length_append];simp;omega
 unfold fAdd;split
 ·split
  ·rename_i y hy
   split
   ·exact⟨h1,h2,h3⟩
   ·exact push fun z hz=>by have:=ris_last h2 hy z hz;omega
  ·rename_i hn
   refine push fun z hz=>?_;rw[List.getLast?_eq_none_iff] at hn;rw[hn] at hz
   cases hz
 ·exact⟨h1,h2,h3⟩
theorem sSend_fl {tol:Int} {s:Sr} {raw now nonce:Int} (h:FlG tol s):FlG tol (sSend s raw now nonce).2.2:=by
 unfold sSend;split<;>exact h.same rfl
theorem sProve_fl {tol:Int} {s:Sr} {iv:Iv} {raw t:Int} (h:FlG tol s):FlG tol (sProve s iv raw t):=by
 unfold sProve;split
 ·split
  ·exact h
  ·exact h.same rfl
 ·exact h
theorem sMeas_fl {tol:Int} {s:Sr} {i:Int} {p:Np} {q:Qd} {prec t:Int} (h:FlG tol s):FlG tol (sMeas s i p q prec t):=by
 unfold sMeas;split
 ·split<;>exact fAdd_fl h.1 h.2.1 h.2.2
 ·exact h
theorem sRecv_fl {tol:Int} {s:Sr} {i:Int} {p:Np} {iv:Iv} {has:Bool} {raw now prec t:Int} (h:FlG tol s):FlG tol (sRecv s i p iv has raw now prec t).2:=by
 unfold sRecv;split
 ·exact h.same rfl
 ·split
  ·dsimp only
   refine sMeas_fl ?_;have hh:FlG tol (sHit s (aRecv s.sa p now).2):=h.same rfl;split
   ·exact sProve_fl hh
   ·exact hh
  ·exact h.same rfl
theorem sr0_fl (c:Cf):FlG c.tol (sr0 c):=⟨rfl,List.Pairwise.nil,Nat.zero_le _⟩
theorem getD_fl {l:List Sr} {i:Nat} {c:Cf} (h:∀ x∈l,FlG c.tol x):FlG c.tol (l.getD i (sr0 c)):=by
 rw[List.getD_eq_getElem?_getD]
 cases hh:l[i]? with
 | none=>exact sr0_fl c
 | some s=>exact h s (List.mem_of_getElem? hh)
theorem fl_set {tol:Int} {l:List Sr} {i:Nat} {s:Sr} (h:∀ x∈l,FlG tol x) (hs:FlG tol s):∀ x∈l.set i s,FlG tol x:=fun x hx=>by
 rcases List.mem_or_eq_of_mem_set hx with h'|rfl
 ·exact h x h'
 ·exact hs
structure ClR (c:Cl):Prop where
 u:ClU c
 fl:∀ s∈c.srcs,FlG c.cf.tol s
theorem ClR.ft {c:Cl} (h:ClR c):∀ s∈c.srcs,s.fl.tol=c.cf.tol:=fun s hs=>(h.fl s hs).1
theorem ClR.ri {c:Cl} (h:ClR c):∀ s∈c.srcs,Ris s.fl.l∧s.fl.l.length≤8:=fun s hs=>(h.fl s hs).2
theorem clEnter_cf (c:Cl) (raw:Int):(clEnter c raw).2.2.cf=c.cf:=(enter_same c raw).2.2.2.1
theorem ClR.send {c:Cl} (h:ClR c) (server raw nonce:Int):ClR (clSend c server raw nonce).2:=by
 refine⟨h.u.send _ _ _,?_⟩;unfold clSend;split
 ·split
  ·dsimp only
   rw[clEnter_cf];exact fl_set h.fl (sSend_fl (getD_fl h.fl))
  ·exact h.fl
 ·exact h.fl
theorem ClR.recv {c:Cl} (h:ClR c) (server:Int) {p:Np} (hp:npOk p) (iv:Iv) (has:Bool) (raw:Int):ClR (clRecv c server p iv has raw).2:=by
 refine⟨h.u.recv _ hp _ _ _,?_⟩;unfold clRecv;split
 ·split
  ·dsimp only
   rw[clEnter_cf];exact fl_set h.fl (sRecv_fl (getD_fl h.fl))
  ·exact h.fl
 ·exact h.fl
theorem selE_zero {l:List Cd} {x:List Int × Iv} (hg:Gd l) (hs:sel l=some x):selE l=0:=by
 unfold selE;rw[if_pos (chkC_ok.2 hg),hs]
theorem selE_not {l:List Cd} (h:selE l≠0):¬ Gd l∨sel l=none:=by
 by_cases hg:Gd l
 ·right
  cases hs:sel l with
  | none=>rfl
  | some x=>exact absurd (selE_zero hg hs) h
 ·exact .inl hg
theorem UpdX.R {c c':Cl} {raw er:Int} {a:Ac} (h:UpdX c raw a er c'):UpdR c raw a er c':=by
 rcases h with h|⟨h1,⟨h2,h3,h4,h5⟩|h⟩
 ·exact .inl h
 ·exact .inr ⟨h1,.inl ⟨h2,h4,h5,selE_not (h3 ▸ h2)⟩⟩
 ·exact .inr ⟨h1,.inr h⟩
theorem UpdX.one {c c1 c2:Cl} {raw e1 e2:Int} {a1 a2:Ac} (h1:UpdX c raw a1 e1 c1) (h2:UpdX c raw a2 e2 c2):a1=a2∧e1=e2∧c1=c2:=by
 rcases h1 with ⟨q1,q2,q3,q4⟩|⟨q1,h1⟩<;>rcases h2 with ⟨r1,r2,r3,r4⟩|⟨r1,h2⟩
 ·exact⟨q2.trans r2.symm,q3.trans r3.symm,q4.trans r4.symm⟩
 ·exact absurd r1 q1
 ·exact absurd q1 r1
 ·rcases h1 with ⟨p1,p2,p3,p4⟩|⟨i1,v1,g1,s1,t1⟩<;>rcases h2 with ⟨u1,u2,u3,u4⟩|⟨i2,v2,g2,s2,t2⟩
  ·exact⟨p3.trans u3.symm,p2.trans u2.symm,p4.trans u4.symm⟩
  ·exact absurd (p2.trans (selE_zero g2 s2)) p1
  ·exact absurd (u2.trans (selE_zero g1 s1)) u1
  ·have hi:i1=i2:=by rw[s1] at s2;exact (Prod.mk.inj (Option.some.inj s2)).1
   subst hi;have:=t1.trans t2.symm;simp only[Prod.mk.injEq] at this;exact⟨this.1,this.2.1,this.2.2⟩
theorem strC_fl {c:Cl} {raw now off:Int} {kept:List Cd} (h:∀ s∈c.srcs,FlG c.cf.tol s):(strC c raw now off kept).2.2.cf=c.cf∧∀ s∈(strC c raw now off kept).2.2.srcs,FlG c.cf.tol s:=by
 have hm:∀ s∈(strM c now off kept).srcs,FlG c.cf.tol s:=adR_all (p:=FlG c.cf.tol) (fun s hs=>hs.same rfl) _ _ h;have hc:(strM c now off kept).cf=c.cf:=rfl;unfold strC;split
 ·split
  ·dsimp only
   split
   ·refine⟨hc,fun s hs=>?_⟩
    obtain⟨y,hy,rfl⟩:=List.mem_map.1 hs;exact⟨by rw[hc],List.Pairwise.nil,Nat.zero_le _⟩
   ·exact⟨hc,hm⟩
  ·exact⟨hc,hm⟩
 ·exact⟨rfl,h⟩
theorem ClR.upd {c c':Cl} {raw er:Int} {a:Ac} (h:ClR c) (hu:UpdX c raw a er c'):ClR c':=by
 refine⟨(h.u.upd hu.R).1,?_⟩;obtain⟨-,-,s3,s4,-⟩:=enter_same c raw;rcases hu with ⟨-,-,-,h4⟩|⟨-,⟨-,-,-,h4⟩|⟨ins,hv,-,-,h4⟩⟩
 ·rw[h4,s3,s4];exact h.fl
 ·rw[h4]
  show ∀ s∈(clEnter c raw).2.2.srcs,FlG (clEnter c raw).2.2.cf.tol s
  rw[s3,s4];exact h.fl
 ·have hb:∀ s∈(updB c raw).srcs,FlG (updB c raw).cf.tol s:=by
   show ∀ s∈(clEnter c raw).2.2.srcs,FlG (clEnter c raw).2.2.cf.tol s
   rw[s3,s4];exact h.fl
  have:=strC_fl (raw:=raw) (now:=(clEnter c raw).1) (off:=meanC (updK c raw ins)) (kept:=updK c raw ins) hb;rw[←h4] at this;dsimp only at this;rw[this.1];exact this.2
theorem ClR.new {c:Cf} {raw time:Int} (h:ccheck c=0) (hr:isT raw=true) (ht:isT time=true):ClR (cl0 c raw time):=by
 obtain⟨h1,h2,h3,h4⟩:=ccheck_ok h;have hs:SvOk ⟨c.sv,0,0,0⟩:=(ClU.new h).sv;refine⟨⟨ClOk.new hr ht h1,hs,?_,h2,h3.1,(show (-4503599627370496:Int)≤0∧(0:Int)≤4503599627370496 by decide)⟩,?_⟩
 ·intro s hs
  obtain rfl:=(List.mem_replicate.1 hs).2;exact sr0_g c
 ·intro s hs
  obtain rfl:=(List.mem_replicate.1 hs).2;exact sr0_fl c
end
section
open Go.Lib (hid)
set_option maxRecDepth 100000
set_option maxHeartbeats 8000000
open Go.RowKit Go.Sort
set_option synthInstance.maxSize 2000 in
set_option synthInstance.maxHeartbeats 400000 in
theorem qClSendNo {M:List Nat} {w:World} {P:Pl} {c:Cl} (h:QClAt M w P c) (hok:CkOk c.ck) (raw:Int) (server nonce:Int) (hno:wth server 0 (c.srcs.length-1)=true→(clEnter c raw).2.1≠0) :
  Calls Tryz.prog 30 #[.pointer (some ⟨P.bc,0,none⟩),.int .i64 server,.int .i64 raw,.int .u64 nonce] w fun e w'=>e=.returned (.tuple #[npV np0,.int .i64 (if wth server 0 (c.srcs.length-1)=true then (clEnter c raw).2.1 else 3)])∧QClAt M w' P c∧Only [P.bc] w w':=by
 have HC:=hid h;have hlen:=h.len;have lbc:=h.lt P.bc (by simp[Pl.all]);have HEN:=hid (fun w' (o:Only [] w w')=>qClEnter (h.kept o) hok raw);have hl:=h.cl;unfold QClB at hl;rw[←hlen] at hno ⊢;clear hlen;unfold npV np0;dsimp only;by_cases hw:wth server 0 ((P.ps.length:Int)-1)=true
 rotate_left
 focus
  rw[if_neg hw];have hno2:¬ (0≤server∧server≤(P.ps.length:Int)-1):=fun hh=>hw (wth_iff.2 hh);clear hno hw HEN h;obtain⟨n,hn⟩:∃ n,P.ps.length=n:=⟨_,rfl⟩;rw[hn] at hl hno2;clear hn;by_cases h0:server<0
  rotate_left
  focus
   have h1:(n:Int)≤server:=by omega
  rotate_left
  all_goals
   have m:=mmR hl;have k:=m.out.k;clear hl;go_enter Tryz.func30,Tryz.ntmps30
   go_wp2_with (first|((with_reducible first|refine cU ?_|refine wU ?_);clear k m;intro w m k)|((with_reducible refine lE (fun w o g k K hK=>⟨rfl,?_⟩));simp[results,Tryz.results30,go_sem,k];refine hK _ ?_;exact⟨rfl,HC.out.kept o,o.weak (by simp)⟩))
 have he:=hno hw;rw[if_pos hw];have hb:=wth_iff.1 hw;have hn0:¬ server<0:=by omega
 have hii:server<(P.ps.length:Int):=by omega
 have hce:=clEnter_no he;generalize clEnter c raw=ce at HEN he hce ⊢;obtain⟨now,er,c1⟩:=ce;dsimp only at HEN he hce ⊢;subst hce;have q1:(er != 0)=true:=by simpa using he
 clear hno hw hb h;obtain⟨wo,hwo⟩:∃ wo:World,wo=w:=⟨_,rfl⟩;subst hwo;have m:=mmR hl;have k:=m.out.k;clear hl;go_enter Tryz.func30,Tryz.ntmps30
 go_wp2_with ((with_reducible first|refine cU ?_|refine wU ?_);clear k m;intro w m k)
 refine (HEN.out _ m.out.only).mono ?_;rintro e w2 ⟨rfl,hcb,ho2⟩;have hb2:w2.heap[wo.heap.size]? = some (.cells #[.int .i64 0,.int .i64 0,.int .i64 0,.int .i64 0,.int .i64 0,.int .i64 0,.int .u32 0,.int .u32 0,.int .u32 0,.int .u64 0,.int .u64 0,.int .u64 0,.int .u64 0] 41 (0,0)):=ho2.got (gB (w:=w)) (by simp;omega);have O2:=hid ((m.out.only.weak (S':=[P.bc]) (by simp)).trans ho2 (by simp));have HCB:=hid hcb
 have HFIN:=hid (fun w' (o:Only [wo.heap.size] w2 w')=>show QClAt M w' P c1∧Only [P.bc] wo w' from by
  have OA:=O2.out.trans o (fun x hx=>.inr (by rw[List.mem_singleton.1 hx];exact Nat.le_refl _));exact⟨HC.out.putB OA (o.got HCB.out (by simp;omega)) rfl rfl rfl,OA⟩)
 clear k m HEN hcb ho2;have m:=mm1 hb2;have k:=m.out.k;clear hb2;go_wp2_with (first|((with_reducible first|refine cU ?_|refine wU ?_);clear k m;intro w m k)|((with_reducible refine lE (fun w o g k K hK=>⟨rfl,?_⟩));simp[results,Tryz.results30,go_sem,k];refine hK _ ?_;exact⟨rfl,HFIN.out w o⟩))
set_option synthInstance.maxSize 2000 in
set_option synthInstance.maxHeartbeats 400000 in
theorem qClRecvNo {M:List Nat} {w:World} {P:Pl} {c:Cl} (h:QClAt M w P c) (hok:CkOk c.ck) (raw:Int) (server:Int) (q:Np) (x:Iv) (has:Bool) (hno:wth server 0 (c.srcs.length-1)=true→(clEnter c raw).2.1≠0) :
  Calls Tryz.prog 31 #[.pointer (some ⟨P.bc,0,none⟩),.int .i64 server,npV q,ivV x,.bool has,.int .i64 raw] w fun e w'=>e=.returned (.tuple #[hdV (hdK 0),.int .i64 (if wth server 0 (c.srcs.length-1)=true then (clEnter c raw).2.1 else 3)])∧QClAt M w' P c∧Only [P.bc] w w':=by
 have HC:=hid h;have hlen:=h.len;have lbc:=h.lt P.bc (by simp[Pl.all]);have HEN:=hid (fun w' (o:Only [] w w')=>qClEnter (h.kept o) hok raw);have hl:=h.cl;unfold QClB at hl;rw[←hlen] at hno ⊢;clear hlen;obtain⟨q1,q2,q3,q4,q5,q6,q7,q8,q9,q10,q11,q12,q13⟩:=q;obtain⟨x1,x2⟩:=x;unfold hdV hdK npV ivV;dsimp only;by_cases hw:wth server 0 ((P.ps.length:Int)-1)=true
 rotate_left
 focus
  rw[if_neg hw];have hno2:¬ (0≤server∧server≤(P.ps.length:Int)-1):=fun hh=>hw (wth_iff.2 hh);clear hno hw HEN h;obtain⟨n,hn⟩:∃ n,P.ps.length=n:=⟨_,rfl⟩;rw[hn] at hl hno2;clear hn;by_cases h0:server<0
  rotate_left
  focus
   have h1:(n:Int)≤server:=by omega
  rotate_left
  all_goals
   have m:=mmR hl;have k:=m.out.k;clear hl;go_enter Tryz.func31,Tryz.ntmps31
   go_upto_region 1 with (fail)
   refine wU ?_;clear k m;intro w m k;go_wp2_with (first|((with_reducible first|refine cU ?_|refine wU ?_);clear k m;intro w m k)|((with_reducible refine lE (fun w o g k K hK=>⟨rfl,?_⟩));simp[results,Tryz.results31,go_sem,k];refine hK _ ?_;exact⟨rfl,HC.out.kept o,o.weak (by simp)⟩))
 have he:=hno hw;rw[if_pos hw];have hb:=wth_iff.1 hw;have hn0:¬ server<0:=by omega
 have hii:server<(P.ps.length:Int):=by omega
 have hce:=clEnter_no he;generalize clEnter c raw=ce at HEN he hce ⊢;obtain⟨now,er,c1⟩:=ce;dsimp only at HEN he hce ⊢;subst hce;have q1:(er != 0)=true:=by simpa using he
 clear hno hw hb h;obtain⟨wo,hwo⟩:∃ wo:World,wo=w:=⟨_,rfl⟩;subst hwo;have m:=mmR hl;have k:=m.out.k;clear hl;go_enter Tryz.func31,Tryz.ntmps31
 go_upto_region 1 with (fail)
 refine wU ?_;clear k m;intro w m k;go_wp2_with fail
 obtain⟨b2,e2,g2,f2,n2⟩:=m.box0 rfl;rw[←e2];clear n2 e2;refine (HEN.out _ m.out.only).mono ?_;rintro e w2 ⟨rfl,hcb,ho2⟩;have hb2:=ho2.got g2 (by simp;omega);have O2:=hid ((m.out.only.weak (S':=[P.bc]) (by simp)).trans ho2 (by simp));have HCB:=hid hcb
 have HFIN:=hid (fun w' (o:Only [b2] w2 w')=>show QClAt M w' P c1∧Only [P.bc] wo w' from by
  have OA:=O2.out.trans o (fun x hx=>.inr (by rw[List.mem_singleton.1 hx];exact f2));exact⟨HC.out.putB OA (o.got HCB.out (by simp;omega)) rfl rfl rfl,OA⟩)
 clear k m HEN hcb ho2 g2;have m:=mm1 hb2;have k:=m.out.k;clear hb2;go_wp2_with (first|((with_reducible first|refine cU ?_|refine wU ?_);clear k m;intro w m k)|((with_reducible refine lE (fun w o g k K hK=>⟨rfl,?_⟩));simp[results,Tryz.results31,go_sem,k];refine hK _ ?_;exact⟨rfl,HFIN.out w o⟩))
theorem qSend {M:List Nat} {w:World} {P:Pl} {c:Cl} (h:QClAt M w P c) (hok:CkOk c.ck) (raw server nonce:Int) :
  Calls Tryz.prog 30 #[.pointer (some ⟨P.bc,0,none⟩),.int .i64 server,.int .i64 raw,.int .u64 nonce] w fun e w'=>e=.returned (.tuple #[npV (clSend c server raw nonce).1.1,.int .i64 (clSend c server raw nonce).1.2])∧QClAt M w' P (clSend c server raw nonce).2∧Only P.all w w':=by
 have hlen:=h.len;have hbc:∀ x∈[P.bc],x∈P.all:=fun x hx=>by simp only[List.mem_cons,List.not_mem_nil,or_false] at hx;subst hx;unfold Pl.all;simp
 unfold clSend;by_cases hw:wth server 0 (c.srcs.length-1)=true
 ·rw[if_pos hw]
  by_cases he:(clEnter c raw).2.1=0
  ·rw[if_pos he]
   have hb:=wth_iff.1 hw;obtain⟨i,rfl⟩:∃ i:Nat,server=i:=⟨server.toNat,by omega⟩;have hi:i<P.ps.length:=by omega
   have hic:i<c.srcs.length:=by omega
   rw[show c.srcs.getD (i:Int).toNat (sr0 c.cf)=c.srcs[i] by simp[hic]];refine (qClSend h hok raw nonce i hi hic he).mono ?_;rintro e w' ⟨rfl,hq,ho⟩;exact⟨rfl,hq,(ho.weak (S':=[P.bc,P.ps[i].1,P.ps[i].2.1,P.ps[i].2.2]) (by intro x hx;simp only[List.mem_cons,List.not_mem_nil,or_false] at hx ⊢;omega)).weak (Pl.sub_all hi)⟩
  ·rw[if_neg he]
   refine (qClSendNo h hok raw server nonce (fun _=>he)).mono ?_;rintro e w' ⟨rfl,hq,ho⟩;rw[if_pos hw];exact⟨rfl,hq,ho.weak hbc⟩
 ·rw[if_neg hw]
  refine (qClSendNo h hok raw server nonce (fun hh=>absurd hh hw)).mono ?_;rintro e w' ⟨rfl,hq,ho⟩;rw[if_neg hw];exact⟨rfl,hq,ho.weak hbc⟩
end
end Go.Proofs.YtedgpfgccpnjnaaGreat
