/- Texts of one chain: Eh, Ei. Conditions: those named in each theorem. -/
import Derived.Test.YtedgpfgccpnjnaaGreatFJl
namespace Go.Proofs.YtedgpfgccpnjnaaGreat
section
open Go.RowKit Go.Sort
theorem adR_all {p:Sr→Prop} {off jit:Int} (hp:∀ s,p s→p (adS off jit s)):∀ (ks:List Cd) (l:List Sr),(∀ s∈l,p s)→∀ s∈adR off jit ks l,p s
 | [],_,h=>h
 | k::r,l,h=>adR_all hp r _ (fun s hs=>by
  rw[List.mem_iff_getElem?] at hs;obtain⟨i,hi⟩:=hs;rw[List.getElem?_modify] at hi
  cases hx:l[i]? with
  | none=>rw[hx] at hi;simp at hi
  | some y =>
   rw[hx] at hi;have hy:=h y (List.mem_of_getElem? hx);simp only[Option.map_eq_map,Option.map_some,Option.some.injEq] at hi;rw[←hi];split
   ·exact hp y hy
   ·exact hy)
theorem cFreq_ok {c:Ck} (h:CkOk c) {r x:Int} (x0: -500000≤x) (x1:x≤500000):CkOk (cFreq c r x).2:=by
 unfold cFreq;split
 ·rename_i he
  obtain⟨h1,h2,h3,-⟩:=now_ok he;have h4:=wth_iff.1 (show wth (cShow c r) (-4503599627370496) 4503599627370496=true from h3);exact⟨Int.le_trans h.r0 h1,h2,h4.1,h4.2,x0,x1,h.s0,h.s1⟩
 ·exact h
theorem cStep_ok {c:Ck} (h:CkOk c) {r d:Int}:CkOk (cStep c r d).2:=by
 unfold cStep;split
 ·rename_i he
  obtain⟨h1,h2,h3,-⟩:=now_ok he;split
  ·rename_i hs
   unfold st1 at hs ⊢;split at hs
   ·rename_i ht
    split at hs
    ·exact absurd hs (by simp)
    ·rename_i hn
     rw[if_pos ht,if_neg hn];have h4:=wth_iff.1 (show wth (cShow c r+d) (-4503599627370496) 4503599627370496=true from ht);have:=h.s0;have:=h.s1;exact⟨Int.le_trans h.r0 h1,h2,h4.1,h4.2,h.p0,h.p1,by dsimp only;omega,by dsimp only;omega⟩
   ·exact absurd hs (by simp)
  ·exact h
 ·exact h
theorem show_at (r t p s:Int):cShow ⟨r,t,p,s⟩ r=t:=by
 unfold cShow;dsimp only;rw[Int.sub_self,Int.zero_mul,Int.zero_ediv];omega
theorem cFreq_now {c:Ck} {r x:Int} (he:(cNow c r).2=0):cNow (cFreq c r x).2 r=cNow c r∧(cFreq c r x).2.steps=c.steps:=by
 obtain⟨h1,h2,h3,h4⟩:=now_ok he;unfold cFreq;rw[if_pos he];refine⟨?_,rfl⟩;rw[h4];unfold cNow;dsimp only;rw[if_neg (by omega),if_neg (by omega),show_at,if_pos h3]
theorem cStep_now {c:Ck} {r d:Int} (he:(cNow c r).2=0) :
  ((cStep c r d).1=0→cNow (cStep c r d).2 r=((cNow c r).1+d,0)∧(cStep c r d).2.steps=c.steps+1)∧((cStep c r d).1≠0→(cStep c r d).2=c):=by
 obtain⟨h1,h2,h3,h4⟩:=now_ok he;unfold cStep;rw[if_pos he];by_cases hs:(st1 (cShow c r) d c.steps).1=0
 ·rw[if_pos hs]
  refine⟨fun _=>?_,fun h=>absurd rfl h⟩;unfold st1 at hs ⊢;split at hs
  ·rename_i ht
   split at hs
   ·exact absurd hs (by simp)
   ·rename_i hn
    rw[if_pos ht,if_neg hn,h4];refine⟨?_,rfl⟩;unfold cNow;dsimp only;rw[if_neg (by omega),if_neg (by omega),show_at,if_pos ht]
  ·exact absurd hs (by simp)
 ·rw[if_neg hs]
  exact⟨fun h=>absurd h hs,fun _=>rfl⟩
structure ClU (c:Cl):Prop where
 ok:ClOk c
 sv:SvOk c.sv
 g:∀ s∈c.srcs,SrG s
 tol:0≤c.cf.tol∧c.cf.tol≤500000
 kp:1≤c.cf.keep
 rd: -4503599627370496≤c.rd∧c.rd≤4503599627370496
theorem ClU.enter {c:Cl} {raw:Int} (h:ClU c):ClU (clEnter c raw).2.2:=by
 obtain⟨h1,h2,h3,h4,h5,h6⟩:=enter_same c raw;exact⟨⟨h1 ▸ h.ok.ck,h3 ▸ h.ok.src,h6 ▸ h.ok.own,h4 ▸ h.ok.s0,h4 ▸ h.ok.s1,by rw[h3,h4];exact h.ok.len⟩,h2 ▸ h.sv,h3 ▸ h.g,h4 ▸ h.tol,h4 ▸ h.kp,h5 ▸ h.rd⟩
theorem ClU.upB {c:Cl} {raw:Int} (h:ClU c) (he:(clEnter c raw).2.1=0):ClU (updB c raw):=by
 have hr:=enter_bd he h.ok.ck;have h':=h.enter (raw:=raw);exact⟨⟨h'.ok.ck,h'.ok.src,hr,h'.ok.s0,h'.ok.s1,h'.ok.len⟩,h'.sv,h'.g,h'.tol,h'.kp,h'.rd⟩
theorem ClU.stM {c:Cl} {now off:Int} {kept:List Cd} (h:ClU c) (hn: -4503599627370496≤now∧now≤4503599627370496) (he:(smpE c.sv off (spnC c now)).2.1=0):ClU (strM c now off kept):=by
 refine⟨⟨h.ok.ck,?_,h.ok.own,h.ok.s0,h.ok.s1,?_⟩,(smpE_bd h.sv he).1,?_,h.tol,h.kp,hn⟩
 ·exact adR_all (p:=SrBd) (fun s hs=>hs) _ _ h.ok.src
 ·show ((adR off (jitC kept) kept c.srcs).length:Int)=c.cf.servers
  rw[adR_len];exact h.ok.len
 ·exact adR_all (p:=SrG) (fun s hs=>⟨hs.fl,hs.r1,hs.r2⟩) _ _ h.g
theorem ClU.ck {c:Cl} {k:Ck} (h:ClU c) (hk:CkOk k):ClU { c with ck:=k } :=
 ⟨⟨hk,h.ok.src,h.ok.own,h.ok.s0,h.ok.s1,h.ok.len⟩,h.sv,h.g,h.tol,h.kp,h.rd⟩
theorem ClU.fresh {c:Cl} (h:ClU c):ClU { c with srcs:=freshF c }:=by
 refine⟨⟨h.ok.ck,?_,h.ok.own,h.ok.s0,h.ok.s1,?_⟩,h.sv,?_,h.tol,h.kp,h.rd⟩
 ·intro s hs
  obtain⟨y,hy,rfl⟩:=List.mem_map.1 hs;exact h.ok.src y hy
 ·show ((freshF c).length:Int)=c.cf.servers
  unfold freshF;rw[List.length_map];exact h.ok.len
 ·intro s hs
  obtain⟨y,hy,rfl⟩:=List.mem_map.1 hs;exact⟨fun x hx=>absurd hx (by simp),(h.g y hy).r1,(h.g y hy).r2⟩
theorem ClU.sp {c:Cl} {now:Int} (h:ClU c) (hn: -4503599627370496≤now∧now≤4503599627370496):ClU { c with st:=true,rd:=now } :=
 ⟨⟨h.ok.ck,h.ok.src,h.ok.own,h.ok.s0,h.ok.s1,h.ok.len⟩,h.sv,h.g,h.tol,h.kp,hn⟩
theorem ClU.str {c:Cl} {raw now off:Int} {kept:List Cd} (h:ClU c) (hn: -4503599627370496≤now∧now≤4503599627370496) (he:(cNow c.ck raw).2=0) :
  ClU (strC c raw now off kept).2.2∧(strC c raw now off kept).2.2.last=c.last ∧
  (if (strC c raw now off kept).1.kind=2 then cNow (strC c raw now off kept).2.2.ck raw=((cNow c.ck raw).1+(strC c raw now off kept).1.val,0)∧(strC c raw now off kept).2.2.ck.steps=c.ck.steps+1
   else cNow (strC c raw now off kept).2.2.ck raw=cNow c.ck raw∧(strC c raw now off kept).2.2.ck.steps=c.ck.steps):=by
 unfold strC;by_cases hs:(smpE c.sv off (spnC c now)).2.1=0
 ·rw[if_pos hs]
  have hM:=h.stM (kept:=kept) hn hs;have hMc:(strM c now off kept).ck=c.ck:=rfl;have hMl:(strM c now off kept).last=c.last:=rfl;obtain⟨-,hb⟩:=smpE_bd h.sv hs;generalize smpE c.sv off (spnC c now)=se at hb ⊢;obtain⟨⟨ak,av⟩,er,sv2⟩:=se;generalize strM c now off kept=cm at hM hMc hMl ⊢;dsimp only at hb ⊢;unfold strK;dsimp only;rcases hb with ⟨rfl,-,-⟩|⟨rfl,x0,x1⟩
  ·simp only[if_true]
   have hst:=cStep_now (c:=cm.ck) (r:=raw) (d:=av) (by rw[hMc];exact he);have hok:=cStep_ok hM.ok.ck (r:=raw) (d:=av);by_cases hz:(cStep cm.ck raw av).1=0
   ·rw[if_pos hz]
    obtain⟨q1,q2⟩:=hst.1 hz;refine⟨(hM.fresh).ck hok,hMl,?_⟩;simp only[if_true];rw[q1,q2,hMc];exact⟨rfl,rfl⟩
   ·rw[if_neg hz]
    refine⟨hM.ck hok,hMl,?_⟩;rw[if_neg (by simp)];dsimp only;rw[hst.2 hz,hMc];exact⟨rfl,rfl⟩
  ·simp only[show ¬ ((1:Int)=2) by decide,if_false]
   have hst:=cFreq_now (c:=cm.ck) (r:=raw) (x:=av) (by rw[hMc];exact he);have hok:=cFreq_ok hM.ok.ck (r:=raw) x0 x1;by_cases hz:(cFreq cm.ck raw av).1=0
   ·rw[if_pos hz]
    refine⟨hM.ck hok,hMl,?_⟩;simp only[show ¬ ((1:Int)=2) by decide,if_false];rw[hst.1,hst.2,hMc];exact⟨rfl,rfl⟩
   ·rw[if_neg hz]
    refine⟨hM.ck hok,hMl,?_⟩;rw[if_neg (by simp)];dsimp only;rw[hst.1,hst.2,hMc];exact⟨rfl,rfl⟩
 ·rw[if_neg hs]
  refine⟨h.sp hn,rfl,?_⟩;rw[if_neg (by simp)];exact⟨rfl,rfl⟩
theorem clNow_c {c:Cl} {raw:Int} (h:(clNow c raw).2=0):(cNow c.ck raw).2=0∧c.last≤raw∧clNow c raw=cNow c.ck raw:=by
 unfold clNow at h ⊢;split at h
 ·rename_i h1
  split at h
  ·exact absurd h (by simp)
  ·rename_i h2
   refine⟨h1,by omega,?_⟩;rw[if_pos h1,if_neg h2]
 ·rename_i h1
  exact absurd h h1
theorem clNow_of {c:Cl} {raw:Int} (h:(cNow c.ck raw).2=0) (hl:c.last≤raw):clNow c raw=cNow c.ck raw:=by
 unfold clNow;rw[if_pos h,if_neg (by omega)]
theorem clEnter_ok {c:Cl} {raw:Int} (h:(clNow c raw).2=0):clEnter c raw=((clNow c raw).1,0,{ c with last:=raw }):=by
 unfold clEnter;rw[if_pos h]
theorem ClU.upd {c c':Cl} {raw er:Int} {a:Ac} (h:ClU c) (hu:UpdR c raw a er c'):ClU c'∧((clNow c raw).2=0 →
  (if a.kind=2 then clNow c' raw=((clNow c raw).1+a.val,0)∧c'.ck.steps=c.ck.steps+1 else clNow c' raw=clNow c raw∧c'.ck.steps=c.ck.steps)):=by
 rcases hu with ⟨h1,h2,h3,h4⟩|⟨h1,⟨h2,h3,h4,-⟩|⟨ins,hv,-,-,h4⟩⟩
 ·refine⟨h4 ▸ h.enter,fun hn=>?_⟩
  rw[clEnter_ok hn] at h1;exact absurd rfl h1
 ·refine⟨h4 ▸ h.upB h1,fun hn=>?_⟩
  obtain⟨q1,q2,q3⟩:=clNow_c hn;have hck:c'.ck=c.ck:=by rw[h4];exact (enter_same c raw).1
  have hla:c'.last=raw:=by
   rw[h4];show (clEnter c raw).2.2.last=raw
   rw[clEnter_ok hn]
  rw[if_neg (by rw[h3];simp)];exact⟨by rw[clNow_of (by rw[hck];exact q1) (by omega),hck,q3],by rw[hck]⟩
 ·have hn:=enter_now h1
  obtain⟨q1,q2,q3⟩:=clNow_c hn;have hck:(updB c raw).ck=c.ck:=(enter_same c raw).1
  have hla:(updB c raw).last=raw:=by
   show (clEnter c raw).2.2.last=raw
   rw[clEnter_ok hn]
  have hb: -4503599627370496≤(clEnter c raw).1∧(clEnter c raw).1≤4503599627370496:=by rw[clEnter_ok hn];exact clNow_bd hn
  obtain⟨r1,r2,r3⟩:=(h.upB h1).str (raw:=raw) (now:=(clEnter c raw).1) (off:=meanC (updK c raw ins)) (kept:=updK c raw ins) hb (by rw[hck];exact q1);rw[←h4] at r1 r2 r3;dsimp only at r1 r2 r3;refine⟨r1,fun _=>?_⟩;rw[hck] at r3;rw[q3];split
  ·rename_i hk
   rw[if_pos hk] at r3;exact⟨by rw[clNow_of (by rw[r3.1]) (by omega),r3.1],r3.2⟩
  ·rename_i hk
   rw[if_neg hk] at r3;exact⟨by rw[clNow_of (by rw[r3.1];exact q1) (by omega),r3.1],r3.2⟩
end
section
open Go.RowKit Go.Sort
theorem fAdd_all {f:Fl} {s:Smp} (h:∀ x∈f.l,schk x=0):∀ x∈(fAdd f s).1.l,schk x=0:=by
 have hp (hs:schk s=0):∀ x∈(fPush f s).l,schk x=0:=fun x hx=>by
  unfold fPush at hx;rcases List.mem_append.1 hx with hx|hx
  ·split at hx
   ·exact h x (List.mem_of_mem_drop hx)
   ·exact h x hx
  ·rw[List.mem_singleton.1 hx];exact hs
 unfold fAdd;split
 ·rename_i hs
  split
  ·split
   ·exact h
   ·exact hp hs
  ·exact hp hs
 ·exact h
theorem sSend_g {s:Sr} {raw now nonce:Int} (h:SrG s):SrG (sSend s raw now nonce).2.2:=by
 unfold sSend;split<;>exact⟨h.fl,h.r1,h.r2⟩
theorem sProve_g {s:Sr} {iv:Iv} {raw tol:Int} (h:SrG s):SrG (sProve s iv raw tol):=by
 unfold sProve;split
 ·split
  ·exact h
  ·exact⟨h.fl,h.r1,h.r2⟩
 ·exact h
theorem sMeas_g {s:Sr} {i:Int} {p:Np} {q:Qd} {prec tol:Int} (h:SrG s) (hp:npOk p):SrG (sMeas s i p q prec tol):=by
 unfold sMeas;split
 ·split
  ·exact⟨fAdd_all h.fl,hp.1,hp.2.1⟩
  ·exact⟨fAdd_all h.fl,h.r1,h.r2⟩
 ·exact h
theorem sRecv_g {s:Sr} {i:Int} {p:Np} {iv:Iv} {has:Bool} {raw now prec tol:Int} (h:SrG s) (hp:npOk p):SrG (sRecv s i p iv has raw now prec tol).2:=by
 unfold sRecv;split
 ·exact⟨h.fl,h.r1,h.r2⟩
 ·split
  ·dsimp only
   refine sMeas_g ?_ hp;have hh:SrG (sHit s (aRecv s.sa p now).2):=⟨h.fl,h.r1,h.r2⟩;split
   ·exact sProve_g hh
   ·exact hh
  ·exact⟨h.fl,h.r1,h.r2⟩
theorem sr0_g (c:Cf):SrG (sr0 c):=⟨fun x hx=>absurd hx (by simp[sr0]),(by decide:(0:Int)≤0∧(0:Int)≤4294967295),(by decide:(0:Int)≤0∧(0:Int)≤4294967295)⟩
theorem getD_g {l:List Sr} {i:Nat} {c:Cf} (h:∀ x∈l,SrG x):SrG (l.getD i (sr0 c)):=by
 rw[List.getD_eq_getElem?_getD]
 cases hh:l[i]? with
 | none=>exact sr0_g c
 | some s=>exact h s (List.mem_of_getElem? hh)
theorem g_set {l:List Sr} {i:Nat} {s:Sr} (h:∀ x∈l,SrG x) (hs:SrG s):∀ x∈l.set i s,SrG x:=fun x hx=>by
 rcases List.mem_or_eq_of_mem_set hx with h'|rfl
 ·exact h x h'
 ·exact hs
theorem ClU.send {c:Cl} (h:ClU c) (server raw nonce:Int):ClU (clSend c server raw nonce).2:=by
 refine⟨h.ok.send _ _ _,?_,?_,?_,?_,?_⟩<;>unfold clSend<;>split<;>(try split)<;>first
  | exact h.sv
  | exact h.g
  | exact h.tol
  | exact h.kp
  | exact h.rd
  | exact g_set h.g (sSend_g (getD_g h.g))
  | exact (h.enter (raw:=raw)).sv
  | exact (h.enter (raw:=raw)).tol
  | exact (h.enter (raw:=raw)).kp
  | exact (h.enter (raw:=raw)).rd
theorem ClU.recv {c:Cl} (h:ClU c) (server:Int) {p:Np} (hp:npOk p) (iv:Iv) (has:Bool) (raw:Int):ClU (clRecv c server p iv has raw).2:=by
 refine⟨h.ok.recv _ _ _ _ _,?_,?_,?_,?_,?_⟩<;>unfold clRecv<;>split<;>(try split)<;>first
  | exact h.sv
  | exact h.g
  | exact h.tol
  | exact h.kp
  | exact h.rd
  | exact g_set h.g (sRecv_g (getD_g h.g) hp)
  | exact (h.enter (raw:=raw)).sv
  | exact (h.enter (raw:=raw)).tol
  | exact (h.enter (raw:=raw)).kp
  | exact (h.enter (raw:=raw)).rd
theorem ccheck_ok {c:Cf} (h:ccheck c=0):(1≤c.servers∧c.servers≤12)∧(0≤c.tol∧c.tol≤500000)∧(1≤c.keep∧c.keep≤12)∧svchk c.sv=0:=by
 unfold ccheck at h;split at h
 ·rename_i h1
  simp only[Bool.and_eq_true,wth_iff] at h1;split at h
  ·rename_i h2
   exact⟨h1.1,h1.2.1,h1.2.2.2,h2⟩
  ·rename_i h2
   exact absurd h h2
 ·exact absurd h (by decide)
theorem ClU.new {c:Cf} (h:ccheck c=0):ClU (cl0 c 0 0):=by
 obtain⟨h1,h2,h3,h4⟩:=ccheck_ok h
 have hs:SvOk ⟨c.sv,0,0,0⟩:=by
  unfold svchk at h4;split at h4
  ·rename_i h5
   simp only[Bool.and_eq_true,wth_iff] at h5;obtain⟨a,b,d,e,f⟩:=h5;exact⟨a.1,a.2,b.1,b.2,d.1,d.2,e,f,by dsimp only;omega,by dsimp only;omega⟩
  ·exact absurd h4 (by decide)
 refine⟨ClOk.new (by decide) (by decide) h1,hs,?_,h2,h3.1,?_⟩
 ·intro s hs
  obtain rfl:=(List.mem_replicate.1 hs).2;exact sr0_g c
 ·show (-4503599627370496:Int)≤0∧(0:Int)≤4503599627370496
  decide
end
end Go.Proofs.YtedgpfgccpnjnaaGreat
