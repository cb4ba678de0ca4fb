/- Oi Oj Ok Ol -/
import Derived.Test.YtppjhbjmfkiejaaGreatFOg
namespace Go.Proofs.YtppjhbjmfkiejaaGreat
set_option linter.all false
open List (mem_singleton)
open Go.RowKit Go.Sort
section
def SgP (n:Nat) (s:dU):Prop:=∀ i<n,(s.nd.getD i bC).n.sg.length<=100/\(s.nd.getD i bC).n.sv.length<=100
def ChP (n:Nat) (s:dU):Prop:=∀ i<n,(s.lk.getD i jF).l.ch.length<=100
def FewP (s:dU):Prop:=s.nd.length<=60/\s.lk.length<=100/\s.ft.length<=100/\SgP s.nd.length s/\ChP s.lk.length s
theorem SgP.up {s:dU} {n:Nat} (h:SgP n s) (h1:(s.nd.getD n bC).n.sg.length<=100) (h2:(s.nd.getD n bC).n.sv.length<=100):SgP (n+1) s:=fun i hi=>by
 by_cases e:i=n
 ·subst e;exact⟨h1,h2⟩
 ·exact h i (by omega)
theorem ChP.up {s:dU} {n:Nat} (h:ChP n s) (h1:(s.lk.getD n jF).l.ch.length<=100):ChP (n+1) s:=fun i hi=>by
 by_cases e:i=n
 ·subst e;exact h1
 ·exact h i (by omega)
def xM:Cf:=⟨1,0,1,3,⟨65536,655,500000,0,0⟩,500000,4,6⟩
end
section
def eO:eG:=⟨[⟨0,[⟨0,0⟩],0,true,100,0,[]⟩,⟨0,[⟨0,0⟩],0,false,0,0,[0]⟩],[⟨0,1,1000,1000,0,0,0,0,[]⟩],[],1000000,0⟩
theorem XO:nC eO xM=0:=by kernel_rfl
def kH:Cl:=IK ⟨1,0,1,3,⟨65536,655,500000,0,0⟩,500000,4,6⟩ 0 0
def awS0:bS:=⟨[none,some kH],[⟨0,1,0⟩],0,1,[.poll ⟨1,0,0,0⟩],0,[],[]⟩
def UZ:bS:=⟨[none,some kH],[],0,1,[.poll ⟨1,0,0,0⟩],0,[],[]⟩
theorem aw_new:newF eO xM=awS0:=by kernel_rfl
def K7 (n:Int):Np:={ yG with ver:=4,mode:=3,xmt:=n,poll:=4 }
def yK (n:Int):Cl:={ kH with srcs:=[{ (oU kH.cf) with sa:={ VE with t1:=0,nonce:=n,pend:=true },sent:=0,rc:=oC (oU kH.cf).rc }] }
theorem aw_send {n:Int} (h:n≠0):dM kH 0 0 n=((K7 n,0),yK n):=by
 have e:lH (oU kH.cf).sa 0 n=({ yG with ver:=4,mode:=3,xmt:=n },0,{ VE with t1:=0,nonce:=n,pend:=true }):=by
  unfold lH;rw[if_pos (by kernel_rfl),if_neg h,if_neg (show ¬ n=(oU kH.cf).sa.nonce from h)];rfl
 have e2:iB (oU kH.cf) 0 0 n=(K7 n,0,{ (oU kH.cf) with sa:={ VE with t1:=0,nonce:=n,pend:=true },sent:=0,rc:=oC (oU kH.cf).rc }):=by
  unfold iB;rw[e];rfl
 have e3:aH kH 0=(0,0,kH):=by kernel_rfl
 unfold dM;rw[if_pos (by kernel_rfl),e3];dsimp only;rw[if_pos rfl,show kH.srcs.getD (0:Int).toNat (oU kH.cf)=oU kH.cf from rfl,e2];rfl
theorem aw_arv (R:List (Int × Int)):xA R eO 1 0 0 0=some 1000/\xA R eO 0 1 1000 0=some 2000:=by
 have key:∀ (d t n:Int),(d=0\/d=1)->LB R ⟨0,1,1000,1000,0,0,0,0,[]⟩ d t n=some (t+1000):=fun d t n hd=>by
  unfold LB GU wV;dsimp only[List.foldl];have h0:GD (1000,1000) d=1000:=by unfold GD;split<;>rfl
  have h1:GD (0,0) d=0:=by unfold GD;split<;>rfl
  have h2:=(wM (R:=R) 0 (4*n+2*d)).1;rw[h0,h1,if_neg (by omega)];simp
 exact⟨key 1 0 0 (.inr rfl),key 0 1000 0 (.inl rfl)⟩
def awS1 (n:Int):bS:=⟨[none,some (yK n)],[⟨1000,2,1⟩],0,2,[.poll ⟨1,0,0,0⟩,.req ⟨1,0,0,0⟩ (K7 n)],1,[],[⟨1,1,0,0,0⟩]⟩
theorem aw_poll (R:List (Int × Int)):pE R eO UZ 0 ⟨1,0,0,0⟩=awS1 (max (gL R 0 0) 1):=by
 have hn:max (gL R 0 0) 1≠0:=by omega
 unfold pE;rw[show eX eO UZ (0+16000000000) (.poll ⟨1,0,0,0⟩)=UZ by kernel_rfl];dsimp only;rw[show gQ UZ 1=some kH from rfl];dsimp only;rw[show bL eO 1 0=0 by kernel_rfl,show UZ.sent=0 from rfl,show eO.sd=0 from rfl,aw_send hn];dsimp only;rw[show ∀ c,(dP UZ 1 c).sent=0 from fun _=>rfl,if_pos rfl,(aw_arv R).1];rfl
def rW (n:Int):Np:=⟨0,4,4,1,4,-20,(qN ⟨1,0,100,1⟩).1,(qN ⟨1,0,100,1⟩).2.1,1,0,n,lM 3900000000000001000,lM 3900000000000001000⟩
def awS2 (n:Int):bS:=⟨[none,some (yK n)],[⟨1000,3,2⟩],1000,3,[.poll ⟨1,0,0,0⟩,.req ⟨1,0,0,0⟩ (K7 n),.dep ⟨1,0,0,0⟩ (rW n) ⟨900,1100⟩],1,[],[⟨1,1,0,0,0⟩,⟨2,0,1,0,1000⟩]⟩
theorem aw_req (n:Int):rP eO { awS1 n with q:=[],tm:=1000 } 1000 ⟨1,0,0,0⟩ (K7 n)=awS2 n:=by
 have e:eZ eO { awS1 n with q:=[],tm:=1000 } 0 (K7 n) 1000=(rW n,⟨900,1100⟩,true):=by kernel_rfl
 unfold rP;rw[e];rfl
def awS3 (n:Int):bS:=⟨[none,some (yK n)],[⟨2000,4,3⟩],1000,4,[.poll ⟨1,0,0,0⟩,.req ⟨1,0,0,0⟩ (K7 n),.dep ⟨1,0,0,0⟩ (rW n) ⟨900,1100⟩,.rep ⟨1,0,0,0⟩ (rW n) ⟨900,1100⟩],1,[],[⟨1,1,0,0,0⟩,⟨2,0,1,0,1000⟩,⟨1,0,1,1,1000⟩]⟩
theorem aw_dep (R:List (Int × Int)) (n:Int):BZ R eO { awS2 n with q:=[],tm:=1000 } 1000 ⟨1,0,0,0⟩ (rW n) ⟨900,1100⟩=awS3 n:=by
 unfold BZ;rw[show xA R eO 0 1 1000 0=some 2000 from (aw_arv R).2];rfl
theorem aw_arecv (n:Int):jN { VE with t1:=0,nonce:=n,pend:=true } (rW n) 2000=(⟨7,⟨#[]⟩,⟨0,1000,1000,2000⟩⟩,{ VE with t1:=0,nonce:=n,pend:=false,xmt:=lM 3900000000000001000 }):=by
 have e:yO { VE with t1:=0,nonce:=n,pend:=true } (rW n) 2000=none:=by
  unfold yO;rw[if_pos ⟨by kernel_rfl,by kernel_rfl,by kernel_rfl,fun h=>absurd h.2 (show ¬ (2000:Int)<0 by decide)⟩];dsimp only;rw[if_pos rfl,if_pos (show (rW n).org=n from rfl),if_neg (show ¬ ((rW n).xmt≠0/\(rW n).xmt=VE.xmt) from fun h=>absurd h.2 (show ¬ lM 3900000000000001000=0 by decide))]
 unfold jN;rw[e];rfl
def K8 (n:Int):Hd × Sr:=jY ((yK n).srcs.getD 0 (oU (yK n).cf)) 0 (rW n) ⟨900,1100⟩ true 2000 2000 1 0
def wY (n:Int):Cl:={ yK n with last:=2000,srcs:=[(K8 n).2] }
theorem RO (n:Int):fD (yK n) 0 (rW n) ⟨900,1100⟩ true 2000=(((K8 n).1,0),wY n):=by kernel_rfl
theorem aw_b2 (n:Int):(K8 n).1.kind=7/\(K8 n).2.hp=true/\(K8 n).2.prf=⟨900,3100⟩/\(K8 n).2.pat=2000:=by
 unfold K8;rw[show (yK n).srcs.getD 0 (oU (yK n).cf)={ (oU kH.cf) with sa:={ VE with t1:=0,nonce:=n,pend:=true },sent:=0,rc:=oC (oU kH.cf).rc } from rfl];unfold jY;dsimp only;rw[aw_arecv];exact⟨by kernel_rfl,by kernel_rfl,by kernel_rfl,by kernel_rfl⟩
theorem zN (raw tol off jit:Int):∀ (ks:List Cd) (l:List Sr),(DY off jit ks l).map (jI raw tol)=l.map (jI raw tol)
 | [],_=>rfl
 |k::r,l=>by
  rw[DY,zN raw tol off jit r];refine List.ext_getElem? fun i=>?_;rw[List.getElem?_map,List.getElem?_map,List.getElem?_modify]
  cases l[i]? with
  | none=>rfl
  | some y =>
   simp only[Option.map_eq_map,Option.map_some,Option.some.injEq];split<;>rfl
theorem str_prf {c:Cl} {raw now off:Int} {kept:List Cd} (r tol:Int):(iU c raw now off kept).2.2.srcs.map (jI r tol)=c.srcs.map (jI r tol)/\(iU c raw now off kept).2.2.cf=c.cf/\(iU c raw now off kept).2.2.own=c.own/\(iU c raw now off kept).2.2.owned=c.owned:=by
 unfold iU;split
 ·split
  ·split
   ·refine⟨?_,rfl,rfl,rfl⟩
    show (gJ (pJ c now off kept)).map (jI r tol)=_
    unfold gJ;rw[List.map_map];exact zN r tol _ _ _ _
   ·exact⟨zN r tol _ _ _ _,rfl,rfl,rfl⟩
  ·exact⟨zN r tol _ _ _ _,rfl,rfl,rfl⟩
 ·exact⟨rfl,rfl,rfl,rfl⟩
theorem yQ.prf {c c':Cl} {raw er:Int} {a:Ac} (hu:yQ c raw a er c') (he:(aX c raw).2=0) (r tol:Int):c'.srcs.map (jI r tol)=c.srcs.map (jI r tol)/\c'.cf=c.cf/\c'.own=uT c raw/\c'.owned=raw:=by
 have hB:(fF c raw).srcs=c.srcs/\(fF c raw).cf=c.cf/\(fF c raw).own=uT c raw/\(fF c raw).owned=raw:=by
  unfold fF;rw[jD he];exact⟨rfl,rfl,rfl,rfl⟩
 rcases hu with ⟨h,_⟩|⟨_,⟨_,_,_,rfl⟩|⟨ins,hv,_,_,h⟩⟩
 ·rw[jD he] at h
  exact absurd rfl h
 ·rw[hB.1]
  exact⟨rfl,hB.2.1,hB.2.2.1,hB.2.2.2⟩
 ·have:=str_prf (c:=fF c raw) (raw:=raw) (now:=(aH c raw).1) (off:=gU (mG c raw ins)) (kept:=mG c raw ins) r tol
  rw[<-h] at this;dsimp only at this;rw[hB.1,hB.2.1,hB.2.2.1,hB.2.2.2] at this;exact this
theorem RQ (n:Int):aX (wY n) 2000=(2000,0):=by kernel_rfl
theorem RP (n:Int):(wY n).srcs.map (jI 2000 0)=[⟨900,3100⟩]:=by
 obtain⟨-,h1,h2,h3⟩:=aw_b2 n;show [jI 2000 0 (K8 n).2]=_
 unfold jI;rw[if_pos h1,h2,h3];kernel_rfl
theorem awB_ren (n:Int):uT (wY n) 2000=⟨900,3100⟩:=by
 unfold uT DN;rw[show (wY n).cf.tol=0 from rfl,RP,show ((wY n).cf.servers-1) / 2=0 from rfl,KH (by decide),show lD (wY n).own (wY n).owned 2000 0=⟨-4503599627368496,4503599627370496⟩ by kernel_rfl];simp only[Option.getD_some];rw[show vD ⟨900,3100⟩ ⟨-4503599627368496,4503599627370496⟩=some ⟨900,3100⟩ by kernel_rfl];rfl
theorem awHB_ok {n:Int} (h0:0<=n) (h1:n<=18446744073709551615):eP (rW n):=
 ⟨show 0<=(qN ⟨1,0,100,1⟩).1/\(qN ⟨1,0,100,1⟩).1<=4294967295 by decide,show 0<=(qN ⟨1,0,100,1⟩).2.1/\(qN ⟨1,0,100,1⟩).2.1<=4294967295 by decide,show 0<=(1:Int)/\(1:Int)<=4294967295 by decide,⟨h0,h1⟩,show 0<=lM 3900000000000001000/\lM 3900000000000001000<=18446744073709551615 by decide,show 0<=lM 3900000000000001000/\lM 3900000000000001000<=18446744073709551615 by decide,show 0<=(0:Int)/\(0:Int)<=18446744073709551615 by decide⟩
theorem awB_u {n:Int} (h0:0<=n) (h1:n<=18446744073709551615):pI (wY n):=by
 have hn:=(xS.new (c:=kH.cf) (raw:=0) (by decide) (by decide)).u
 have hA:pI (yK n):=by
  refine⟨⟨hn.ok.ck,fun s hs=>?_,hn.ok.own,hn.ok.s0,hn.ok.s1,rfl⟩,hn.sv,fun s hs=>?_,hn.tol,hn.kp,hn.rd⟩
  ·obtain rfl:=mem_singleton.1 hs
   exact hn.ok.src (oU kH.cf) (mem_singleton.2 rfl)
  ·obtain rfl:=mem_singleton.1 hs
   exact⟨(hn.g (oU kH.cf) (mem_singleton.2 rfl)).fl,(hn.g (oU kH.cf) (mem_singleton.2 rfl)).r1,(hn.g (oU kH.cf) (mem_singleton.2 rfl)).r2⟩
 have:=hA.recv 0 (p:=rW n) (awHB_ok h0 h1) ⟨900,1100⟩ true 2000;rw[RO] at this;exact this
theorem aw_upd {n:Int} (h0:0<=n) (h1:n<=18446744073709551615) {a:Ac} {er:Int} {c2:Cl} (hu:yQ (wY n) 2000 a er c2):(aX c2 2000).2=0/\nH c2 2000=(⟨900,3100⟩,0):=by
 have hz:(aX (wY n) 2000).2=0:=by rw[RQ]
 have h2:=((awB_u h0 h1).upd hu.R).2 hz
 have hz2:(aX c2 2000).2=0:=by
  split at h2
  ·rw[h2.1]
  ·rw[h2.1,RQ]
 obtain⟨k1,k2,k3,k4⟩:=hu.prf hz 2000 0;refine⟨hz2,?_⟩;unfold nH;rw[if_pos hz2];unfold uT DN;rw[k2,k3,k4,show (wY n).cf.tol=0 from rfl,k1,RP,awB_ren,show ((wY n).cf.servers-1) / 2=0 from rfl,KH (by decide),show lD ⟨900,3100⟩ 2000 2000 0=⟨900,3100⟩ by kernel_rfl];simp only[Option.getD_some];rw[show vD ⟨900,3100⟩ ⟨900,3100⟩=some ⟨900,3100⟩ by kernel_rfl];rfl
theorem yS.at {R:List (Int × Int)} {s:eG} {a b:bS} (h:yS R s a b) {x:Ev} {r:List Ev} (hq:a.q=x::r):match a.ev.getD x.x.toNat (.poll ⟨0,0,0,0⟩) with
  | .poll p=>b=pE R s { a with q:=r,tm:=x.t } x.t p
  | .req p h=>b=rP s { a with q:=r,tm:=x.t } x.t p h
  | .dep p h v=>b=BZ R s { a with q:=r,tm:=x.t } x.t p h v
  | .rep p h v=>I4 s { a with q:=r,tm:=x.t } x.t p h v b:=by
 obtain⟨y,r',h1,h2⟩:=h;rw[hq] at h1
 cases h1
 exact h2
theorem CY.go {R:List (Int × Int)} {s:eG} {a c:bS} (h:CY R s a c) {x:Ev} {r:List Ev} (hq:a.q=x::r):∃ b,yS R s a b/\CY R s b c:=by
 cases h with
 | done h=>rw[hq] at h;cases h
 | step h k=>exact⟨_,h,k⟩
theorem aw_run {R:List (Int × Int)} {st:bS} (h:CY R eO (newF eO xM) st):∃ m,st.mks=[m]/\m.at_=2000/\m.nd=1/\m.kd=7/\m.lo=900/\m.hi=3100:=by
 rw[aw_new] at h;have hm:=wM (R:=R) 0 0;obtain⟨b1,s1,k1⟩:=h.go (x:=⟨0,1,0⟩) (r:=[]) rfl;have e1:b1=awS1 (max (gL R 0 0) 1):=(s1.at (x:=⟨0,1,0⟩) (r:=[]) rfl:b1=pE R eO { awS0 with q:=[],tm:=0 } 0 ⟨1,0,0,0⟩).trans (aw_poll R);have h0:0<=max (gL R 0 0) 1:=by omega
 have h1:max (gL R 0 0) 1<=18446744073709551615:=by omega
 generalize max (gL R 0 0) 1=n at e1 h0 h1;subst e1;obtain⟨b2,s2,k2⟩:=k1.go (x:=⟨1000,2,1⟩) (r:=[]) rfl;obtain rfl:b2=awS2 n:=(s2.at (x:=⟨1000,2,1⟩) (r:=[]) rfl:b2=rP eO { awS1 n with q:=[],tm:=1000 } 1000 ⟨1,0,0,0⟩ (K7 n)).trans (aw_req n);obtain⟨b3,s3,k3⟩:=k2.go (x:=⟨1000,3,2⟩) (r:=[]) rfl;obtain rfl:b3=awS3 n:=(s3.at (x:=⟨1000,3,2⟩) (r:=[]) rfl:b3=BZ R eO { awS2 n with q:=[],tm:=1000 } 1000 ⟨1,0,0,0⟩ (rW n) ⟨900,1100⟩).trans (aw_dep R n);obtain⟨b4,s4,k4⟩:=k3.go (x:=⟨2000,4,3⟩) (r:=[]) rfl;have e4:I4 eO { awS3 n with q:=[],tm:=2000 } 2000 ⟨1,0,0,0⟩ (rW n) ⟨900,1100⟩ b4:=s4.at (x:=⟨2000,4,3⟩) (r:=[]) rfl;unfold I4 at e4;rw[show gQ { awS3 n with q:=[],tm:=2000 } ({ c:=1,i:=0,s:=0,n:=0 }:zP).c=some (yK n) from rfl] at e4;dsimp only at e4;rw[show bL eO 1 2000=2000 by kernel_rfl,RO] at e4;obtain⟨a,er,c2,hu,rfl⟩:=e4;obtain⟨q1,q2⟩:=aw_upd h0 h1 hu;dsimp only at k4;rw[if_pos q1,q2,(aw_b2 n).1] at k4
 cases k4 with
 | done _=>exact⟨_,rfl,rfl,rfl,rfl,rfl,rfl⟩
 | step h _ =>
  obtain⟨y,r',h1,_⟩:=h
  cases h1
end
section
theorem yX {α:Type} {ec:α->List Value} {s:Nat} (hs:∀ x,(ec x).length=s) {w:World} {b n:Nat} {t:TypeId} {l:List α} (h:w.heap[b]? = some (.cells (l.flatMap ec).toArray t (0,0))) (hn:n=l.length) (hm:l.length<=maxLen):aR ec s w (some ⟨b,0,none⟩) n n l:=by
 subst hn
 have hl:∀ l:List α,(l.flatMap ec).length=l.length*s:=by
  intro l;induction l with
  | nil=>simp
  | cons a r ih=>rw[List.flatMap_cons,List.length_append,ih,hs,List.length_cons,Nat.succ_mul,Nat.add_comm]
 refine aS.dI hs ⟨_,h,hl l,Nat.le_refl _,hm,?_⟩ rfl;rw[<-hl];exact List.take_length
theorem pair_at {wo w:World} {b:Nat} (g:Got w [⟨b+1+1+1+1+1,[.int .i64 0,.int .i64 1,.int .i64 1000,.int .i64 1000,.int .i64 0,.int .i64 0,.int .i64 0,.int .u64 0,.slice none 0 0],81,true⟩,
  ⟨b+1+1+1+1,[.int .i64 0,.slice (some ⟨b+1,0,none⟩) 1 1,.int .i64 0,.bool true,.int .i64 100,.int .i64 0,.slice none 0 0,.int .i64 0,.slice (some ⟨b+1,0,none⟩) 1 1,.int .i64 0,.bool false,.int .i64 0,.int .i64 0,.slice (some ⟨b+1+1+1,0,none⟩) 1 1],54,true⟩,
  ⟨b+1+1+1,[.int .i64 0],3,true⟩,⟨b+1+1,[.int .i64 0,.slice (some ⟨b+1,0,none⟩) 1 1],51,true⟩,⟨b+1,[.int .i64 0,.int .i64 0],48,true⟩,
  ⟨b,[.slice (some ⟨b+1+1+1+1,0,none⟩) 2 2,.slice (some ⟨b+1+1+1+1+1,0,none⟩) 1 1,.slice none 0 0,.int .i64 1000000,.int .u64 0],27,true⟩]) (o:Only [] wo w) :
  ∃ s:dU,Ending.returned (.agg #[.slice (some ⟨b+1+1+1+1,0,none⟩) 2 2,.slice (some ⟨b+1+1+1+1+1,0,none⟩) 1 1,.slice none 0 0,.int .i64 1000000,.int .u64 0])=.returned (fG s)/\s.Ok w/\s.sc=eO/\Only [] wo w:=by
 obtain⟨g1,g2,g3,-,g5,-⟩:=g
 refine⟨⟨[⟨⟨0,[⟨0,0⟩],0,true,100,0,[]⟩,some ⟨b+1,0,none⟩,1,none,0⟩,⟨⟨0,[⟨0,0⟩],0,false,0,0,[0]⟩,some ⟨b+1,0,none⟩,1,some ⟨b+1+1+1,0,none⟩,1⟩],
  [⟨⟨0,1,1000,1000,0,0,0,0,[]⟩,none,0⟩],[],1000000,0,some ⟨b+1+1+1+1,0,none⟩,2,some ⟨b+1+1+1+1+1,0,none⟩,1,none,0⟩,rfl,?_,rfl,o⟩
 have r5:aR SI 2 w (some ⟨b+1,0,none⟩) 1 1 [⟨0,0⟩]:=yX (ec:=SI) (s:=2) (l:=[(⟨0,0⟩:Sg)]) (fun _=>rfl) g5 rfl (show 1<=maxLen by decide);have r3:aR C9 1 w (some ⟨b+1+1+1,0,none⟩) 1 1 [0]:=yX (ec:=C9) (s:=1) (l:=[(0:Int)]) (fun _=>rfl) g3 rfl (show 1<=maxLen by decide);refine⟨yX (l:=[⟨⟨0,[⟨0,0⟩],0,true,100,0,[]⟩,some ⟨b+1,0,none⟩,1,none,0⟩,⟨⟨0,[⟨0,0⟩],0,false,0,0,[0]⟩,some ⟨b+1,0,none⟩,1,some ⟨b+1+1+1,0,none⟩,1⟩]) QT g2 rfl (show 2<=maxLen by decide),yX (l:=[⟨⟨0,1,1000,1000,0,0,0,0,[]⟩,none,0⟩]) QW g1 rfl (show 1<=maxLen by decide),uI w,fun x hx=>?_,fun x hx=>?_,show 2<=100000 by decide,show 1<=100000 by decide,show 0<=100000 by decide⟩
 ·simp only[List.mem_cons,List.not_mem_nil,or_false] at hx
  rcases hx with rfl|rfl
  ·exact⟨r5,uI w,show 1<=100000 by decide,show 0<=100000 by decide⟩
  ·exact⟨r5,r3,show 1<=100000 by decide,show 1<=100000 by decide⟩
 ·obtain rfl:=mem_singleton.1 hx
  exact⟨uI w,show 0<=100000 by decide⟩
theorem aR.I8 {w wr:World} {cap k:Nat} {p:Option Addr} {l:List lI} (hv:aR rQ 9 w p l.length cap l) (ho:Only [] w wr) (hk:k<l.length) :
  ∃ bk off,p=some ⟨bk,off,none⟩/\bk<wr.heap.size/\wr.cell? ⟨bk,off+k*9,none⟩=some (.int .i64 l[k].at_)/\wr.cell? ⟨bk,off+k*9+1,none⟩=some (.int .i64 l[k].nd)/\wr.cell? ⟨bk,off+k*9+2,none⟩=some (.int .i64 l[k].raw)/\wr.cell? ⟨bk,off+k*9+3,none⟩=some (.int .i64 l[k].clk)/\wr.cell? ⟨bk,off+k*9+4,none⟩=some (.int .i64 l[k].stp)/\wr.cell? ⟨bk,off+k*9+5,none⟩=some (.int .i64 l[k].lo)/\wr.cell? ⟨bk,off+k*9+6,none⟩=some (.int .i64 l[k].hi)/\wr.cell? ⟨bk,off+k*9+7,none⟩=some (.int .i64 l[k].kd)/\wr.cell? ⟨bk,off+k*9+8,none⟩=some (.int .i64 l[k].vl):=by
 obtain⟨b,off,hp,hb,hc⟩:=hv.cell k l[k] (List.getElem?_eq_getElem hk)
 have g:∀ j v,(rQ l[k])[j]? = some v->wr.cell? ⟨b,off+k*9+j,none⟩=some v:=fun j v hj=>by
  rw[ho.cell hb (by simp),Nat.add_assoc];exact hc j v hj
 exact⟨b,off,hp,Nat.lt_of_lt_of_le hb ho.size,g 0 _ rfl,g 1 _ rfl,g 2 _ rfl,g 3 _ rfl,g 4 _ rfl,g 5 _ rfl,g 6 _ rfl,g 7 _ rfl,g 8 _ rfl⟩
end
section
structure dU.Ok0 (w:World) (s:dU):Prop where
 nd:aR ndC 7 w s.pn s.nd.length s.cn s.nd
 lk:aR lkC 9 w s.pl s.lk.length s.cl s.lk
 ft:aR ftC 5 w s.pf s.ft.length s.cf s.ft
 ns:∀ x∈s.nd,aR SI 2 w x.ps x.n.sg.length x.cs x.n.sg/\aR C9 1 w x.pv x.n.sv.length x.cv x.n.sv
 ls:∀ x∈s.lk,aR chC 3 w x.p x.l.ch.length x.c x.l.ch
theorem dU.Ok0.ok {w:World} {s:dU} (h:s.Ok0 w) (hf:FewP s):s.Ok w:=by
 obtain⟨a1,a2,a3,a4,a5⟩:=hf;refine⟨h.nd,h.lk,h.ft,fun x hx=>?_,fun x hx=>?_,by omega,by omega,by omega⟩
 ·obtain⟨i,hi,rfl⟩:=List.getElem_of_mem hx
  have:=a4 i hi;rw[List.getD_eq_getElem?_getD,List.getElem?_eq_getElem hi] at this;exact⟨(h.ns _ hx).1,(h.ns _ hx).2,Nat.le_trans this.1 (by decide),Nat.le_trans this.2 (by decide)⟩
 ·obtain⟨i,hi,rfl⟩:=List.getElem_of_mem hx
  have:=a5 i hi;rw[List.getD_eq_getElem?_getD,List.getElem?_eq_getElem hi] at this;exact⟨h.ls _ hx,Nat.le_trans this (by decide)⟩
end
end Go.Proofs.YtppjhbjmfkiejaaGreat
