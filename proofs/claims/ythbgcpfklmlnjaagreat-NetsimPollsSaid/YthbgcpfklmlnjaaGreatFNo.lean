/- No Nq Nr Ns -/
import Derived.Test.YthbgcpfklmlnjaaGreatFV6
import Derived.Test.YthbgcpfklmlnjaaGreatFF1
import Derived.Test.YthbgcpfklmlnjaaGreatFNe
import Derived.Test.YthbgcpfklmlnjaaGreatFNf
import Derived.Test.YthbgcpfklmlnjaaGreatFAg7
import Derived.Test.YthbgcpfklmlnjaaGreatFMx
import Derived.Test.YthbgcpfklmlnjaaGreatFSb
import Derived.Test.YthbgcpfklmlnjaaGreatFJl
namespace Go.Proofs.YthbgcpfklmlnjaaGreat
open Go.RowKit
section
section
variable {P:Program} {w0 w:World} {S:List Nat} {L:List gJ} {Q:Exit->Act->World->Prop}
def rCok (l:List Oper) (hd:List Nat) (i:Nat) (pu:List Nat):Bool:=
 kI l hd [] [i] && (Region.ready .any l.toArray (eY l.length hd) == [i]) && gW .any l.toArray pu ((eY l.length hd).setIfInBounds i true) && pu.all (fun j=>decide (j<l.length)) && pu.all (fun j=>!([i]:List Nat).contains j) &&
  (Region.ready .any l.toArray (pu.foldl (fun l j=>l.setIfInBounds j true) ((eY l.length hd).setIfInBounds i true)) == []) && (l.length == hd.length+(pu.length+1)) && (pu.foldl (fun l j=>l.setIfInBounds j true) ((eY l.length hd).setIfInBounds i true)).getD i false
theorem rC {id:Nat} {a:Act} {l:List Oper} (hd:List Nat) (i:Nat) (pu:List Nat) [m:Mm w0 S w L] (hm:P.follows .mixedOrders=true) (hB:rCok l hd i pu=true)
  (h:bN P l.toArray w (fun a1=>∀ w1,Mm w0 S w1 L->Facts w1 L->wpOp P l.toArray (bG (pR Q)) i (fun a2 w2=>bL P l.toArray (fun _=>True) (fun a3=>∀ w3,Only [] w2 w3->Q .normal a3 w3) (pick l pu) a2) a1 w1) (pick l hd) a):(Code.region id l.toArray true).wp P Q a w:=by
 simp only[rCok,Bool.and_eq_true,beq_iff_eq] at hB;obtain⟨⟨⟨⟨⟨⟨⟨h1,h2⟩,h3⟩,h4⟩,h5⟩,h6⟩,h7⟩,h8⟩:=hB;simp only[kI,Bool.and_eq_true,decide_eq_true_eq] at h1;obtain⟨⟨⟨⟨⟨⟨⟨⟨hsel,htk⟩,htp⟩,hin⟩,hip⟩,hlen⟩,hht⟩,hdis⟩,hdip⟩:=h1;have hd':∀ j∈hd,j∈hd/\j ∉ [i]:=fun j hj=>⟨hj,by have:=List.all_eq_true.1 hdis j hj;simpa using this⟩;have hp':∀ j∈pu,j ∉ [i]:=fun j hj=>by have:=List.all_eq_true.1 h5 j hj;simpa using this
 have inv0:jG .any l.toArray [i] (Array.replicate l.length false):=
  ⟨by simp,fun j oj _ hl=>(by rw[getD_replicate_false] at hl;cases hl)⟩
 have hR:jI (pR Q):=fun a' w1 w2 g o w3 o3=>g w3 (o.aB o3)
 have k1:=sQ (P:=P) (R:=pR Q) (md:=.any) (W:=w) (f:=pu.length+1) (w:=w.drew) hR hsel hht hd (pick l hd) (Array.replicate l.length false) a (gK l hd hin) hd' inv0 htk
  (dR (fun a1 g inv=>by
   refine qA i h2 (.inr (aZ (Only.refl [] w).drew)) fun w1 o1=>?_;have o:Only [] w w1:=(Only.refl [] w).drew.aB o1;refine wpOp_mono (fun a2 w2 g2=>?_) (g w1 ⟨m.out.call o⟩ (m.out.call o).k);have hr:i∈Region.ready .any l.toArray (eY l.length hd):=by rw[h2];simp
   refine lZ (f:=0) hR hsel pu (pick l pu) _ a2 (gK l pu h4) hp' (inv.set hr) h3 (dJ (fun a3 g3=>?_) _ _ g2);exact l9 h6 (.inl ⟨i,by simp,h8⟩) g3) _ _ h)
 have k2:=sP _ _ _ _ k1;rw[show hd.length+(pu.length+1)=l.length by omega] at k2;refine Code.wp_mono (Q:=bG (pR Q)) (fun e a w q=>?_) (wp_region_any hm (by simpa using k2))
 cases e<;>first|exact q _ (Only.refl [] _)|exact q.elim
end
end
section
open Go.Sort
structure zP where
 c:Int
 i:Int
 s:Int
 n:Int
inductive EvS where
 | poll (t:zP)
 | req (t:zP) (h:Np)
 | dep (t:zP) (h:Np) (v:Iv)
 | rep (t:zP) (h:Np) (v:Iv)
def EvS.trp:EvS->zP
 | .poll t=>t
 | .req t _=>t
 | .dep t _ _=>t
 | .rep t _ _=>t
structure RB where
 at_:Int
 nd:Int
 raw:Int
 clk:Int
 stp:Int
 lo:Int
 hi:Int
 kd:Int
 vl:Int
structure Ent where
 k:Int
 n:Int
 p:Int
 m:Int
 t:Int
structure bS where
 cl:List (Option Cl)
 q:List Ev
 tm:Int
 pu:Int
 ev:List EvS
 sent:Int
 mks:List RB
 lgs:List Ent
def pO (e:Ev):List Ev->List Ev
 | []=>[e]
 | x::r=>if x.t<=e.t then x::pO e r else e::x::r
def aAb (q:List Ev):Prop:=q.Pairwise fun x y=>x.t<y.t\/(x.t=y.t/\x.i<y.i)
theorem kQ {e x:Ev}:∀ {q:List Ev},x∈pO e q↔x=e\/x∈q
 | []=>by simp[pO]
 |y :: r=>by
  unfold pO;split
  ·rw[List.mem_cons,kQ,List.mem_cons]
   constructor
   ·rintro (h|h | h)
    ·exact .inr (.inl h)
    ·exact .inl h
    ·exact .inr (.inr h)
   ·rintro (h|h | h)
    ·exact .inr (.inl h)
    ·exact .inl h
    ·exact .inr (.inr h)
  ·rw[List.mem_cons]
theorem JD (e:Ev):∀ (q:List Ev),(pO e q).length=q.length+1
 | []=>rfl
 |x::r=>by
  unfold pO;split
  ·rw[List.length_cons,JD,List.length_cons]
  ·rfl
theorem JC {e:Ev}:∀ {q:List Ev},aAb q->(∀ x∈q,x.i<e.i)->aAb (pO e q)
 | [],_,_=>by simp[pO,aAb]
 |x :: r,h,hi=>by
  obtain⟨h1,h2⟩:=List.pairwise_cons.1 h;unfold pO;split
  ·rename_i hx
   refine List.pairwise_cons.2 ⟨fun y hy=>?_,JC h2 fun y hy=>hi y (List.mem_cons_of_mem _ hy)⟩;rcases kQ.1 hy with rfl|hy
   ·have:=hi x (List.mem_cons_self ..)
    omega
   ·exact h1 y hy
  ·rename_i hx
   refine List.pairwise_cons.2 ⟨fun y hy=>?_,h⟩;rcases List.mem_cons.1 hy with rfl|hy
   ·omega
   ·have:=h1 y hy
    omega
def bJ (s:fC) (i:Int):Nd:=s.nd.getD i.toNat nd0
def bO (s:fC) (i t:Int):Int:=qK (bJ s i).ph (bJ s i).sg t
def wX (R:List (Int × Int)) (s:fC) (a b t n:Int):Option Int:=match DL s.lk a b with
 | none=>none
 | some (i,d)=>K3 R (s.lk.getD i yG) (if d=true then 1 else 0) t n
def eX (s:fC) (st:bS) (t:Int) (e:EvS):bS:=
 if s.un<t then st else
 if fJ 4096 st.tm st.q.length t=0 then { st with q:=pO ⟨t,st.pu+1,st.ev.length⟩ st.q,pu:=st.pu+1,ev:=st.ev ++ [e] } else st
def gQ (st:bS) (i:Int):Option Cl:=(st.cl.getD i.toNat none)
def dO (st:bS) (i:Int) (c:Cl):bS:={ st with cl:=st.cl.set i.toNat (some c) }
def iP (s:fC) (st:bS) (e:EvS) (t:Int):bS:=
 let x:Int × Int × Int × Int:=match e with
  | .poll p=>(1,p.c,p.s,2*p.n)
  | .req p _=>(2,p.s,p.c,2*p.n)
  | .dep p _ _=>(1,p.s,p.c,2*p.n+1)
  | .rep p _ _=>(2,p.c,p.s,2*p.n+1)
 { st with lgs:=st.lgs ++ [⟨x.1,x.2.1,x.2.2.1,x.2.2.2,if (bJ s x.2.1).rf=true then t else bO s x.2.1 t⟩] }
def pF (R:List (Int × Int)) (s:fC) (st:bS) (t:Int) (p:zP):bS:=
 let st1:=eX s st (t+16000000000) (.poll ⟨p.c,p.i,p.s,0⟩)
 match gQ st1 p.c with
 | none=>st1
 | some c =>
  let r:=dL c p.i (bO s p.c t) (max (gL R s.sd st1.sent) 1)
  let st2:=dO st1 p.c r.2
  if r.1.2=0 then
   let st3:={ st2 with sent:=st2.sent+1 }
   let st4:=match wX R s p.c p.s t st2.sent with
    | none=>st3
    | some u=>eX s st3 u (.req ⟨p.c,p.i,p.s,st2.sent⟩ r.1.1)
   iP s st4 (.poll ⟨p.c,p.i,p.s,st2.sent⟩) t
  else st2
def fA (s:fC) (st:bS) (i:Int) (h:Np) (t:Int):Np × Iv × Bool:=
  if (bJ s i).rf=true then
    (if (AU (bJ s i).er (i+1)).2=0 then
      ((xY h (lU (3900000000000000000+t)) (AU (bJ s i).er (i+1)).1).1,⟨t-(bJ s i).er,t+(bJ s i).er⟩,decide ((xY h (lU (3900000000000000000+t)) (AU (bJ s i).er (i+1)).1).2=0))
     else (yC,⟨0,0⟩,false))
  else match gQ st i with
    | none=>(yC,⟨0,0⟩,false)
    | some c =>
      if (aY c (bO s i t)).2=0/\(nN c (bO s i t)).2=0 then
        ((xY h (lU (3900000000000000000+(aY c (bO s i t)).1)) c.rt).1,(nN c (bO s i t)).1,decide ((xY h (lU (3900000000000000000+(aY c (bO s i t)).1)) c.rt).2=0))
      else (yC,⟨0,0⟩,false)
def rQ (s:fC) (st:bS) (t:Int) (p:zP) (h:Np):bS:=
 let a:=fA s st p.s h t
 let st1:=if a.2.2=true then
   (if (lV s.ft p.s t a.1 a.2.1).drop=true then st else eX s st (t+(lV s.ft p.s t a.1 a.2.1).hold) (.dep p (lV s.ft p.s t a.1 a.2.1).hd (lV s.ft p.s t a.1 a.2.1).iv))
  else st
 iP s st1 (.req p h) t
def BU (R:List (Int × Int)) (s:fC) (st:bS) (t:Int) (p:zP) (h:Np) (v:Iv):bS:=
 iP s (match wX R s p.s p.c t p.n with
  | none=>st
  | some u=>eX s st u (.rep p h v)) (.dep p h v) t
def IK (s:fC) (st:bS) (t:Int) (p:zP) (h:Np) (v:Iv) (st':bS):Prop:=
 match gQ st p.c with
 | none=>False
 | some c=>∃ a er c2,yQ (fF c p.i h v true (bO s p.c t)).2 (bO s p.c t) a er c2 /\
   st'=iP s (if (aY c2 (bO s p.c t)).2=0 then
    { dO st p.c c2 with mks:=st.mks ++ [⟨t,p.c,bO s p.c t,(aY c2 (bO s p.c t)).1,c2.ck.steps,(nN c2 (bO s p.c t)).1.lo,(nN c2 (bO s p.c t)).1.hi,(fF c p.i h v true (bO s p.c t)).1.1.kind,a.kind⟩] }
    else dO st p.c c2) (.rep p h v) t
def yR (R:List (Int × Int)) (s:fC) (st st':bS):Prop:=
 ∃ x r,st.q=x::r/\match st.ev.getD x.x.toNat (.poll ⟨0,0,0,0⟩) with
  | .poll p=>st'=pF R s { st with q:=r,tm:=x.t } x.t p
  | .req p h=>st'=rQ s { st with q:=r,tm:=x.t } x.t p h
  | .dep p h v=>st'=BU R s { st with q:=r,tm:=x.t } x.t p h v
  | .rep p h v=>IK s { st with q:=r,tm:=x.t } x.t p h v st'
inductive CZ (R:List (Int × Int)) (s:fC):bS->bS->Prop
 | done {st:bS} (h:st.q=[]):CZ R s st st
 | step {a b c:bS} (h:yR R s a b) (k:CZ R s b c):CZ R s a c
theorem RO {l:List Cd} {x:List Int × Iv} (hg:Gd l) (hs:sel l=some x):F3 l=0:=by
 unfold F3;rw[if_pos (mH.2 hg),hs]
end
section
open Go.Sort
def sgm (s:Sg):Sgm:=⟨s.a,s.p⟩
theorem UY {l:List Sg} {t:Int} (ht:t<=1125899906842624):∀ (d k:Nat),k+d=l.length ->
  ((List.range' k d).map fun i=>(xV l i).1.p*jY t (xV l i)).sum=gn ((l.drop k).map sgm) t
 |0,k,h=>by
  rw[List.drop_eq_nil_of_le (by omega)];rfl
 |d+1,k,h=>by
  have hk:k<l.length:=by omega
  have hg:l.getD k jS=l[k]:=by rw[List.getD_eq_getElem?_getD,List.getElem?_eq_getElem hk];rfl
  rw[List.range'_succ,List.map_cons,List.sum_cons,UY ht d (k+1) (by omega),List.drop_eq_getElem_cons hk];by_cases h1:k+1<l.length
  ·have hg1:l.getD (k+1) jS=l[k+1]:=by rw[List.getD_eq_getElem?_getD,List.getElem?_eq_getElem h1];rfl
   rw[List.drop_eq_getElem_cons h1];unfold xV TH jY;rw[hg,if_pos h1,hg1];show _=max 0 (min t (l[k+1]).a-(l[k]).a)*(l[k]).p+_
   rw[Int.mul_comm];rfl
  ·rw[List.drop_eq_nil_of_le (by omega)]
   unfold xV TH jY;rw[hg,if_neg h1];show _=max 0 (t-(l[k]).a)*(l[k]).p
   have:min t 1125899906842624=t:=by omega
   dsimp only;rw[this,Int.mul_comm];show _+0=_
   omega
theorem PV {ph t:Int} {l:List Sg} (ht:t<=1125899906842624):qK ph l t=rdO ph (l.map sgm) t:=by
 have:=UY (l:=l) ht l.length 0 (by omega);unfold qK rdO xS oF;rw[List.map_map,List.range_eq_range'];rw[List.drop_zero] at this;rw[<-this];rfl
theorem osc_srt {ph:Int} {l:List Sg} (h:cZ ph l=0):Srt (l.map sgm):=by
 have key:∀ (l:List Sg),(∀ k (hk:k<l.length) (h1:0<k),(l[k-1]'(by omega)).a<l[k].a)->Srt (l.map sgm):=by
  intro l;induction l with
  | nil=>exact fun _=>trivial
  | cons s r ih =>
   intro hs
   cases r with
   | nil=>trivial
   | cons s' r =>
    refine⟨hs 1 (by simp) (by decide),ih fun k hk h1=>?_⟩;have:=hs (k+1) (by simpa using hk) (by omega);obtain⟨j,rfl⟩:∃ j,k=j+1:=⟨k-1,by omega⟩;simpa using this
 exact key l fun k hk h1=>((uM h).2.2.2 k hk).2.2.2 h1
theorem osc_msr {ph:Int} {l:List Sg} (h:cZ ph l=0) {a b:Int} (ha:0<=a) (hb:a<=b):msr (l.map sgm) b-msr (l.map sgm) a=b-a:=by
 have hk:=uM h;have h0:=(hk.2.2.2 0 hk.1).2.2.1 rfl
 cases l with
 | nil=>exact absurd hk.1 (by simp)
 | cons s r =>
  simp only[List.getElem_cons_zero] at h0;show max 0 (b-s.a)-max 0 (a-s.a)=b-a
  rw[h0];omega
theorem osc_p {B:Int} {l:List Sg} (h:∀ s∈l,-B<=s.p/\s.p<=B):∀ s∈l.map sgm,-B<=s.p/\s.p<=B:=by
 intro s hs;obtain⟨x,hx,rfl⟩:=List.mem_map.1 hs;exact h x hx
theorem X9 {ph:Int} {l:List Sg} (h:cZ ph l=0) {a b:Int} (ha:0<=a) (hb:a<=b) (h1:b<=1125899906842624):qK ph l a<=qK ph l b/\qK ph l b-qK ph l a<=2*(b-a):=by
 have hp:∀ s∈l,-500000<=s.p/\s.p<=500000:=fun s hs=>by
  obtain⟨i,hi,rfl⟩:=List.getElem_of_mem hs;exact ((uM h).2.2.2 i hi).2.1
 have hl:=YU hb (l.map sgm) (B:=500000) (osc_p hp) (osc_srt h);rw[osc_msr h ha hb] at hl;rw[PV (by omega),PV h1];unfold rdO;generalize gn (l.map sgm) b=x at hl |-;generalize gn (l.map sgm) a=y at hl |-;omega
theorem X8 {ph:Int} {l:List Sg} (h:cZ ph l=0):qK ph l 0=ph:=by
 have key:∀ x∈oF l,x.1.p*jY 0 x=0:=by
  intro x hx;have:=(I4 h x hx).1.1;have:jY 0 x=0:=by unfold jY;omega
  rw[this,Int.mul_zero]
 have:xS 0 (oF l)=0:=by
  unfold xS;generalize oF l=q at key;induction q with
  | nil=>rfl
  | cons x r ih =>
   rw[List.map_cons,List.sum_cons,key x (List.mem_cons_self ..),ih fun y hy=>key y (List.mem_cons_of_mem _ hy)];rfl
 unfold qK;rw[this];omega
theorem GD {ph t:Int} {l:List Sg} (h:cZ ph l=0) (h0:0<=t) (h1:t<=1125899906842624): -1125899906842624<=qK ph l t/\qK ph l t<=3377699720527872:=by
 have a:=X9 h (Int.le_refl 0) h0 h1;rw[X8 h] at a;have:=(uM h).2.2.1;omega
end
section
open Go.Sort
inductive Tag where
 | W
 | Q
 | A
 | C (i:Nat)
 | E
 | V (j:Nat)
 | M
 | L
deriving DecidableEq
def UU (t:zP):List Value:=[.int .i64 t.c,.int .i64 t.i,.int .i64 t.s,.int .i64 t.n]
def YC (p:Np):List Value:=[.int .i64 p.leap,.int .i64 p.ver,.int .i64 p.mode,.int .i64 p.strat,.int .i64 p.poll,.int .i64 p.prec,.int .u32 p.rdel,.int .u32 p.rdsp,.int .u32 p.rid,.int .u64 p.ref,.int .u64 p.org,.int .u64 p.rcv,.int .u64 p.xmt]
def vL:EvS->List Value
 | .poll t=>UU t
 | .req t h=>UU t ++ YC h
 | .dep t h v=>UU t ++ YC h ++ [.int .i64 v.lo,.int .i64 v.hi]
 | .rep t h v=>UU t ++ YC h ++ [.int .i64 v.lo,.int .i64 v.hi]
def wR:EvS->TypeId
 | .poll _=>96
 | .req _ _=>154
 | .dep _ _ _=>157
 | .rep _ _ _=>159
def ER:EvS->TypeId
 | .poll _=>92
 | .req _ _=>152
 | .dep _ _ _=>155
 | .rep _ _ _=>158
def evN (x:TypeId × Nat):List Value:=[.iface x.1 (.pointer (some ⟨x.2,0,none⟩))]
theorem zJ (x:TypeId × Nat):(evN x).length=1:=rfl
def ptC (o:Option Nat):List Value:=[.pointer (o.map fun b=>⟨b,0,none⟩)]
theorem OM (o:Option Nat):(ptC o).length=1:=rfl
def YE (m:RB):List Value:=[.int .i64 m.at_,.int .i64 m.nd,.int .i64 m.raw,.int .i64 m.clk,.int .i64 m.stp,.int .i64 m.lo,.int .i64 m.hi,.int .i64 m.kd,.int .i64 m.vl]
theorem zC (m:RB):(YE m).length=9:=rfl
def lgC (x:Ent):List Value:=[.int .i64 x.k,.int .i64 x.n,.int .i64 x.p,.int .i64 x.m,.int .i64 x.t,.int .i64 0]
theorem GK (x:Ent):(lgC x).length=6:=rfl
structure j5 where
 bw:Nat
 ca:Nat
 qb:Nat
 F:List Nat
 pl:List (Option Pl)
 ve:Value
 vm:Value
 vl:Value
 eb:List (TypeId × Nat)
 l:List Ev
abbrev Col:=Nat->Option Tag
def Q8 (w:World) (own:Col) (s:dU) (p:j5) (st:bS):Prop:=own p.bw=some .W /\
 w.heap[p.bw]? = some (.cells #[.slice s.pn s.nd.length s.cn,.slice s.pl s.lk.length s.cl,.slice s.pf s.ft.length s.cf,.int .i64 s.un,.int .u64 s.sd,.slice (some ⟨p.ca,0,none⟩) s.nd.length s.nd.length,.pointer (some ⟨p.qb,0,none⟩),p.ve,.int .i64 st.sent,p.vm,p.vl] 74 (0,0))
def AAt (w:World) (own:Col) (n:Nat) (p:j5):Prop:=own p.ca=some .A/\p.pl.length=n/\aP ptC 89 1 w p.ca n (p.pl.map (Option.map Pl.bc))
def CAt (w:World) (own:Col) (pl:List (Option Pl)) (cl:List (Option Cl)):Prop:=pl.length=cl.length /\
 ∀ (i:Nat) (h1:i<pl.length) (h2:i<cl.length),match pl[i],cl[i] with
  | some P,some c=>bP w P c/\∀ b∈P.all,own b=some (.C i)
  | none,none=>True
  | _,_=>False
def QAt (w:World) (own:Col) (p:j5) (st:bS):Prop:=
 C9 w p.qb p.F 4096 st.tm st.pu p.l/\(∀ b∈p.F,own b=some .Q)/\(∀ e,e∈p.l↔e∈st.q)/\p.l.length=st.q.length
def SAt {α:Type} (enc:α->List Value) (e:TypeId) (s:Nat) (B:Nat) (w:World) (own:Col) (t:Tag) (v:Value) (l:List α):Prop:=
 Own enc e s B w v l/\∀ g∈v.ownBlock.toList,own g=some t
def EAt (w:World) (own:Col) (p:j5) (st:bS):Prop:=p.eb.length=st.ev.length /\
 ∀ x∈st.q,∃ (j:Nat) (e:EvS) (b:Nat),x.x=j/\st.ev[j]? = some e/\p.eb[j]? = some (ER e,b)/\w.heap[b]? = some (.cells (vL e).toArray (wR e) (0,0))/\own b=some (.V j)
structure aT (w0 w:World) (own:Col) (s:dU) (p:j5) (st:bS):Prop where
 only:Only [] w0 w
 lt:∀ b t,own b=some t->w0.heap.size<=b/\b<w.heap.size
 wa:Q8 w own s p st
 aa:AAt w own s.nd.length p
 ca:CAt w own p.pl st.cl
 qa:QAt w own p st
 ev:SAt evN 102 1 w0.heap.size w own .E p.ve p.eb
 ea:EAt w own p st
 ms:SAt YE 61 9 w0.heap.size w own .M p.vm st.mks
 ls:SAt lgC 151 6 w0.heap.size w own .L p.vl st.lgs
variable {w w':World} {own:Col} {S:List Nat}
theorem wH {b:Nat} {t:Tag} (hb:own b=some t) (hS:∀ x∈S,own x≠some t):b ∉ S:=fun h=>hS b h hb
theorem Q8.kept {s:dU} {p:j5} {st:bS} (h:Q8 w own s p st) (ho:Only S w w') (hS:∀ x∈S,own x≠some .W):Q8 w' own s p st:=
 ⟨h.1,ho.got h.2 (wH h.1 hS)⟩
theorem AAt.kept {n:Nat} {p:j5} (h:AAt w own n p) (ho:Only S w w') (hS:∀ x∈S,own x≠some .A):AAt w' own n p:=
 ⟨h.1,h.2.1,h.2.2.kept ho (wH h.1 hS)⟩
theorem CAt.kept {pl:List (Option Pl)} {cl:List (Option Cl)} (h:CAt w own pl cl) (ho:Only S w w') (hS:∀ x∈S,∀ i,own x≠some (.C i)):CAt w' own pl cl:=by
 refine⟨h.1,fun i h1 h2=>?_⟩;have:=h.2 i h1 h2;revert this
 cases pl[i]<;>cases cl[i]<;>dsimp only
 ·exact id
 ·exact id
 ·exact id
 ·exact fun ⟨q1,q2⟩=>⟨q1.off ho fun b hb=>wH (q2 b hb) fun x hx=>hS x hx i,q2⟩
theorem QAt.kept {p:j5} {st:bS} (h:QAt w own p st) (ho:Only S w w') (hS:∀ x∈S,own x≠some .Q):QAt w' own p st:=
 ⟨h.1.kept ho fun k hk=>wH (h.2.1 k hk) hS,h.2⟩
theorem SAt.kept {α:Type} {enc:α->List Value} {e:TypeId} {s B:Nat} {t:Tag} {v:Value} {l:List α} (h:SAt enc e s B w own t v l) (ho:Only S w w') (hS:∀ x∈S,own x≠some t):SAt enc e s B w' own t v l:=by
 refine⟨?_,h.2⟩;rcases h.1 with h1|⟨g,cap,rfl,hB,hr⟩
 ·exact .inl h1
 ·exact .inr ⟨g,cap,rfl,hB,hr.kept ho (wH (h.2 g (by simp[Value.ownBlock])) hS)⟩
theorem EAt.kept {p:j5} {st:bS} (h:EAt w own p st) (ho:Only S w w') (hS:∀ x∈S,∀ y∈st.q,∀ j:Nat,y.x=j->own x≠some (.V j)):EAt w' own p st:=by
 refine⟨h.1,fun x hx=>?_⟩;obtain⟨j,e,b,h1,h2,h3,h4,h5⟩:=h.2 x hx;exact⟨j,e,b,h1,h2,h3,ho.got h4 (wH h5 fun y hy=>hS y hy x hx j h1),h5⟩
theorem aT.kept {w0:World} {s:dU} {p:j5} {st:bS} (h:aT w0 w own s p st) (ho:Only [] w w'):aT w0 w' own s p st:=
 ⟨h.only.trans ho (by simp),fun b t hb=>⟨(h.lt b t hb).1,Nat.lt_of_lt_of_le (h.lt b t hb).2 ho.size⟩,h.wa.kept ho (by simp),h.aa.kept ho (by simp),h.ca.kept ho (by simp),h.qa.kept ho (by simp),h.ev.kept ho (by simp),h.ea.kept ho (by simp),h.ms.kept ho (by simp),h.ls.kept ho (by simp)⟩
def Ext (o o':Col):Prop:=∀ b t,o b=some t->o' b=some t
variable {own':Col}
theorem Q8.ext {s:dU} {p:j5} {st:bS} (h:Q8 w own s p st) (x:Ext own own'):Q8 w own' s p st:=⟨x _ _ h.1,h.2⟩
theorem AAt.ext {n:Nat} {p:j5} (h:AAt w own n p) (x:Ext own own'):AAt w own' n p:=⟨x _ _ h.1,h.2⟩
theorem CAt.ext {pl:List (Option Pl)} {cl:List (Option Cl)} (h:CAt w own pl cl) (x:Ext own own'):CAt w own' pl cl:=by
 refine⟨h.1,fun i h1 h2=>?_⟩;have:=h.2 i h1 h2;revert this
 cases pl[i]<;>cases cl[i]<;>dsimp only
 ·exact id
 ·exact id
 ·exact id
 ·exact fun ⟨q1,q2⟩=>⟨q1,fun b hb=>x _ _ (q2 b hb)⟩
theorem QAt.ext {p:j5} {st:bS} (h:QAt w own p st) (x:Ext own own'):QAt w own' p st:=⟨h.1,fun b hb=>x _ _ (h.2.1 b hb),h.2.2⟩
theorem SAt.ext {α:Type} {enc:α->List Value} {e:TypeId} {s B:Nat} {t:Tag} {v:Value} {l:List α} (h:SAt enc e s B w own t v l) (x:Ext own own'):SAt enc e s B w own' t v l:=⟨h.1,fun b hb=>x _ _ (h.2 b hb)⟩
theorem EAt.ext {p:j5} {st:bS} (h:EAt w own p st) (x:Ext own own'):EAt w own' p st:=by
 refine⟨h.1,fun y hy=>?_⟩;obtain⟨j,e,b,h1,h2,h3,h4,h5⟩:=h.2 y hy;exact⟨j,e,b,h1,h2,h3,h4,x _ _ h5⟩
theorem aT.ext {w0:World} {s:dU} {p:j5} {st:bS} (h:aT w0 w own s p st) (x:Ext own own') (hl:∀ b t,own' b=some t->w0.heap.size<=b/\b<w.heap.size):aT w0 w own' s p st:=
 ⟨h.only,hl,h.wa.ext x,h.aa.ext x,h.ca.ext x,h.qa.ext x,h.ev.ext x,h.ea.ext x,h.ms.ext x,h.ls.ext x⟩
def dG (own:Col) (l:List Nat) (t:Tag):Col:=fun b=>if b∈l then some t else own b
theorem wC {l:List Nat} {t:Tag} (h:∀ b∈l,own b=some t\/own b=none):Ext own (dG own l t):=fun b u hb=>by
 unfold dG;split
 ·rename_i hm
  rcases h b hm with q|q
  ·rw[q] at hb;exact hb
  ·rw[q] at hb;cases hb
 ·exact hb
theorem iB {l:List Nat} {t:Tag} {b:Nat} (h:b∈l):dG own l t b=some t:=by unfold dG;rw[if_pos h]
theorem bQ {l:List Nat} {t:Tag} {b:Nat} (h:b ∉ l):dG own l t b=own b:=by unfold dG;rw[if_neg h]
theorem aT.fresh {w0:World} {s:dU} {p:j5} {st:bS} (h:aT w0 w own s p st) {b:Nat} (hb:w.heap.size<=b):own b=none:=by
 cases hq:own b with
 | none=>rfl
 | some t=>have:=(h.lt b t hq).2;omega
theorem iN {α:Type} {P:Program} {w:World} {ops:Array Oper} {rest:List Oper} {o:Oper} {a:Act} {Q:Exit->Act->World->Prop} (hgd:o.guard=none) (sO xO:Operand) (t:TypeId)
  (ho:o.op=.call { callee:=.builtin .append,args:=#[sO,xO],argTypes:=#[t,t] })
  (e:TypeId) (z:Value) (size bytes B:Nat) (ht:P.underlying t=some (.slice e)) (hi:(P.info? e).map (fun i=>(i.zero,i.size,i.bytes))=some (some z,size,bytes)) (hzs:z.cells.size=size) (hsz:0<size)
  (enc:α->List Value) (hs:∀ x,(enc x).length=size) (h1c:∀ x,∀ u∈enc x,u.oneCell'=true) (l:List α) (v:Value) (hv:a.eval sO=v) (hown:Own enc e size B w v l)
  (ad:Nat) (x:α) (hx:a.eval xO=.slice (some ⟨ad,0,none⟩) 1 1) (hnews:∀ j u,(enc x)[j]? = some u->w.cell? ⟨ad,j,none⟩=some u)
  (hlen:l.length+1<=maxLen) (hby:(l.length+1)*bytes<=140737488355328) (hB:B<=w.heap.size)
  (hK:∀ v' w',Own enc e size B w' v' (l ++ [x])->(∀ k∈v'.ownBlock.toList,k∈v.ownBlock.toList\/w.heap.size<=k)->Only v.ownBlock.toList w w'->wpList P ops Q rest (a.put o.dst v') w'):wpList P ops Q (o::rest) a w:=by
 cases hi':P.info? e with
 | none=>rw[hi'] at hi;simp at hi
 | some i =>
  rw[hi'] at hi;simp only[Option.map_some,Option.some.injEq,Prod.mk.injEq] at hi;obtain⟨z1,z2,z3⟩:=hi;have hadd:∀ j,(⟨ad,0,none⟩:Addr).add j=⟨ad,j,none⟩:=fun j=>by rw[addr_add];simp
  have hfl:(l ++ [x]).flatMap enc=l.flatMap enc ++ enc x:=by simp
  have hblk:w.ownsRow 0 e size v l.length (l.flatMap enc):=by
   rcases hown with ⟨rfl,rfl⟩|⟨g,cap,rfl,_,h3⟩
   ·exact⟨by simp,.inl ⟨rfl,rfl⟩⟩
   ·exact h3.owns hs (Nat.zero_le _)
  have hge:∀ k,v.ownBlock=some k->B<=k:=by
   intro k hk;rcases hown with ⟨rfl,rfl⟩|⟨g,cap,rfl,h2,_⟩
   ·simp[Value.ownBlock] at hk
   ·simp only[Value.ownBlock,Option.some.injEq] at hk;omega
  refine cB hgd sO xO t ho e i z size bytes ht hi' z1 z2 z3 hzs hsz v l.length (l.flatMap enc) hv hblk ⟨ad,0,none⟩ 1 1 (enc x) hx (by rw[hs];omega) (fun j u hj=>by rw[hadd];exact hnews j u hj) (h1c x) hlen hby (by decide) ?_;intro g' cap' w' hown' ho' hg';rw[<-hfl] at hown';refine hK _ _ (.inr ⟨g',cap',by simp,?_,aP.kG hown' (by simp)⟩) ?_ ho'
  ·rcases hg' with h|rfl
   ·exact hge _ h
   ·exact hB
  ·intro k hk
   simp only[Value.ownBlock,Option.toList_some,List.mem_singleton] at hk;subst hk;rcases hg' with h|rfl
   ·exact .inl (by rw[h];simp)
   ·exact .inr (Nat.le_refl _)
end
end Go.Proofs.YthbgcpfklmlnjaaGreat
