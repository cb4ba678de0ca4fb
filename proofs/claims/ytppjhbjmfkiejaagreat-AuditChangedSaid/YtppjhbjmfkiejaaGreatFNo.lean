/- No Nq Nr Ns Nt Nu Nv -/
import Derived.Test.YtppjhbjmfkiejaaGreatFV6
import Derived.Test.YtppjhbjmfkiejaaGreatFF1
import Derived.Test.YtppjhbjmfkiejaaGreatFNe
import Derived.Test.YtppjhbjmfkiejaaGreatFAg7
import Derived.Test.YtppjhbjmfkiejaaGreatFMx
import Derived.Test.YtppjhbjmfkiejaaGreatFSb
import Derived.Test.YtppjhbjmfkiejaaGreatFJl
import Derived.Test.YtppjhbjmfkiejaaGreatFNj
namespace Go.Proofs.YtppjhbjmfkiejaaGreat
set_option linter.all false
open List (map_cons mem_cons mem_singleton pairwise_cons sum_cons)
set_option maxRecDepth 100000
set_option maxHeartbeats 8000000
open Go.RowKit
section
variable {P:Program} {w0 w:World} {S:List Nat} {L:List gG} {Q:Exit->Act->World->Prop}
def rCok (l:List Oper) (hd:List Nat) (i:Nat) (pu:List Nat):Bool:=
 kR l hd [] [i] && (Region.ready .any l.toArray (fF l.length hd) == [i]) && iB .any l.toArray pu ((fF l.length hd).setIfInBounds i true) && pu.all (fun j=>decide (j<l.length)) && pu.all (fun j=>!([i]:List Nat).contains j) &&
  (Region.ready .any l.toArray (pu.foldl (fun l j=>l.setIfInBounds j true) ((fF l.length hd).setIfInBounds i true)) == []) && (l.length == hd.length+(pu.length+1)) && (pu.foldl (fun l j=>l.setIfInBounds j true) ((fF l.length hd).setIfInBounds i true)).getD i false
theorem rC {id:Nat} {a:Act} {l:List Oper} (hd:List Nat) (i:Nat) (pu:List Nat) [m:Mm w0 S w L] (hm:P.follows .mixedOrders=true) (hB:rCok l hd i pu=true)
  (h:bM P l.toArray w (fun a1=>∀ w1,Mm w0 S w1 L->Facts w1 L->wpOp P l.toArray (bA (pI Q)) i (fun a2 w2=>bL P l.toArray (fun _=>True) (fun a3=>∀ w3,Oy [] w2 w3->Q .normal a3 w3) (pick l pu) a2) a1 w1) (pick l hd) a):(Code.region id l.toArray true).wp P Q a w:=by
 simp only[rCok,Bool.and_eq_true,beq_iff_eq] at hB;obtain⟨⟨⟨⟨⟨⟨⟨h1,h2⟩,h3⟩,h4⟩,h5⟩,h6⟩,h7⟩,h8⟩:=hB;simp only[kR,Bool.and_eq_true,decide_eq_true_eq] at h1;obtain⟨⟨⟨⟨⟨⟨⟨⟨hsel,htk⟩,htp⟩,hin⟩,hip⟩,hlen⟩,hht⟩,hdis⟩,hdip⟩:=h1;have hd':∀ j∈hd,j∈hd/\j ∉ [i]:=fun j hj=>⟨hj,by have:=List.all_eq_true.1 hdis j hj;simpa using this⟩;have hp':∀ j∈pu,j ∉ [i]:=fun j hj=>by have:=List.all_eq_true.1 h5 j hj;simpa using this
 have inv0:jL .any l.toArray [i] (Array.replicate l.length false):=
  ⟨by simp,fun j oj _ hl=>(by rw[getD_replicate_false] at hl;cases hl)⟩
 have hR:jP (pI Q):=fun a' w1 w2 g o w3 o3=>g w3 (o.aB o3)
 have k1:=uE (P:=P) (R:=pI Q) (md:=.any) (W:=w) (f:=pu.length+1) (w:=w.drew) hR hsel hht hd (pick l hd) (Array.replicate l.length false) a (gT l hd hin) hd' inv0 htk
  (dU (fun a1 g inv=>by
   refine qJ i h2 (.inr (bC (aR [] w).drew)) fun w1 o1=>?_;have o:Oy [] w w1:=(aR [] w).drew.aB o1;refine wpOp_mono (fun a2 w2 g2=>?_) (g w1 ⟨m.out.call o⟩ (m.out.call o).k);have hr:i∈Region.ready .any l.toArray (fF l.length hd):=by rw[h2];simp
   refine mM (f:=0) hR hsel pu (pick l pu) _ a2 (gT l pu h4) hp' (inv.set hr) h3 (dN (fun a3 g3=>?_) _ _ g2);exact mO h6 (.inl ⟨i,by simp,h8⟩) g3) _ _ h)
 have k2:=uD _ _ _ _ k1;rw[show hd.length+(pu.length+1)=l.length by omega] at k2;refine Code.wp_mono (Q:=bA (pI Q)) (fun e a w q=>?_) (wp_region_any hm (by simpa using k2))
 cases e<;>first|exact q _ (aR [] _)|exact q.elim
end
section
open Go.Sort
structure AJ where
 c:Int
 i:Int
 s:Int
 n:Int
inductive EvS where
 | poll (t:AJ)
 | req (t:AJ) (h:Np)
 | dep (t:AJ) (h:Np) (v:Iv)
 | rep (t:AJ) (h:Np) (v:Iv)
def EvS.trp:EvS->AJ
 | .poll t=>t
 | .req t _=>t
 | .dep t _ _=>t
 | .rep t _ _=>t
structure iD where
 at_:Int
 nd:Int
 raw:Int
 clk:Int
 stp:Int
 lo:Int
 hi:Int
 kd:Int
 vl:Int
structure Ent where
 k:Int
 n:Int
 p:Int
 m:Int
 t:Int
structure bT where
 cl:List (Option Cl)
 q:List Ev
 tm:Int
 pu:Int
 ev:List EvS
 sent:Int
 mks:List iD
 lgs:List Ent
def qD (e:Ev):List Ev->List Ev
 | []=>[e]
 | x::r=>if x.t<=e.t then x::qD e r else e::x::r
def QSrt (q:List Ev):Prop:=q.Pairwise fun x y=>x.t<y.t\/(x.t=y.t/\x.i<y.i)
theorem lD {e x:Ev}:∀ {q:List Ev},x∈qD e q↔x=e\/x∈q
 | []=>by simp[qD]
 |y :: r=>by
  unfold qD;split
  ·rw[mem_cons,lD,mem_cons]
   constructor
   ·rintro (h|h | h)
    ·exact .inr (.inl h)
    ·exact .inl h
    ·exact .inr (.inr h)
   ·rintro (h|h | h)
    ·exact .inr (.inl h)
    ·exact .inl h
    ·exact .inr (.inr h)
  ·rw[mem_cons]
theorem J3 (e:Ev):∀ (q:List Ev),(qD e q).length=q.length+1
 | []=>rfl
 |x::r=>by
  unfold qD;split
  ·rw[List.length_cons,J3,List.length_cons]
  ·rfl
theorem J2 {e:Ev}:∀ {q:List Ev},QSrt q->(∀ x∈q,x.i<e.i)->QSrt (qD e q)
 | [],_,_=>by simp[qD,QSrt]
 |x :: r,h,hi=>by
  obtain⟨h1,h2⟩:=pairwise_cons.1 h;unfold qD;split
  ·rename_i hx
   refine pairwise_cons.2 ⟨fun y hy=>?_,J2 h2 fun y hy=>hi y (List.mem_cons_of_mem _ hy)⟩;rcases lD.1 hy with rfl|hy
   ·have:=hi x (List.mem_cons_self ..)
    omega
   ·exact h1 y hy
  ·rename_i hx
   refine pairwise_cons.2 ⟨fun y hy=>?_,h⟩;rcases mem_cons.1 hy with rfl|hy
   ·omega
   ·have:=h1 y hy
    omega
def bX (s:eU) (i:Int):Nd:=s.nd.getD i.toNat nd0
def bN (s:eU) (i t:Int):Int:=qR (bX s i).ph (bX s i).sg t
def xV (R:List (Int × Int)) (s:eU) (a b t n:Int):Option Int:=match UN s.lk a b with
 | none=>none
 | some (i,d)=>LX R (s.lk.getD i zS) (if d=true then 1 else 0) t n
def fE (s:eU) (st:bT) (t:Int) (e:EvS):bT:=
 if s.un<t then st else
 if fU 4096 st.tm st.q.length t=0 then { st with q:=qD ⟨t,st.pu+1,st.ev.length⟩ st.q,pu:=st.pu+1,ev:=st.ev ++ [e] } else st
def gW (st:bT) (i:Int):Option Cl:=(st.cl.getD i.toNat none)
def dS (st:bT) (i:Int) (c:Cl):bT:={ st with cl:=st.cl.set i.toNat (some c) }
def iW (s:eU) (st:bT) (e:EvS) (t:Int):bT:=
 let x:Int × Int × Int × Int:=match e with
  | .poll p=>(1,p.c,p.s,2*p.n)
  | .req p _=>(2,p.s,p.c,2*p.n)
  | .dep p _ _=>(1,p.s,p.c,2*p.n+1)
  | .rep p _ _=>(2,p.c,p.s,2*p.n+1)
 { st with lgs:=st.lgs ++ [⟨x.1,x.2.1,x.2.2.1,x.2.2.2,if (bX s x.2.1).rf=true then t else bN s x.2.1 t⟩] }
def pX (R:List (Int × Int)) (s:eU) (st:bT) (t:Int) (p:AJ):bT:=
 let st1:=fE s st (t+16000000000) (.poll ⟨p.c,p.i,p.s,0⟩)
 match gW st1 p.c with
 | none=>st1
 | some c =>
  let r:=dP c p.i (bN s p.c t) (max (gU R s.sd st1.sent) 1)
  let st2:=dS st1 p.c r.2
  if r.1.2=0 then
   let st3:={ st2 with sent:=st2.sent+1 }
   let st4:=match xV R s p.c p.s t st2.sent with
    | none=>st3
    | some u=>fE s st3 u (.req ⟨p.c,p.i,p.s,st2.sent⟩ r.1.1)
   iW s st4 (.poll ⟨p.c,p.i,p.s,st2.sent⟩) t
  else st2
def fG (s:eU) (st:bT) (i:Int) (h:Np) (t:Int):Np × Iv × Bool:=
  if (bX s i).rf=true then
    (if (BN (bX s i).er (i+1)).2=0 then
      ((yY h (mF (3900000000000000000+t)) (BN (bX s i).er (i+1)).1).1,⟨t-(bX s i).er,t+(bX s i).er⟩,decide ((yY h (mF (3900000000000000000+t)) (BN (bX s i).er (i+1)).1).2=0))
     else (zA,⟨0,0⟩,false))
  else match gW st i with
    | none=>(zA,⟨0,0⟩,false)
    | some c =>
      if (aZ c (bN s i t)).2=0/\(nS c (bN s i t)).2=0 then
        ((yY h (mF (3900000000000000000+(aZ c (bN s i t)).1)) c.rt).1,(nS c (bN s i t)).1,decide ((yY h (mF (3900000000000000000+(aZ c (bN s i t)).1)) c.rt).2=0))
      else (zA,⟨0,0⟩,false)
def sQ (s:eU) (st:bT) (t:Int) (p:AJ) (h:Np):bT:=
 let a:=fG s st p.s h t
 let st1:=if a.2.2=true then
   (if (mG s.ft p.s t a.1 a.2.1).drop=true then st else fE s st (t+(mG s.ft p.s t a.1 a.2.1).hold) (.dep p (mG s.ft p.s t a.1 a.2.1).hd (mG s.ft p.s t a.1 a.2.1).iv))
  else st
 iW s st1 (.req p h) t
def C8 (R:List (Int × Int)) (s:eU) (st:bT) (t:Int) (p:AJ) (h:Np) (v:Iv):bT:=
 iW s (match xV R s p.s p.c t p.n with
  | none=>st
  | some u=>fE s st u (.rep p h v)) (.dep p h v) t
def EL (s:eU) (st:bT) (t:Int) (p:AJ) (h:Np) (v:Iv) (st':bT):Prop:=
 match gW st p.c with
 | none=>False
 | some c=>∃ a er c2,tF (fJ c p.i h v true (bN s p.c t)).2 (bN s p.c t) a er c2 /\
   st'=iW s (if (aZ c2 (bN s p.c t)).2=0 then
    { dS st p.c c2 with mks:=st.mks ++ [⟨t,p.c,bN s p.c t,(aZ c2 (bN s p.c t)).1,c2.ck.steps,(nS c2 (bN s p.c t)).1.lo,(nS c2 (bN s p.c t)).1.hi,(fJ c p.i h v true (bN s p.c t)).1.1.kind,a.kind⟩] }
    else dS st p.c c2) (.rep p h v) t
def tH (R:List (Int × Int)) (s:eU) (st st':bT):Prop:=
 ∃ x r,st.q=x::r/\match st.ev.getD x.x.toNat (.poll ⟨0,0,0,0⟩) with
  | .poll p=>st'=pX R s { st with q:=r,tm:=x.t } x.t p
  | .req p h=>st'=sQ s { st with q:=r,tm:=x.t } x.t p h
  | .dep p h v=>st'=C8 R s { st with q:=r,tm:=x.t } x.t p h v
  | .rep p h v=>EL s { st with q:=r,tm:=x.t } x.t p h v st'
inductive rP (R:List (Int × Int)) (s:eU):bT->bT->Prop
 | done {st:bT} (h:st.q=[]):rP R s st st
 | step {a b c:bT} (h:tH R s a b) (k:rP R s b c):rP R s a c
theorem wX {l:List Cd} {x:List Int × Iv} (hg:Gd l) (hs:sel l=some x):GU l=0:=by
 unfold GU;rw[if_pos (mV.2 hg),hs]
end
section
open Go.Sort
def sgm (s:Sg):Sgm:=⟨s.a,s.p⟩
theorem WI {l:List Sg} {t:Int} (ht:t<=1125899906842624):∀ (d k:Nat),k+d=l.length ->
  ((List.range' k d).map fun i=>(yT l i).1.p*kG t (yT l i)).sum=gn ((l.drop k).map sgm) t
 |0,k,h=>by
  rw[List.drop_eq_nil_of_le (by omega)];rfl
 |d+1,k,h=>by
  have hk:k<l.length:=by omega
  have hg:l.getD k pW=l[k]:=by rw[List.getD_eq_getElem?_getD,List.getElem?_eq_getElem hk];rfl
  rw[List.range'_succ,map_cons,sum_cons,WI ht d (k+1) (by omega),List.drop_eq_getElem_cons hk];by_cases h1:k+1<l.length
  ·have hg1:l.getD (k+1) pW=l[k+1]:=by rw[List.getD_eq_getElem?_getD,List.getElem?_eq_getElem h1];rfl
   rw[List.drop_eq_getElem_cons h1];unfold yT U3 kG;rw[hg,if_pos h1,hg1];show _=max 0 (min t (l[k+1]).a-(l[k]).a)*(l[k]).p+_
   rw[Int.mul_comm];rfl
  ·rw[List.drop_eq_nil_of_le (by omega)]
   unfold yT U3 kG;rw[hg,if_neg h1];show _=max 0 (t-(l[k]).a)*(l[k]).p
   have:min t 1125899906842624=t:=by omega
   dsimp only;rw[this,Int.mul_comm];show _+0=_
   omega
theorem QX {ph t:Int} {l:List Sg} (ht:t<=1125899906842624):qR ph l t=rdO ph (l.map sgm) t:=by
 have:=WI (l:=l) ht l.length 0 (by omega);unfold qR rdO yQ oK;rw[List.map_map,List.range_eq_range'];rw[List.drop_zero] at this;rw[<-this];rfl
theorem osc_srt {ph:Int} {l:List Sg} (h:fO ph l=0):Srt (l.map sgm):=by
 have key:∀ (l:List Sg),(∀ k (hk:k<l.length) (h1:0<k),(l[k-1]'(by omega)).a<l[k].a)->Srt (l.map sgm):=by
  intro l;induction l with
  | nil=>exact fun _=>trivial
  | cons s r ih =>
   intro hs
   cases r with
   | nil=>trivial
   | cons s' r =>
    refine⟨hs 1 (by simp) (by decide),ih fun k hk h1=>?_⟩;have:=hs (k+1) (by simpa using hk) (by omega);obtain⟨j,rfl⟩:∃ j,k=j+1:=⟨k-1,by omega⟩;simpa using this
 exact key l fun k hk h1=>((vI h).2.2.2 k hk).2.2.2 h1
theorem osc_msr {ph:Int} {l:List Sg} (h:fO ph l=0) {a b:Int} (ha:0<=a) (hb:a<=b):msr (l.map sgm) b-msr (l.map sgm) a=b-a:=by
 have hk:=vI h;have h0:=(hk.2.2.2 0 hk.1).2.2.1 rfl
 cases l with
 | nil=>exact absurd hk.1 (by simp)
 | cons s r =>
  simp only[List.getElem_cons_zero] at h0;show max 0 (b-s.a)-max 0 (a-s.a)=b-a
  rw[h0];omega
theorem osc_p {B:Int} {l:List Sg} (h:∀ s∈l,-B<=s.p/\s.p<=B):∀ s∈l.map sgm,-B<=s.p/\s.p<=B:=by
 intro s hs;obtain⟨x,hx,rfl⟩:=List.mem_map.1 hs;exact h x hx
theorem ZN {ph:Int} {l:List Sg} (h:fO ph l=0) {a b:Int} (ha:0<=a) (hb:a<=b) (h1:b<=1125899906842624):qR ph l a<=qR ph l b/\qR ph l b-qR ph l a<=2*(b-a):=by
 have hp:∀ s∈l,-500000<=s.p/\s.p<=500000:=fun s hs=>by
  obtain⟨i,hi,rfl⟩:=List.getElem_of_mem hs;exact ((vI h).2.2.2 i hi).2.1
 have hl:=aAc hb (l.map sgm) (B:=500000) (osc_p hp) (osc_srt h);rw[osc_msr h ha hb] at hl;rw[QX (by omega),QX h1];unfold rdO;generalize gn (l.map sgm) b=x at hl |-;generalize gn (l.map sgm) a=y at hl |-;omega
theorem ZM {ph:Int} {l:List Sg} (h:fO ph l=0):qR ph l 0=ph:=by
 have key:∀ x∈oK l,x.1.p*kG 0 x=0:=by
  intro x hx;have:=(JU h x hx).1.1;have:kG 0 x=0:=by unfold kG;omega
  rw[this,Int.mul_zero]
 have:yQ 0 (oK l)=0:=by
  unfold yQ;generalize oK l=q at key;induction q with
  | nil=>rfl
  | cons x r ih =>
   rw[map_cons,sum_cons,key x (List.mem_cons_self ..),ih fun y hy=>key y (List.mem_cons_of_mem _ hy)];rfl
 unfold qR;rw[this];omega
theorem IC {ph t:Int} {l:List Sg} (h:fO ph l=0) (h0:0<=t) (h1:t<=1125899906842624): -1125899906842624<=qR ph l t/\qR ph l t<=3377699720527872:=by
 have a:=ZN h (Int.le_refl 0) h0 h1;rw[ZM h] at a;have:=(vI h).2.2.1;omega
end
section
open Go.Sort
inductive Tag where
 | W
 | Q
 | A
 | C (i:Nat)
 | E
 | V (j:Nat)
 | M
 | L
deriving DecidableEq
def WC (t:AJ):List Value:=[.int .i64 t.c,.int .i64 t.i,.int .i64 t.s,.int .i64 t.n]
def ZQ (p:Np):List Value:=[.int .i64 p.leap,.int .i64 p.ver,.int .i64 p.mode,.int .i64 p.strat,.int .i64 p.poll,.int .i64 p.prec,.int .u32 p.rdel,.int .u32 p.rdsp,.int .u32 p.rid,.int .u64 p.ref,.int .u64 p.org,.int .u64 p.rcv,.int .u64 p.xmt]
def wD:EvS->List Value
 | .poll t=>WC t
 | .req t h=>WC t ++ ZQ h
 | .dep t h v=>WC t ++ ZQ h ++ [.int .i64 v.lo,.int .i64 v.hi]
 | .rep t h v=>WC t ++ ZQ h ++ [.int .i64 v.lo,.int .i64 v.hi]
def xP:EvS->TypeId
 | .poll _=>134
 | .req _ _=>195
 | .dep _ _ _=>198
 | .rep _ _ _=>200
def FM:EvS->TypeId
 | .poll _=>130
 | .req _ _=>193
 | .dep _ _ _=>196
 | .rep _ _ _=>199
def evN (x:TypeId × Nat):List Value:=[.iface x.1 (.pointer (some ⟨x.2,0,none⟩))]
theorem zW (x:TypeId × Nat):(evN x).length=1:=rfl
def ptC (o:Option Nat):List Value:=[.pointer (o.map fun b=>⟨b,0,none⟩)]
theorem QC (o:Option Nat):(ptC o).length=1:=rfl
def kC (m:iD):List Value:=[.int .i64 m.at_,.int .i64 m.nd,.int .i64 m.raw,.int .i64 m.clk,.int .i64 m.stp,.int .i64 m.lo,.int .i64 m.hi,.int .i64 m.kd,.int .i64 m.vl]
theorem bO (m:iD):(kC m).length=9:=rfl
def lgC (x:Ent):List Value:=[.int .i64 x.k,.int .i64 x.n,.int .i64 x.p,.int .i64 x.m,.int .i64 x.t,.int .i64 0]
theorem IK (x:Ent):(lgC x).length=6:=rfl
structure kI where
 bw:Nat
 ca:Nat
 qb:Nat
 F:List Nat
 pl:List (Option Pl)
 ve:Value
 vm:Value
 vl:Value
 eb:List (TypeId × Nat)
 l:List Ev
abbrev Col:=Nat->Option Tag
def SI (w:World) (own:Col) (s:dW) (p:kI) (st:bT):Prop:=own p.bw=some .W /\
 w.heap[p.bw]? = some (.cells #[.slice s.pn s.nd.length s.cn,.slice s.pl s.lk.length s.cl,.slice s.pf s.ft.length s.cf,.int .i64 s.un,.int .u64 s.sd,.slice (some ⟨p.ca,0,none⟩) s.nd.length s.nd.length,.pointer (some ⟨p.qb,0,none⟩),p.ve,.int .i64 st.sent,p.vm,p.vl] 92 (0,0))
def AAt (w:World) (own:Col) (n:Nat) (p:kI):Prop:=own p.ca=some .A/\p.pl.length=n/\aO ptC 126 1 w p.ca n (p.pl.map (Option.map Pl.bc))
def CAt (w:World) (own:Col) (pl:List (Option Pl)) (cl:List (Option Cl)):Prop:=pl.length=cl.length /\
 ∀ (i:Nat) (h1:i<pl.length) (h2:i<cl.length),match pl[i],cl[i] with
  | some P,some c=>bP w P c/\∀ b∈P.all,own b=some (.C i)
  | none,none=>True
  | _,_=>False
def QAt (w:World) (own:Col) (p:kI) (st:bT):Prop:=
 D5 w p.qb p.F 4096 st.tm st.pu p.l/\(∀ b∈p.F,own b=some .Q)/\(∀ e,e∈p.l↔e∈st.q)/\p.l.length=st.q.length
def SAt {α:Type} (enc:α->List Value) (e:TypeId) (s:Nat) (B:Nat) (w:World) (own:Col) (t:Tag) (v:Value) (l:List α):Prop:=
 Own enc e s B w v l/\∀ g∈v.ownBlock.toList,own g=some t
def EAt (w:World) (own:Col) (p:kI) (st:bT):Prop:=p.eb.length=st.ev.length /\
 ∀ x∈st.q,∃ (j:Nat) (e:EvS) (b:Nat),x.x=j/\st.ev[j]? = some e/\p.eb[j]? = some (FM e,b)/\w.heap[b]? = some (.cells (wD e).toArray (xP e) (0,0))/\own b=some (.V j)
structure aX (w0 w:World) (own:Col) (s:dW) (p:kI) (st:bT):Prop where
 only:Oy [] w0 w
 lt:∀ b t,own b=some t->w0.heap.size<=b/\b<w.heap.size
 wa:SI w own s p st
 aa:AAt w own s.nd.length p
 ca:CAt w own p.pl st.cl
 qa:QAt w own p st
 ev:SAt evN 140 1 w0.heap.size w own .E p.ve p.eb
 ea:EAt w own p st
 ms:SAt kC 41 9 w0.heap.size w own .M p.vm st.mks
 ls:SAt lgC 192 6 w0.heap.size w own .L p.vl st.lgs
variable {w w':World} {own:Col} {S:List Nat}
theorem xD {b:Nat} {t:Tag} (hb:own b=some t) (hS:∀ x∈S,own x≠some t):b ∉ S:=fun h=>hS b h hb
theorem SI.kept {s:dW} {p:kI} {st:bT} (h:SI w own s p st) (ho:Oy S w w') (hS:∀ x∈S,own x≠some .W):SI w' own s p st:=
 ⟨h.1,ho.got h.2 (xD h.1 hS)⟩
theorem AAt.kept {n:Nat} {p:kI} (h:AAt w own n p) (ho:Oy S w w') (hS:∀ x∈S,own x≠some .A):AAt w' own n p:=
 ⟨h.1,h.2.1,h.2.2.kept ho (xD h.1 hS)⟩
theorem CAt.kept {pl:List (Option Pl)} {cl:List (Option Cl)} (h:CAt w own pl cl) (ho:Oy S w w') (hS:∀ x∈S,∀ i,own x≠some (.C i)):CAt w' own pl cl:=by
 refine⟨h.1,fun i h1 h2=>?_⟩;have:=h.2 i h1 h2;revert this
 cases pl[i]<;>cases cl[i]<;>dsimp only
 ·exact id
 ·exact id
 ·exact id
 ·exact fun ⟨q1,q2⟩=>⟨q1.off ho fun b hb=>xD (q2 b hb) fun x hx=>hS x hx i,q2⟩
theorem QAt.kept {p:kI} {st:bT} (h:QAt w own p st) (ho:Oy S w w') (hS:∀ x∈S,own x≠some .Q):QAt w' own p st:=
 ⟨h.1.kept ho fun k hk=>xD (h.2.1 k hk) hS,h.2⟩
theorem SAt.kept {α:Type} {enc:α->List Value} {e:TypeId} {s B:Nat} {t:Tag} {v:Value} {l:List α} (h:SAt enc e s B w own t v l) (ho:Oy S w w') (hS:∀ x∈S,own x≠some t):SAt enc e s B w' own t v l:=by
 refine⟨?_,h.2⟩;rcases h.1 with h1|⟨g,cap,rfl,hB,hr⟩
 ·exact .inl h1
 ·exact .inr ⟨g,cap,rfl,hB,hr.kept ho (xD (h.2 g (by simp[Value.ownBlock])) hS)⟩
theorem EAt.kept {p:kI} {st:bT} (h:EAt w own p st) (ho:Oy S w w') (hS:∀ x∈S,∀ y∈st.q,∀ j:Nat,y.x=j->own x≠some (.V j)):EAt w' own p st:=by
 refine⟨h.1,fun x hx=>?_⟩;obtain⟨j,e,b,h1,h2,h3,h4,h5⟩:=h.2 x hx;exact⟨j,e,b,h1,h2,h3,ho.got h4 (xD h5 fun y hy=>hS y hy x hx j h1),h5⟩
theorem aX.kept {w0:World} {s:dW} {p:kI} {st:bT} (h:aX w0 w own s p st) (ho:Oy [] w w'):aX w0 w' own s p st:=
 ⟨h.only.trans ho (by simp),fun b t hb=>⟨(h.lt b t hb).1,Nat.lt_of_lt_of_le (h.lt b t hb).2 ho.size⟩,h.wa.kept ho (by simp),h.aa.kept ho (by simp),h.ca.kept ho (by simp),h.qa.kept ho (by simp),h.ev.kept ho (by simp),h.ea.kept ho (by simp),h.ms.kept ho (by simp),h.ls.kept ho (by simp)⟩
def Ext (o o':Col):Prop:=∀ b t,o b=some t->o' b=some t
variable {own':Col}
theorem SI.ext {s:dW} {p:kI} {st:bT} (h:SI w own s p st) (x:Ext own own'):SI w own' s p st:=⟨x _ _ h.1,h.2⟩
theorem AAt.ext {n:Nat} {p:kI} (h:AAt w own n p) (x:Ext own own'):AAt w own' n p:=⟨x _ _ h.1,h.2⟩
theorem CAt.ext {pl:List (Option Pl)} {cl:List (Option Cl)} (h:CAt w own pl cl) (x:Ext own own'):CAt w own' pl cl:=by
 refine⟨h.1,fun i h1 h2=>?_⟩;have:=h.2 i h1 h2;revert this
 cases pl[i]<;>cases cl[i]<;>dsimp only
 ·exact id
 ·exact id
 ·exact id
 ·exact fun ⟨q1,q2⟩=>⟨q1,fun b hb=>x _ _ (q2 b hb)⟩
theorem QAt.ext {p:kI} {st:bT} (h:QAt w own p st) (x:Ext own own'):QAt w own' p st:=⟨h.1,fun b hb=>x _ _ (h.2.1 b hb),h.2.2⟩
theorem SAt.ext {α:Type} {enc:α->List Value} {e:TypeId} {s B:Nat} {t:Tag} {v:Value} {l:List α} (h:SAt enc e s B w own t v l) (x:Ext own own'):SAt enc e s B w own' t v l:=⟨h.1,fun b hb=>x _ _ (h.2 b hb)⟩
theorem EAt.ext {p:kI} {st:bT} (h:EAt w own p st) (x:Ext own own'):EAt w own' p st:=by
 refine⟨h.1,fun y hy=>?_⟩;obtain⟨j,e,b,h1,h2,h3,h4,h5⟩:=h.2 y hy;exact⟨j,e,b,h1,h2,h3,h4,x _ _ h5⟩
theorem aX.ext {w0:World} {s:dW} {p:kI} {st:bT} (h:aX w0 w own s p st) (x:Ext own own') (hl:∀ b t,own' b=some t->w0.heap.size<=b/\b<w.heap.size):aX w0 w own' s p st:=
 ⟨h.only,hl,h.wa.ext x,h.aa.ext x,h.ca.ext x,h.qa.ext x,h.ev.ext x,h.ea.ext x,h.ms.ext x,h.ls.ext x⟩
def dJ (own:Col) (l:List Nat) (t:Tag):Col:=fun b=>if b∈l then some t else own b
theorem xA {l:List Nat} {t:Tag} (h:∀ b∈l,own b=some t\/own b=none):Ext own (dJ own l t):=fun b u hb=>by
 unfold dJ;split
 ·rename_i hm
  rcases h b hm with q|q
  ·rw[q] at hb;exact hb
  ·rw[q] at hb;cases hb
 ·exact hb
theorem iG {l:List Nat} {t:Tag} {b:Nat} (h:b∈l):dJ own l t b=some t:=by unfold dJ;rw[if_pos h]
theorem bW {l:List Nat} {t:Tag} {b:Nat} (h:b ∉ l):dJ own l t b=own b:=by unfold dJ;rw[if_neg h]
theorem aX.fresh {w0:World} {s:dW} {p:kI} {st:bT} (h:aX w0 w own s p st) {b:Nat} (hb:w.heap.size<=b):own b=none:=by
 cases hq:own b with
 | none=>rfl
 | some t=>have:=(h.lt b t hq).2;omega
theorem bQ {α:Type} {P:Program} {w:World} {ops:Array Oper} {rest:List Oper} {o:Oper} {a:Act} {Q:Exit->Act->World->Prop} (hgd:o.guard=none) (sO xO:Operand) (t:TypeId)
  (ho:o.op=.call { callee:=.builtin .append,args:=#[sO,xO],argTypes:=#[t,t] })
  (e:TypeId) (z:Value) (size bytes B:Nat) (ht:P.underlying t=some (.slice e)) (hi:(P.info? e).map (fun i=>(i.zero,i.size,i.bytes))=some (some z,size,bytes)) (hzs:z.cells.size=size) (hsz:0<size)
  (enc:α->List Value) (hs:∀ x,(enc x).length=size) (h1c:∀ x,∀ u∈enc x,u.oneCell'=true) (l:List α) (v:Value) (hv:a.eval sO=v) (hown:Own enc e size B w v l)
  (ad:Nat) (x:α) (hx:a.eval xO=.slice (some ⟨ad,0,none⟩) 1 1) (hnews:∀ j u,(enc x)[j]? = some u->w.cell? ⟨ad,j,none⟩=some u)
  (hlen:l.length+1<=maxLen) (hby:(l.length+1)*bytes<=140737488355328) (hB:B<=w.heap.size)
  (hK:∀ v' w',Own enc e size B w' v' (l ++ [x])->(∀ k∈v'.ownBlock.toList,k∈v.ownBlock.toList\/w.heap.size<=k)->Oy v.ownBlock.toList w w'->wpList P ops Q rest (a.put o.dst v') w'):wpList P ops Q (o::rest) a w:=by
 cases hi':P.info? e with
 | none=>rw[hi'] at hi;simp at hi
 | some i =>
  rw[hi'] at hi;simp only[Option.map_some,Option.some.injEq,Prod.mk.injEq] at hi;obtain⟨z1,z2,z3⟩:=hi;have hadd:∀ j,(⟨ad,0,none⟩:Addr).add j=⟨ad,j,none⟩:=fun j=>by rw[addr_add];simp
  have hfl:(l ++ [x]).flatMap enc=l.flatMap enc ++ enc x:=by simp
  have hblk:w.ownsRow 0 e size v l.length (l.flatMap enc):=by
   rcases hown with ⟨rfl,rfl⟩|⟨g,cap,rfl,_,h3⟩
   ·exact⟨by simp,.inl ⟨rfl,rfl⟩⟩
   ·exact h3.owns hs (Nat.zero_le _)
  have hge:∀ k,v.ownBlock=some k->B<=k:=by
   intro k hk;rcases hown with ⟨rfl,rfl⟩|⟨g,cap,rfl,h2,_⟩
   ·simp[Value.ownBlock] at hk
   ·simp only[Value.ownBlock,Option.some.injEq] at hk;omega
  refine dB hgd sO xO t ho e i z size bytes ht hi' z1 z2 z3 hzs hsz v l.length (l.flatMap enc) hv hblk ⟨ad,0,none⟩ 1 1 (enc x) hx (by rw[hs];omega) (fun j u hj=>by rw[hadd];exact hnews j u hj) (h1c x) hlen hby (by decide) ?_;intro g' cap' w' hown' ho' hg';rw[<-hfl] at hown';refine hK _ _ (.inr ⟨g',cap',by simp,?_,aO.kN hown' (by simp)⟩) ?_ ho'
  ·rcases hg' with h|rfl
   ·exact hge _ h
   ·exact hB
  ·intro k hk
   simp only[Value.ownBlock,Option.toList_some,mem_singleton] at hk;subst hk;rcases hg' with h|rfl
   ·exact .inl (by rw[h];simp)
   ·exact .inr (Nat.le_refl _)
end
section
open Go.Sort
theorem fH (s:dW) (i:Nat):bX s.sc i=(s.nd.getD i bD).n:=by
 unfold bX dW.sc;rw[Int.toNat_natCast,List.getD_eq_getElem?_getD,List.getD_eq_getElem?_getD,List.getElem?_map]
 cases s.nd[i]? <;> rfl
theorem pRaw {w:World} {own:Col} {s:dW} {p:kI} {st:bT} (hw:SI w own s p st) (hs:s.Ok w) {i:Nat} (hi:i<s.nd.length) (ho:fO (s.nd.getD i bD).n.ph (s.nd.getD i bD).n.sg=0) (t:Int) (t0:0<=t) (t1:t<=1125899906842624) :
  Calls Tryz.prog 42 #[.pointer (some ⟨p.bw,0,none⟩),.int .i64 i,.int .i64 t] w fun e w'=>e=.returned (.int .i64 (bN s.sc i t))/\Oy [] w w':=by
 unfold bN;rw[fH];have hn:=hs.ndo _ (bS bD hi);have HV:=aA hs.nd;have hl:=hs.ln;have HR:=aA (fun w' (o:Oy [] w w')=>pORead _ t (hn.seg.kept o) ho t0 t1);have hb:=hw.2;obtain⟨bk,off,hpn,-⟩:=HV.out.nd (aR [] w) hi
 have HX:=aA (show ∀ w',Oy [] w w'->bk<w'.heap.size/\w'.cell? ⟨bk,off+i*7,none⟩=some (.int .i64 (s.nd.getD i bD).n.ph)/\w'.cell? ⟨bk,off+i*7+1,none⟩=some (.slice (s.nd.getD i bD).ps (s.nd.getD i bD).n.sg.length (s.nd.getD i bD).cs) from fun w' o=>by
  obtain⟨b',o',e,c1,c2,c3,-⟩:=HV.out.nd o hi;rw[hpn] at e
  cases e
  exact⟨c1,c2,c3⟩)
 rw[hpn] at hb;have hi2:(i:Int)<(s.nd.length:Int):=by omega
 clear hn hw hs ho HV hpn;generalize (s.nd.getD i bD).n=nd at HR HX |-;generalize (s.nd.getD i bD).ps=ps at HR HX;generalize (s.nd.getD i bD).cs=cs at HR HX;have hsl:=hi;obtain⟨wo,rfl⟩:∃ wo:World,wo=w:=⟨_,rfl⟩;have m:=iX hb;have k:=m.zK;have c:=HX.out _ (aR [] wo);clear hb;go_enter Tryz.func42,Tryz.ntmps42
 go_wp2_with (first|((with_reducible first|refine cM (HR.out _ gO) ?_|refine cU ?_|refine wU ?_);clear k m c;intro w m k;have c:=HX.out w m.zO)|((with_reducible refine lE (fun w o g k K hK=>⟨rfl,?_⟩));simp[results,Tryz.results42,go_sem];refine hK _ ?_;exact⟨rfl,o⟩))
end
section
open Go.Sort
variable {w0 w w1:World} {own:Col} {s:dW} {p:kI} {st:bT}
theorem aX.base (h:aX w0 w own s p st):w0.heap.size<=w.heap.size:=h.only.size
theorem aX.nQ {l:List Nat} {t:Tag} (h:aX w0 w own s p st) (h1:w.heap.size<=w1.heap.size) (hl:∀ b∈l,own b=some t\/w.heap.size<=b) (hb:∀ b∈l,b<w1.heap.size) :
  ∀ b u,dJ own l t b=some u->w0.heap.size<=b/\b<w1.heap.size:=fun b u hu=>by
 by_cases hm:b∈l
 ·rcases hl b hm with q|q
  ·exact⟨(h.lt b t q).1,hb b hm⟩
  ·exact⟨Nat.le_trans h.base q,hb b hm⟩
 ·rw[bW hm] at hu
  exact⟨(h.lt b u hu).1,Nat.lt_of_lt_of_le (h.lt b u hu).2 h1⟩
theorem aX.kW {l:List Nat} {t:Tag} (h:aX w0 w own s p st) (hl:∀ b∈l,own b=some t\/w.heap.size<=b):Ext own (dJ own l t):=
 xA fun b hb=>(hl b hb).imp id fun q=>h.fresh q
theorem r9 {l:List Nat} {t:Tag} (hl:∀ b∈l,own b=some t\/w.heap.size<=b) {b:Nat} (hb:b<w.heap.size):dJ own l t b=own b:=by
 by_cases hm:b∈l
 ·rcases hl b hm with q|q
  ·rw[iG hm,q]
  ·omega
 ·exact bW hm
theorem aX.que (h:aX w0 w own s p st) {F':List Nat} {l' q':List Ev} {tm' pu':Int} (hq:D5 w1 p.qb F' 4096 tm' pu' l') (ho:Oy p.F w w1) (hF:∀ k∈F',k∈p.F\/w.heap.size<=k)
  (hl:∀ e,e∈l'↔e∈q') (hn:l'.length=q'.length) (hs:∀ x∈q',x∈st.q) :
  aX w0 w1 (dJ own F' .Q) s { p with F:=F',l:=l' } { st with q:=q',tm:=tm',pu:=pu' }:=by
 have hQ:∀ x∈p.F,own x=some .Q:=h.qa.2.1;have hp:∀ b∈F',own b=some .Q\/w.heap.size<=b:=fun b hb=>(hF b hb).imp (hQ b) id;have hx:=h.kW hp;have no:∀ {t:Tag},t≠ .Q->∀ x∈p.F,own x≠some t:=fun ht x hx q=>ht (by rw[hQ x hx] at q;exact (Option.some.inj q).symm);refine⟨h.only.trans ho fun x hx=>.inr (h.lt x _ (hQ x hx)).1,h.nQ ho.size hp hq.blocks,?_,?_,?_,?_,?_,?_,?_,?_⟩
 ·exact (h.wa.kept ho (no (by simp))).ext hx
 ·exact (h.aa.kept ho (no (by simp))).ext hx
 ·exact (h.ca.kept ho fun x hx i=>no (by simp) x hx).ext hx
 ·exact⟨hq,fun b hb=>iG hb,hl,hn⟩
 ·exact (h.ev.kept ho (no (by simp))).ext hx
 ·have:=(h.ea.kept ho fun x hx y _ j _=>no (by simp) x hx).ext hx
  exact⟨this.1,fun x hx=>this.2 x (hs x hx)⟩
 ·exact (h.ms.kept ho (no (by simp))).ext hx
 ·exact (h.ls.kept ho (no (by simp))).ext hx
theorem aX.put (h:aX w0 w own s p st) {F' S:List Nat} {l':List Ev} {t:Int} {e:EvS} {b:Nat} {v':Value} (hq:D5 w1 p.qb F' 4096 st.tm (st.pu+1) l') (hF:∀ k∈F',k∈p.F\/w.heap.size<=k)
  (hb:own b=none) (hb0:w0.heap.size<=b) (hb1:b<w.heap.size) (hc:w1.heap[b]? = some (.cells (wD e).toArray (xP e) (0,0)))
  (ho:Oy S w w1) (hS:∀ x∈S,own x=some .Q\/own x=some .E\/own x=some .W)
  (hv:Own evN 140 1 w0.heap.size w1 v' (p.eb ++ [(FM e,b)])) (hvb:∀ k∈v'.ownBlock.toList,k∈p.ve.ownBlock.toList\/(k ∉ F'/\w.heap.size<=k))
  (hw:SI w1 own s { p with ve:=v' } st) (hl:∀ x,x∈l'↔x=⟨t,st.pu+1,st.ev.length⟩\/x∈st.q) (hn:l'.length=st.q.length+1) :
  ∃ own',aX w0 w1 own' s { p with F:=F',l:=l',ve:=v',eb:=p.eb ++ [(FM e,b)] } { st with q:=qD ⟨t,st.pu+1,st.ev.length⟩ st.q,pu:=st.pu+1,ev:=st.ev ++ [e] }/\∀ x,x<w.heap.size->x≠b->own' x=own x:=by
 have hQ:∀ x∈p.F,own x=some .Q:=h.qa.2.1;have hE:∀ x∈p.ve.ownBlock.toList,own x=some .E:=h.ev.2;have p1:∀ k∈F',own k=some .Q\/w.heap.size<=k:=fun k hk=>(hF k hk).imp (hQ k) id;have x1:=h.kW p1
 have bF:b ∉ F':=fun hm=>by
  rcases p1 b hm with q|q
  ·rw[hb] at q;cases q
  ·omega
 have bv:b ∉ v'.ownBlock.toList:=fun hm=>by
  rcases hvb b hm with q|q
  ·have:=hE b q;rw[hb] at this;cases this
  ·omega
 have x2:Ext (dJ own F' .Q) (dJ (dJ own F' .Q) v'.ownBlock.toList .E):=xA fun k hk=>by
  rcases hvb k hk with q|q
  ·exact .inl (x1 _ _ (hE k q))
  ·exact .inr (by rw[bW q.1];exact h.fresh q.2)
 have x3:Ext (dJ (dJ own F' .Q) v'.ownBlock.toList .E) (dJ (dJ (dJ own F' .Q) v'.ownBlock.toList .E) [b] (.V st.ev.length)):=xA fun k hk=>by
  rw[mem_singleton.1 hk,bW bv,bW bF];exact .inr hb
 have x13:Ext own (dJ (dJ (dJ own F' .Q) v'.ownBlock.toList .E) [b] (.V st.ev.length)):=fun k u q=>x3 _ _ (x2 _ _ (x1 _ _ q))
 have vb0:∀ k∈v'.ownBlock.toList,w0.heap.size<=k/\k<w1.heap.size:=fun k hk=>by
  rcases hv with ⟨rfl,_⟩|⟨g,cap,rfl,q1,q2⟩
  ·simp[Value.ownBlock] at hk
  ·simp only[Value.ownBlock,Option.toList_some,mem_singleton] at hk
   subst hk;exact⟨q1,q2.lt⟩
 have hold:∀ x,x<w.heap.size->x≠b->(dJ (dJ (dJ own F' .Q) v'.ownBlock.toList .E) [b] (.V st.ev.length)) x=own x:=fun x hx hxb=>by
  rw[bW (by simpa using hxb)];by_cases hm:x∈v'.ownBlock.toList
  ·rw[iG hm]
   rcases hvb x hm with q|q
   ·exact (hE x q).symm
   ·omega
  ·rw[bW hm]
   exact r9 p1 hx
 have no:∀ {t:Tag},t≠ .Q->t≠ .E->t≠ .W->∀ x∈S,own x≠some t:=fun h1 h2 h3 x hx q=>by
  rcases hS x hx with q'|q'|q'<;>rw[q] at q'
  ·exact h1 (Option.some.inj q')
  ·exact h2 (Option.some.inj q')
  ·exact h3 (Option.some.inj q')
 have hlt:∀ k u,(dJ (dJ (dJ own F' .Q) v'.ownBlock.toList .E) [b] (.V st.ev.length)) k=some u->w0.heap.size<=k/\k<w1.heap.size:=fun k u hk=>by
  by_cases h1:k=b
  ·subst h1;exact⟨hb0,Nat.lt_of_lt_of_le hb1 ho.size⟩
  ·rw[bW (by simpa using h1)] at hk
   by_cases h2:k∈v'.ownBlock.toList
   ·exact vb0 k h2
   ·rw[bW h2] at hk
    exact h.nQ ho.size p1 hq.blocks k u hk
 refine⟨_,⟨h.only.trans ho fun x hx=>.inr ?_,hlt,?_,?_,?_,?_,?_,?_,?_,?_⟩,hold⟩
 ·rcases hS x hx with q|q | q<;>exact (h.lt x _ q).1
 ·exact⟨x13 _ _ hw.1,hw.2⟩
 ·exact (h.aa.kept ho (no (by simp) (by simp) (by simp))).ext x13
 ·exact (h.ca.kept ho fun x hx i=>no (by simp) (by simp) (by simp) x hx).ext x13
 ·exact⟨hq,fun k hk=>x3 _ _ (x2 _ _ (iG hk)),fun x=>by rw[hl,lD],by rw[hn,J3]⟩
 ·exact⟨hv,fun k hk=>x3 _ _ (iG hk)⟩
 ·have ha:=(h.ea.kept ho fun x hx y _ j _=>no (by simp) (by simp) (by simp) x hx).ext x13
  refine⟨by simp[ha.1],fun x hx=>?_⟩;rcases lD.1 hx with rfl|hx
  ·exact⟨st.ev.length,e,b,rfl,by simp,by rw[<-ha.1];simp,hc,iG (by simp)⟩
  ·obtain⟨j,e',b',q1,q2,q3,q4,q5⟩:=ha.2 x hx
   exact⟨j,e',b',q1,by rw[List.getElem?_append_left (List.getElem?_eq_some_iff.1 q2).1];exact q2,by rw[List.getElem?_append_left (List.getElem?_eq_some_iff.1 q3).1];exact q3,q4,q5⟩
 ·exact (h.ms.kept ho (no (by simp) (by simp) (by simp))).ext x13
 ·exact (h.ls.kept ho (no (by simp) (by simp) (by simp))).ext x13
end
section
open Go.Sort
def SchR (w0 w:World) (own:Col) (s:dW) (p:kI) (st':bT) (b:Nat) (w':World):Prop:=
 ∃ own' p',p'.bw=p.bw/\p'.pl=p.pl/\aX w0 w' own' s p' st'/\(∀ x,x<w.heap.size->x≠b->own' x=own x)/\∃ S,Oy S w w'/\∀ x∈S,own x=some .Q\/own x=some .E\/own x=some .W
theorem Own.off {α:Type} {enc:α->List Value} {e:TypeId} {s B:Nat} {w w':World} {S:List Nat} {v:Value} {l:List α} (h:Own enc e s B w v l) (ho:Oy S w w') (hS:∀ g∈v.ownBlock.toList,g ∉ S):Own enc e s B w' v l:=by
 rcases h with h1|⟨g,cap,rfl,hB,hr⟩
 ·exact .inl h1
 ·exact .inr ⟨g,cap,rfl,hB,hr.kept ho (hS g (by simp[Value.ownBlock]))⟩
theorem evN_one (x:TypeId × Nat):∀ u∈evN x,u.oneCell'=true:=by simp[evN,Value.oneCell']
theorem nN {w0 w:World} {own:Col} {s:dW} {p:kI} {st:bT} (h:aX w0 w own s p st) (hpu:st.pu=st.ev.length) (hle:st.ev.length<=1000000000) (t:Int) (e:EvS) {b:Nat} (hb:own b=none) (hb0:w0.heap.size<=b) (hc:w.heap[b]? = some (.cells (wD e).toArray (xP e) (0,0))) :
  Calls Tryz.prog 44 #[.pointer (some ⟨p.bw,0,none⟩),.int .i64 t,.iface (FM e) (.pointer (some ⟨b,0,none⟩))] w fun r w'=>r=.returned (.tuple #[])/\SchR w0 w own s p (fE s.sc st t e) b w':=by
 have HS:=aA h;have hbw:=h.wa.2;have hev:=h.ev.1;have HQ:=aA (fun w' (o:Oy [] w w')=>XZ (h.qa.1.kept o (by simp)) t st.ev.length (by omega) (by omega));obtain⟨vp,vc,hve,hvv⟩:=hev.dI zW;have hlen:=h.ea.1;rw[hve] at hbw;rw[hlen] at hbw hve;have hev2:=hev;rw[hve] at hev2;unfold fE;by_cases hun:s.un<t
 ·rw[if_pos (show s.sc.un<t from hun)]
  have hd:decide (s.un<t)=true:=eY hun;have m:=iX hbw;have k:=m.zK;have HB:=aA hbw;clear hbw h;go_enter Tryz.func44,Tryz.ntmps44
  go_wp2_with (first|((with_reducible first|refine cU ?_|refine wU ?_);clear k m;intro w m k)|((with_reducible refine lE (fun w o g k K hK=>⟨rfl,?_⟩));simp[results,Tryz.results44,go_sem];refine hK _ ?_;exact⟨rfl,own,p,rfl,rfl,HS.out.kept o,fun _ _ _=>rfl,[],o,by simp⟩))
 ·rw [if_neg (show ¬ s.sc.un<t from hun)]
  obtain⟨T,HT⟩:∃ T,Hid (T=if fU 4096 st.tm st.q.length t=0 then { st with q:=qD ⟨t,st.pu+1,st.ev.length⟩ st.q,pu:=st.pu+1,ev:=st.ev ++ [e] } else st):=⟨_,aA rfl⟩;rw[<-HT.out];have hd:decide (s.un<t)=false:=dL hun;have m:=iX hbw;have k:=m.zK;have HB:=aA hbw;clear hbw h;obtain⟨wo,rfl⟩:∃ wo:World,wo=w:=⟨_,rfl⟩;go_enter Tryz.func44,Tryz.ntmps44
  go_wp2_with ((with_reducible refine wU ?_);clear k m;intro w m k)
  refine rC (id:=1) [0,1,2,3,4,5,6,7,8,9] 10 [11,12,13,14,15] (by kernel_rfl) (by kernel_rfl) ?_;simp only[bV]
  (repeat (first|(refine aQ (fun K hK=>?_);go_simp;refine hK _ ?_;clear hK K)))
  refine aS ?_;clear k m;intro w m k;refine aD rfl ?_;go_wp2_with fail
  have OB:=aA m.zO;clear k m;refine (HQ.out w OB.out).mono ?_;rintro r w2 ⟨rfl,F',l',pu',hq,ho,hF,hp⟩;go_wp2;simp only[bA]
  (repeat (refine aJ (fun K hK=>?_);go_simp;refine hK _ ?_;clear hK K))
  refine aK ?_;intro w3 o3;have HF:=aA hF;have HP:=aA hp;have HQ3:=aA (hq.kept o3 (by simp));have OW:=aA (show Oy p.F wo w3 from ((OB.out.mono (by simp)).trans ho fun x hx=>.inl hx).trans o3 (by simp));clear hF hp hq ho o3;have HB3:=aA (OW.out.got HB.out (by intro hm;have:=HS.out.qa.2.1 _ hm;rw[HS.out.wa.1] at this;cases this));have HSZ:=aA OB.out.size;by_cases he:fU 4096 st.tm p.l.length t=0
  ·have hd0:(fU 4096 st.tm p.l.length t == 0)=true:=by rw[he];rfl
   have hT:=HT.out;rw[if_pos (by rw[<-HS.out.qa.2.2.2];exact he)] at hT;clear HT;subst hT;rcases HP.out with ⟨-,hp1,-,-,-,hl1,hl2⟩|⟨hp1,-⟩;rotate_left
   ·exact absurd he hp1
   obtain rfl:=hp1;clear HQ HP OB;have m:=kV HB3.out;have k:=m.zK;go_wp2_with (first|(at_builtin;refine aW ?_)|((with_reducible refine wU ?_);clear k m;intro w m k))
   refine aG (G:=fun w0=>Stop (wpList _ _ _ _ _ w0)) ?_;intro w5 hb5 ho5 hs5;have B5:=aA hb5;have OW5:=aA (show Oy p.F wo w5 from OW.out.trans ho5 (by simp));have HB5:=aA (ho5.got HB3.out (by simp));have HQ5:=aA (HQ3.out.kept ho5 (by simp));have hev5:=(HS.out.ev.kept OW5.out (fun x hx q=>by have:=HS.out.qa.2.1 x hx;rw[q] at this;cases this)).1;rw[hve] at hev5;have HE5:=aA hev5;have HB0:=aA (Nat.le_trans HS.out.base OW5.out.size);clear hb5 ho5 hev5 hs5 m k;refine bH ?_;refine bQ (B:=w0.heap.size) rfl _ _ 89 rfl 140 .nilIface 1 16 Tryz.underlying89 (by kernel_rfl) rfl (by decide) evN zW evN_one p.eb (.slice vp st.ev.length vc) rfl HE5.out _ (FM e,b) rfl (fun j u hj=>by rw[aC B5.out,<-hj];simp[evN]) (by rw[hlen];simp[maxLen];omega) (by rw[hlen];omega) HB0.out ?_;intro v6 w6 hown6 hk6 ho6;rw[<-hve] at hk6 ho6;obtain⟨vp6,vc6,hv6,-⟩:=hown6.dI zW;rw[show (p.eb ++ [(FM e,b)]).length=st.ev.length+1 by simp[hlen]] at hv6;subst hv6;have HK6:=aA hk6;have HW6:=aA hown6;have HB6:=aA (ho6.got HB5.out (fun hm=>by have:=HS.out.ev.2 _ hm;rw[HS.out.wa.1] at this;cases this))
   have HQ6:=aA (HQ5.out.kept ho6 (fun k hk hm=>by
    rcases HF.out k hk with q|q
    ·have h1:=HS.out.qa.2.1 _ q
     rw[HS.out.ev.2 _ hm] at h1
     cases h1
    ·have h1:=(HS.out.lt _ _ (HS.out.ev.2 _ hm)).2
     have:=HSZ.out;omega))
   have OW6:=aA (show Oy (p.F ++ p.ve.ownBlock.toList) wo w6 from (OW5.out.mono (fun x hx=>.inl (List.mem_append_left _ hx))).trans ho6 fun x hx=>.inl (by simp at hx |-;exact .inr hx));have HF5:=aA (fun k (hk:k∈F')=>Nat.lt_of_lt_of_le (HQ5.out.blocks k hk) (Nat.le_refl _));clear hown6 hk6 ho6 HQ3 HB3 HQ5 HE5;have m:=kV HB6.out;have k:=m.zK;go_wp2;refine lN rfl rfl fun w7 o7 g7=>?_;have OA:=(OW6.out.mono (S':=p.bw::(p.F ++ p.ve.ownBlock.toList)) (fun x hx=>.inl (List.mem_cons_of_mem _ hx))).trans o7 (fun x hx=>.inl (by rw[mem_singleton.1 hx];simp))
   have hsc:∀ x∈p.bw::(p.F ++ p.ve.ownBlock.toList),own x=some .Q\/own x=some .E\/own x=some .W:=fun x hx=>by
    rcases mem_cons.1 hx with rfl|hx
    ·exact .inr (.inr HS.out.wa.1)
    ·rcases List.mem_append.1 hx with hx|hx
     ·exact .inl (HS.out.qa.2.1 x hx)
     ·exact .inr (.inl (HS.out.ev.2 x hx))
   have hbl:b<wo.heap.size:=aF hc
   have hbw:∀ {k:Nat},k<wo.heap.size->own k=none->k ∉ p.bw::(p.F ++ p.ve.ownBlock.toList):=fun hk hn hm=>by
    rcases hsc _ hm with q|q | q<;>rw[hn] at q<;>cases q
   have hwb:∀ k,own k≠some .W->k ∉ [p.bw]:=fun k hk hm=>hk (by rw[mem_singleton.1 hm];exact HS.out.wa.1)
   obtain⟨own',hs',hold⟩:=HS.out.put (w1:=w7) (t:=t) (e:=e) (v':=.slice vp6 (st.ev.length+1) vc6) (HQ6.out.kept o7 (fun k hk=>hwb k (fun q=>by
     rcases HF.out k hk with q'|q'
     ·rw[HS.out.qa.2.1 _ q'] at q;cases q
     ·have:=HS.out.fresh (Nat.le_trans HSZ.out q');rw[this] at q;cases q))) (fun k hk=>(HF.out k hk).imp id fun q=>Nat.le_trans HSZ.out q) hb hb0 hbl (OA.got hc (hbw hbl hb)) OA hsc
    (HW6.out.off o7 (fun k hk=>hwb k (fun q=>by
     rcases HK6.out k hk with q'|q'
     ·rw[HS.out.ev.2 _ q'] at q;cases q
     ·have:=HS.out.fresh (Nat.le_trans OW5.out.size q');rw[this] at q;cases q)))
    (fun k hk=>(HK6.out k hk).imp id fun q=>⟨fun hm=>by have:=HF5.out k hm;omega,Nat.le_trans OW5.out.size q⟩) ⟨HS.out.wa.1,g7.1⟩ (fun x=>(hl2 x).trans (or_congr Iff.rfl (HS.out.qa.2.2.1 x))) (by rw[hl1,HS.out.qa.2.2.2])
   exact⟨rfl,own',{ p with F:=F',l:=l',ve:=.slice vp6 (st.ev.length+1) vc6,eb:=p.eb ++ [(FM e,b)] },rfl,rfl,hs',hold,_,OA,hsc⟩
  ·have hd0:(fU 4096 st.tm p.l.length t == 0)=false:=by simpa using he
   have hT:=HT.out;rw[if_neg (by rw[<-HS.out.qa.2.2.2];exact he)] at hT;clear HT;subst hT;rcases HP.out with ⟨hp1,-⟩|⟨-,rfl,hl1,hl2⟩
   ·exact absurd hp1 he
   have m:=iX HB3.out;have k:=m.zK;go_wp2_with ((with_reducible refine wU ?_);clear k m;intro w m k)
   refine lN rfl rfl fun w o g=>?_;exact⟨rfl,dJ own F' .Q,{ p with F:=F',l:=l' },rfl,rfl,HS.out.que (F':=F') (l':=l') (q':=T.q) (HQ3.out.kept o (by simp)) (OW.out.trans o (by simp)) (fun k hk=>(HF.out k hk).imp id fun q=>Nat.le_trans HSZ.out q) (fun e=>(hl2 e).trans (HS.out.qa.2.2.1 e)) (hl1.trans HS.out.qa.2.2.2) (fun _ h=>h),fun x hx _=>r9 (w:=wo) (fun b hb=>((HF.out b hb).imp (HS.out.qa.2.1 b) fun q=>Nat.le_trans HSZ.out q)) hx,p.F,OW.out.trans o (by simp),fun x hx=>.inl (HS.out.qa.2.1 x hx)⟩
end
end Go.Proofs.YtppjhbjmfkiejaaGreat
