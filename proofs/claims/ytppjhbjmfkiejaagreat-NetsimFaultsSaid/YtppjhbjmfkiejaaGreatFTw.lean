/- Tw Tv S1 S2 S3 S5 S6 S7 -/
import Derived.Lib.Split
import Derived.Lib.IndexMore
import Derived.Lib.AtoiAllCases
import Derived.Lib.ItoaMem
import Derived.Lib.ItoaLen
import Derived.Lib.Atoi
import Derived.Test.YtppjhbjmfkiejaaGreatFV1
import Derived.Deep.Cut
namespace Go.Proofs.YtppjhbjmfkiejaaGreat
section
open Go
def i64 (n:Int):Prop:=-9223372036854775808<=n/\n<=9223372036854775807
end
section
open Go
end
section
def fe (f:Nat->Int):Nat->Nat->Int
 | 0,_=>0
 | k+1,i=>if f i=0 then fe f k (i+1) else f i
theorem fe_ok {f:Nat->Int}:∀ {k i:Nat},fe f k i=0↔∀ j,i<=j->j<i+k->f j=0
 | 0,i=>by simp[fe];omega
 |k + 1,i=>by
  unfold fe;constructor
  ·intro h j h1 h2
   by_cases h0:f i=0
   ·rw[if_pos h0] at h
    by_cases hj:j=i
    ·subst hj;exact h0
    ·exact (fe_ok (k:=k)).1 h j (by omega) (by omega)
   ·rw[if_neg h0] at h;exact absurd h h0
  ·intro h
   have h0:=h i (Nat.le_refl _) (by omega);rw[if_pos h0];exact (fe_ok (k:=k)).2 fun j a b=>h j (by omega) (by omega)
theorem fe_yes {f:Nat->Int} {n k:Nat} (hk:k<n) (h:f k=0):fe f (n-k) k=fe f (n-(k+1)) (k+1):=by
 rw[show n-k=(n-(k+1))+1 by omega,fe,if_pos h]
theorem fe_no {f:Nat->Int} {n k:Nat} (hk:k<n) (h:f k≠0):fe f (n-k) k=f k:=by
 rw[show n-k=(n-(k+1))+1 by omega,fe,if_neg h]
theorem fe_end {f:Nat->Int} {n k:Nat} (hk:n<=k):fe f (n-k) k=0:=by
 rw[show n-k=0 by omega];rfl
structure Sg where
 a:Int
 p:Int
deriving DecidableEq
structure Ch where
 a:Int
 d:Int
 y:Int
deriving DecidableEq
structure Nd where
 ph:Int
 sg:List Sg
 tol:Int
 rf:Bool
 er:Int
 st:Int
 sv:List Int
deriving DecidableEq
structure Lk where
 A:Int
 B:Int
 d0:Int
 d1:Int
 v0:Int
 v1:Int
 lo:Int
 sd:Int
 ch:List Ch
deriving DecidableEq
structure Ft where
 n:Int
 f:Int
 t:Int
 k:Int
 v:Int
deriving DecidableEq
structure Scn where
 nd:List Nd
 lk:List Lk
 ft:List Ft
 un:Int
 sd:Int
deriving DecidableEq
def sg0:Sg:=⟨0,0⟩
def ch0:Ch:=⟨0,0,0⟩
def nd0:Nd:=⟨0,[],0,false,0,0,[]⟩
def lk0:Lk:=⟨0,0,0,0,0,0,0,0,[]⟩
def ft0:Ft:=⟨0,0,0,0,0⟩
def inR (n lo hi:Int):Bool:=decide (lo<=n/\n<=hi)
theorem inR_t {n lo hi:Int}:inR n lo hi=true↔(lo<=n/\n<=hi):=by simp[inR]
def sgE (l:List Sg) (i:Nat):Int:=
 if inR (l.getD i sg0).a 0 1125899906842624=true/\inR (l.getD i sg0).p (-500000) 500000=true then
  (if i=0/\(l.getD i sg0).a≠0 then 7 else if 0<i/\(l.getD i sg0).a<=(l.getD (i-1) sg0).a then 12 else 0) else 3
def oscE (ph:Int) (l:List Sg):Int:=
 if l.length=0 then 14 else if 16<l.length then 6 else if inR ph (-1125899906842624) 1125899906842624=true then fe (sgE l) l.length 0 else 3
def oscM (l:List Sg):Int:=l.foldl (fun b s=>max (max b s.p) (-s.p)) 0
def oscB (ph:Int) (l:List Sg):Int:=if oscE ph l=0 then oscM l else 0
def chR (c:Ch):Bool:=inR c.a 0 1125899906842624 && (inR c.d 0 1 && inR c.y 0 10000000000)
def chO (l:List Ch) (i:Nat):Int:=if (l.getD i ch0).a<(l.getD (i-1) ch0).a then 12 else 0
def lkR (l:Lk):Bool:=(inR l.d0 0 10000000000 && inR l.d1 0 10000000000) && ((inR l.v0 0 10000000000 && inR l.v1 0 10000000000) && inR l.lo 0 1000)
def linkE (l:Lk):Int:=
 if lkR l=true then (if l.ch.all chR=true then (if 16<l.ch.length then 6 else fe (chO l.ch) (l.ch.length-1) 1) else 3) else 3
def fits (k v:Int):Bool:=
 if k=2∨k=3 then inR v (-1125899906842624) 1125899906842624 else if k=5 then inR v 1 15 else if k=6 then inR v 0 3 else if k=9 then inR v 0 1125899906842624 else decide (v=0)
def ftE (f:Ft):Int:=
 if inR f.n 0 23=true/\inR f.f 0 1125899906842624=true/\inR f.t 0 1125899906842624=true then
  (if f.t<f.f then 12 else if inR f.k 1 9=true then (if fits f.k f.v=true then 0 else 3) else 8) else 3
def fcE (l:List Ft):Int:=if 32<l.length then 6 else fe (fun i=>ftE (l.getD i ft0)) l.length 0
def svE (l:List Int) (node nodes:Int) (i:Nat):Int:=
 if inR (l.getD i 0) 0 (nodes-1)=true then (if l.getD i 0=node then 18 else if l.getD i 0∈l.take i then 10 else 0) else 3
def ndE (n:Nd) (i nodes:Int):Int:=
  if oscE n.ph n.sg=0 then
    (if inR n.tol 0 500000=true then
      (if n.tol<oscB n.ph n.sg then 15
       else if inR n.er 0 1125899906842624=true/\(n.er=0∨n.rf=true) then
        (if n.rf=true/\0<n.sv.length then 7
         else if 12<n.sv.length then 6
         else if fe (svE n.sv i nodes) n.sv.length 0=0 then (if inR n.st 0 1125899906842624=true then 0 else 3) else fe (svE n.sv i nodes) n.sv.length 0)
       else 3)
     else 3)
  else oscE n.ph n.sg
def twin (l:List Lk) (x:Lk):Bool:=l.any fun y=>decide (y.A=x.A) && decide (y.B=x.B)
def leE (l:List Lk) (nodes:Int) (i:Nat):Int:=
 if inR (l.getD i lk0).A 0 (nodes-1)=true/\inR (l.getD i lk0).B 0 (nodes-1)=true then
  (if (l.getD i lk0).B<=(l.getD i lk0).A then 12 else if twin (l.take i) (l.getD i lk0)=true then 10 else linkE (l.getD i lk0)) else 3
def lnkF (a b:Int):List Lk->Nat->Option (Nat × Bool)
 | [],_=>none
 | l::r,i=>if l.A=a/\l.B=b then some (i,false) else if l.A=b/\l.B=a then some (i,true) else lnkF a b r (i+1)
def lnk (l:List Lk) (a b:Int):Option (Nat × Bool):=lnkF a b l 0
def jnE (l:List Lk) (i:Int) (n:Nd):Int:=if n.sv.all (fun s=>(lnk l i s).isSome)=true then 0 else 11
def chkS (s:Scn):Int:=
  if s.nd.length=0 then 14 else if 24<s.nd.length∨64<s.lk.length then 6
  else if fe (fun i=>ndE (s.nd.getD i nd0) i s.nd.length) s.nd.length 0=0 then
    (if fe (leE s.lk s.nd.length) s.lk.length 0=0 then
      (if fe (fun i=>jnE s.lk i (s.nd.getD i nd0)) s.nd.length 0=0 then
        (if fcE s.ft=0 then
          (if s.ft.all (fun f=>decide (f.n<s.nd.length))=true then (if inR s.un 1 1125899906842624=true then 0 else 3) else 3)
         else fcE s.ft)
       else 11)
     else fe (leE s.lk s.nd.length) s.lk.length 0)
  else fe (fun i=>ndE (s.nd.getD i nd0) i s.nd.length) s.nd.length 0
end
section
def it (n:Int):List UInt8:=Lib.itoa n
structure SSt where
 sc:Scn
 at_:Nat
end
section
theorem i64_in {n lo hi:Int} (h:inR n lo hi=true) (h0: -9223372036854775808<=lo) (h1:hi<=9223372036854775807):i64 n:=by
 have:=inR_t.1 h;exact⟨by omega,by omega⟩
structure NdI (n:Nd):Prop where
 tol:i64 n.tol
 st:i64 n.st
 er:i64 n.er
 ph:i64 n.ph
 sg:∀ s∈n.sg,i64 s.a/\i64 s.p
 sv:∀ s∈n.sv,i64 s
 rf:n.rf=false->n.er=0
structure LkI (l:Lk):Prop where
 A:i64 l.A
 B:i64 l.B
 d0:i64 l.d0
 d1:i64 l.d1
 v0:i64 l.v0
 v1:i64 l.v1
 lo:i64 l.lo
 sd:0<=l.sd/\l.sd<=18446744073709551615
 ch:∀ c∈l.ch,i64 c.a/\i64 c.d/\i64 c.y
structure FtI (q:Ft):Prop where
 n:i64 q.n
 f:i64 q.f
 t:i64 q.t
 v:i64 q.v
 k:1<=q.k/\q.k<=9
structure ScI (s:Scn):Prop where
 nd:∀ n∈s.nd,NdI n
 lk:∀ l∈s.lk,LkI l
 ft:∀ f∈s.ft,FtI f
 un:i64 s.un
 sd:0<=s.sd/\s.sd<=18446744073709551615
 le:s.nd.length<=1000
theorem if_ne {c:Prop} [Decidable c] {a b:Int} (h:(if c then a else b)=0) (ha:a≠0):¬ c/\b=0:=by
 by_cases hc:c
 ·rw[if_pos hc] at h;exact absurd h ha
 ·rw[if_neg hc] at h;exact⟨hc,h⟩
theorem if_eq {c:Prop} [Decidable c] {a b:Int} (h:(if c then a else b)=0) (hb:b≠0):c/\a=0:=by
 by_cases hc:c
 ·rw[if_pos hc] at h;exact⟨hc,h⟩
 ·rw[if_neg hc] at h;exact absurd h hb
theorem if_self {a b:Int} (h:(if a=0 then b else a)=0):a=0/\b=0:=by
 by_cases hc:a=0
 ·rw[if_pos hc] at h;exact⟨hc,h⟩
 ·rw[if_neg hc] at h;exact absurd h hc
theorem oscE_ok {ph:Int} {l:List Sg} (h:oscE ph l=0):inR ph (-1125899906842624) 1125899906842624=true/\0<l.length/\l.length<=16/\∀ i,i<l.length->sgE l i=0:=by
 obtain⟨h1,h⟩:=if_ne h (by decide);obtain⟨h2,h⟩:=if_ne h (by decide);obtain⟨h3,h⟩:=if_eq h (by decide);exact⟨h3,by omega,by omega,fun i hi=>fe_ok.1 h i (Nat.zero_le _) (by omega)⟩
theorem mem_getD {α:Type} {l:List α} {x z:α} (h:x∈l):∃ i,i<l.length/\l.getD i z=x:=by
 obtain⟨i,hi,rfl⟩:=List.getElem_of_mem h;exact⟨i,hi,by simp[List.getD_eq_getElem?_getD,hi]⟩
structure NdOk (n:Nd) (i nodes:Int):Prop where
 osc:oscE n.ph n.sg=0
 tol:inR n.tol 0 500000=true
 bnd:oscB n.ph n.sg<=n.tol
 er:inR n.er 0 1125899906842624=true
 er0:n.er=0∨n.rf=true
 form:n.rf=true->n.sv=[]
 len:n.sv.length<=12
 sv:∀ k,k<n.sv.length->svE n.sv i nodes k=0
 st:inR n.st 0 1125899906842624=true
theorem ndE_ok {n:Nd} {i nodes:Int} (h:ndE n i nodes=0):NdOk n i nodes:=by
 obtain⟨h1,h⟩:=if_self h;obtain⟨h2,h⟩:=if_eq h (by decide);obtain⟨h3,h⟩:=if_ne h (by decide);obtain⟨h4,h⟩:=if_eq h (by decide);obtain⟨h5,h⟩:=if_ne h (by decide);obtain⟨h6,h⟩:=if_ne h (by decide);obtain⟨h7,h⟩:=if_self h;obtain⟨h8,_⟩:=if_eq h (by decide);exact⟨h1,h2,by omega,h4.1,h4.2,fun hr=>Decidable.byContradiction fun hn=>h5 ⟨hr,List.length_pos_iff.2 hn⟩,by omega,fun k hk=>fe_ok.1 h7 k (Nat.zero_le _) (by omega),h8⟩
structure LkOk (l:List Lk) (nodes:Int) (i:Nat):Prop where
 A:inR (l.getD i lk0).A 0 (nodes-1)=true
 B:inR (l.getD i lk0).B 0 (nodes-1)=true
 lt:(l.getD i lk0).A<(l.getD i lk0).B
 tw:twin (l.take i) (l.getD i lk0)=false
 lk:linkE (l.getD i lk0)=0
theorem leE_ok {l:List Lk} {nodes:Int} {i:Nat} (h:leE l nodes i=0):LkOk l nodes i:=by
 obtain⟨h1,h⟩:=if_eq h (by decide);obtain⟨h2,h⟩:=if_ne h (by decide);obtain⟨h3,h⟩:=if_ne h (by decide);exact⟨h1.1,h1.2,by omega,by simpa using h3,h⟩
structure ScOk (s:Scn):Prop where
 n0:0<s.nd.length
 n1:s.nd.length<=24
 l1:s.lk.length<=64
 nd:∀ i,i<s.nd.length->NdOk (s.nd.getD i nd0) i s.nd.length
 lk:∀ i,i<s.lk.length->LkOk s.lk s.nd.length i
 jn:∀ i,i<s.nd.length->(s.nd.getD i nd0).sv.all (fun v=>(lnk s.lk i v).isSome)=true
 fc:fcE s.ft=0
 ft:∀ f∈s.ft,ftE f=0
 fl:s.ft.length<=32
 un:inR s.un 1 1125899906842624=true
theorem chkS_ok {s:Scn} (h:chkS s=0):ScOk s:=by
 obtain⟨h1,h⟩:=if_ne h (by decide);obtain⟨h2,h⟩:=if_ne h (by decide);obtain⟨h3,h⟩:=if_self h;obtain⟨h4,h⟩:=if_self h;obtain⟨h5,h⟩:=if_eq h (by decide);obtain⟨h6,h⟩:=if_self h;obtain⟨_,h⟩:=if_eq h (by decide);obtain⟨h8,_⟩:=if_eq h (by decide);obtain⟨h9,h10⟩:=if_ne (c:=32<s.ft.length) h6 (by decide);refine⟨by omega,by omega,by omega,fun i hi=>ndE_ok (fe_ok.1 h3 i (Nat.zero_le _) (by omega)),fun i hi=>leE_ok (fe_ok.1 h4 i (Nat.zero_le _) (by omega)),fun i hi=>?_,h6,fun f hf=>?_,by omega,h8⟩
 ·exact (if_eq (fe_ok.1 h5 i (Nat.zero_le _) (by omega)) (by decide)).1
 ·obtain⟨i,hi,rfl⟩:=mem_getD (z:=ft0) hf
  exact fe_ok.1 h10 i (Nat.zero_le _) (by omega)
def SdOk (s:Scn):Prop:=(0<=s.sd/\s.sd<=18446744073709551615)/\∀ l∈s.lk,0<=l.sd/\l.sd<=18446744073709551615
structure SIn (x:SSt):Prop where
 le:x.at_<=7
 lf:x.at_<=5->x.sc.lk=[]/\x.sc.ft=[]
 f6:x.at_=6->x.sc.ft=[]
 n2:x.at_<=2->x.sc.nd=[]
 n3:x.at_=3->∃ l n,x.sc.nd=l ++ [n]/\n.ph=0/\n.sg=[]/\n.sv=[]
 n4:x.at_=4->∃ l n,x.sc.nd=l ++ [n]/\n.sv=[]
 sd:SdOk x.sc
theorem lnk_lt {a b:Int}:∀ (l:List Lk) (i j:Nat) (d:Bool),lnkF a b l i=some (j,d)->i<=j/\j<i+l.length
 | [],_,_,_,h=>by cases h
 |x :: r,i,j,d,h=>by
  unfold lnkF at h;split at h
  ·cases h;simp
  ·split at h
   ·cases h;simp
   ·have:=lnk_lt r (i+1) j d h
    simp only[List.length_cons];omega
end
section
open Go.Lib (hid)
set_option maxRecDepth 100000
set_option maxHeartbeats 4000000
open Go.RowKit
theorem only_dr2 (w:World) (n:Nat):Only [] w (w.drewN n):=⟨rfl,rfl,rfl,Nat.le_refl _,fun _ _ _=>rfl⟩
def sgC (s:Sg):List Value:=[.int .i64 s.a,.int .i64 s.p]
theorem VRow.ptr {α:Type} {ec:α->List Value} {s:Nat} {w:World} {p:Option Addr} {n cap k:Nat} {l:List α} (hv:VRow ec s w p n cap l) (hk:k<l.length):∃ b off,p=some ⟨b,off,none⟩:=by
 obtain⟨b,off,hp,_⟩:=hv.cell k l[k] (List.getElem?_eq_getElem hk);exact⟨b,off,hp⟩
theorem VRow.at_ {α:Type} {ec:α->List Value} {s:Nat} {w wr:World} {cap n k:Nat} {p:Option Addr} {l:List α} {x:α} (hv:VRow ec s w p n cap l) (ho:Only [] w wr) (hx:l[k]? = some x) :
  ∃ bk off,p=some ⟨bk,off,none⟩/\bk<wr.heap.size/\∀ j v,(ec x)[j]? = some v->wr.cell? ⟨bk,off+(k*s+j),none⟩=some v:=by
 obtain⟨b,off,hp,hb,hc⟩:=hv.cell k x hx;exact⟨b,off,hp,Nat.lt_of_lt_of_le hb ho.size,fun j v hj=>by rw[ho.cell hb (by simp)];exact hc j v hj⟩
theorem getD_some {α:Type} {l:List α} {k:Nat} (z:α) (h:k<l.length):l[k]? = some (l.getD k z):=by simp[List.getD_eq_getElem?_getD,h]
theorem VRow.sg {w wr:World} {cap k:Nat} {p:Option Addr} {l:List Sg} (hv:VRow sgC 2 w p l.length cap l) (ho:Only [] w wr) (hk:k<l.length) :
  ∃ bk off,p=some ⟨bk,off,none⟩/\wr.cell? ⟨bk,off+k*2,none⟩=some (.int .i64 (l.getD k sg0).a)/\wr.cell? ⟨bk,off+k*2+1,none⟩=some (.int .i64 (l.getD k sg0).p)/\bk<wr.heap.size:=by
 obtain⟨bk,off,hp,hb,hc⟩:=hv.at_ ho (getD_some sg0 hk);exact⟨bk,off,hp,hc 0 _ rfl,hc 1 _ rfl,hb⟩
def OscR (w:World) (l:List Sg) (vi:Value) (wr:World):Prop:=
 ∃ k:Nat,k<=l.length/\vi=.int .i64 k/\fe (sgE l) l.length 0=fe (sgE l) (l.length-k) k/\Only [] w wr
theorem inR_no {n lo hi:Int} (h:¬ inR n lo hi=true):n<lo∨(lo<=n/\hi<n):=by
 have:=fun a b=>h (inR_t.2 ⟨a,b⟩);rcases Int.lt_or_le n lo with h1|h1
 ·exact .inl h1
 ·exact .inr ⟨h1,by rcases Int.lt_or_le hi n with h2|h2;exact h2;exact absurd h2 (this h1)⟩
theorem pOsc {w:World} {p:Option Addr} {n cap:Nat} {l:List Sg} (ph:Int) (hv:VRow sgC 2 w p n cap l) (hn:n<=100000) :
  Calls Tryz.prog 76 #[.agg #[.int .i64 ph,.slice p n cap]] w fun e w'=>e=.returned (.int .i64 (oscE ph l))/\Only [] w w':=by
 have hl:=hv.len;subst hl;have HV:=hid hv;clear hv;go_enter Tryz.func76,Tryz.ntmps76
 go_upto_region 1 with (fail)
 refine alloc_abs (G:=fun w0=>Code.wp _ _ _ _ w0) ?_;intro w1 hb1 ho1 hs1;have B1:=hid hb1;have O1:=hid ho1;clear hb1 ho1 hs1;have g0:=cell_got B1.out 0;have g1:=cell_got B1.out 1;have l0:=got_lt B1.out;by_cases h0:l.length=0
 ·have d1:((l.length:Int) == 0)=true:=by rw[h0];rfl
  have HR:Hid (oscE ph l=14):=hid (by unfold oscE;rw[if_pos h0]);go_wp2;go_ret
  exact⟨by rw[HR.out];rfl,O1.out⟩
 ·have d1 : ((l.length:Int) == 0)=false:=by rw[beq_eq_false_iff_ne];omega
  by_cases h16:16<l.length
  ·have d2:decide ((l.length:Int) > 16)=true:=by simp;omega
   have d3:decide (16<(l.length:Int))=true:=by simp;omega
   have HR:Hid (oscE ph l=6):=hid (by unfold oscE;rw[if_neg h0,if_pos h16]);go_wp2;go_ret
   exact⟨by rw[HR.out];rfl,O1.out⟩
  ·have d2:decide ((l.length:Int) > 16)=false:=by simp;omega
   have d3:decide (16<(l.length:Int))=false:=by simp;omega
   by_cases hph:inR ph (-1125899906842624) 1125899906842624=true
   ·obtain⟨p0,p1⟩:=inR_t.1 hph
    have e1:decide (ph < -1125899906842624)=false:=by simp;omega
    have e2:decide (ph > 1125899906842624)=false:=by simp;omega
    have e3:decide (1125899906842624<ph)=false:=by simp;omega
    have HR:Hid (oscE ph l=fe (sgE l) l.length 0):=hid (by unfold oscE;rw[if_neg h0,if_neg h16,if_pos hph]);clear hph;go_wp2;go_loopw [27] (fun vi wr=>OscR w1 l vi wr) (fun vi _=>l.length-(intOf vi).toNat)
    case atStart=>exact⟨0,Nat.zero_le _,rfl,rfl,Only.refl _ _⟩
    case round =>
     clear d1 d2 d3 e1 e2 e3 p0 p1 g0 g1 l0;obtain⟨k,hk,rfl,hfe,ho⟩:=hrel;have HF:=hid hfe;have OO:=hid ho;have OA:=hid (O1.out.nil_trans ho);have B2:=hid (ho.got B1.out (by simp));clear hfe ho;by_cases hlt:k<l.length
     ·obtain⟨bk,off,hp,c0,c1,lb⟩:=HV.out.sg OA.out hlt
      subst hp;have hsE:sgE l k=if inR (l.getD k sg0).a 0 1125899906842624=true/\inR (l.getD k sg0).p (-500000) 500000=true then (if k=0/\(l.getD k sg0).a≠0 then 7 else if 0<k/\(l.getD k sg0).a<=(l.getD (k-1) sg0).a then 12 else 0) else 3:=rfl
      generalize l.getD k sg0=s at c0 c1 hsE;have HSE:=hid hsE;clear hsE;have HNO:Hid (sgE l k≠0->oscE ph l=sgE l k):=hid (fun h=>by rw[HR.out,HF.out,fe_no hlt h]);have HYE:Hid (sgE l k=0->fe (sgE l) l.length 0=fe (sgE l) (l.length-(k+1)) (k+1)):=hid (fun h=>by rw[HF.out,fe_yes hlt h]);go_upto_region 10 with (fail)
      refine alloc_abs (G:=fun w0=>Code.wp _ _ _ _ w0) ?_;intro w2 hb2 ho2 hs2;have E2:=hid hb2;have O2:=hid (OO.out.nil_trans ho2);have OB:=hid (OA.out.nil_trans ho2);have B3:=hid (ho2.got B2.out (by simp));clear hb2 ho2 hs2 c0 c1 lb;have c0:=cell_got E2.out 0;have c1:=cell_got E2.out 1;have le:=got_lt E2.out;have g1:=cell_got B3.out 1;have l0:=got_lt B3.out;by_cases ha:inR s.a 0 1125899906842624=true
      ·obtain⟨a0,a1⟩:=inR_t.1 ha
       have e1:decide (s.a<0)=false:=by simp;omega
       have e2:decide (s.a > 1125899906842624)=false:=by simp;omega
       have e3:decide (1125899906842624<s.a)=false:=by simp;omega
       by_cases hp:inR s.p (-500000) 500000=true
       ·obtain⟨b0,b1⟩:=inR_t.1 hp
        have e4:decide (s.p < -500000)=false:=by simp;omega
        have e5:decide (s.p > 500000)=false:=by simp;omega
        have e6:decide (500000<s.p)=false:=by simp;omega
        have hs2:=HSE.out;rw[if_pos ⟨ha,hp⟩] at hs2;by_cases hk0:k=0
        ·have k1:((k:Int) == 0)=true:=by rw[hk0];rfl
         have k2:decide (0<(k:Int))=false:=by simp;omega
         have k3:decide ((k:Int) > 0)=false:=by simp;omega
         have k4:decide (0<k)=false:=by simp;omega
         by_cases hz:s.a=0
         ·have z1:(s.a != 0)=false:=by simp[hz]
          have HX:=hid (HYE.out (by rw[hs2,if_neg (fun q=>q.2 hz),if_neg (fun q=>by omega)]));clear hs2 hz ha hp hk0;go_wp2_with fail
          go_quiet (fail)
          go_wp2;go_roundw
          case rel=>exact⟨k+1,by omega,by go_num,HX.out,O2.out.nil_trans (only_dr2 _ _)⟩
          case measure=>first|(simp[intOf];done)|(simp[intOf];omega)
         ·have z1:(s.a != 0)=true:=by simp[hz]
          have h7:sgE l k=7:=by rw[hs2,if_pos ⟨hk0,hz⟩]
          have HX:Hid (oscE ph l=7):=hid ((HNO.out (by rw[h7];decide)).trans h7);clear hs2 hz ha hp hk0 h7;go_wp2;go_ret
          exact⟨by rw[HX.out];rfl,OB.out⟩
        ·have k1:((k:Int) == 0)=false:=by rw[beq_eq_false_iff_ne];omega
         have k2:decide (0<(k:Int))=true:=by simp;omega
         have k3:decide ((k:Int) > 0)=true:=by simp;omega
         have k4:decide (0<k)=true:=by simp;omega
         obtain⟨bk',off',hp',p0,p1,lb⟩:=HV.out.sg OB.out (show k-1<l.length by omega)
         cases hp'
         generalize (l.getD (k-1) sg0)=t at p0 p1 hs2;clear p1;have hi1:(1:Int)<=(k:Int):=by omega
         have hi2:(k:Int)-1<(l.length:Int):=by omega
         have hi3:IntKind.i64.wrap ((k:Int)-1)=(k:Int)-1:=IntWalk.i64_in _ (by omega);have hi4:((k:Int)-1).toNat=k-1:=by omega
         by_cases hle:s.a<=t.a
         ·have z1:decide (s.a<=t.a)=true:=by simp[hle]
          have h12:sgE l k=12:=by rw[hs2,if_neg (fun q=>hk0 q.1),if_pos ⟨by omega,hle⟩]
          have HX:Hid (oscE ph l=12):=hid ((HNO.out (by rw[h12];decide)).trans h12);clear hs2 hle ha hp hk0 h12;go_wp2_with fail
          go_quiet (fail)
          go_wp2;go_ret
          exact⟨by rw[HX.out];rfl,OB.out.nil_trans (only_dr2 _ _)⟩
         ·have z1:decide (s.a<=t.a)=false:=by simpa using hle
          have HX:=hid (HYE.out (by rw[hs2,if_neg (fun q=>hk0 q.1),if_neg (fun q=>hle q.2)]));clear hs2 hle ha hp hk0;go_wp2_with fail
          go_quiet (fail)
          clear hi3 hi4;go_wp2;go_roundw
          case rel=>exact⟨k+1,by omega,by go_num,HX.out,O2.out.nil_trans (only_dr2 _ _)⟩
          case measure=>first|(simp[intOf];done)|(simp[intOf];omega)
       ·have h3:sgE l k=3:=by rw[HSE.out,if_neg (fun q=>hp q.2)]
        have HX:Hid (oscE ph l=3):=hid ((HNO.out (by rw[h3];decide)).trans h3);rcases inR_no hp with hq|⟨hq,hr⟩
        ·have e4:decide (s.p < -500000)=true:=by simp;omega
         clear h3 ha hp;go_wp2;go_ret
         exact⟨by rw[HX.out];rfl,OB.out⟩
        ·have e4:decide (s.p < -500000)=false:=by simp;omega
         have e5:decide (s.p > 500000)=true:=by simp;omega
         have e6:decide (500000<s.p)=true:=by simp;omega
         clear h3 ha hp;go_wp2;go_ret
         exact⟨by rw[HX.out];rfl,OB.out⟩
      ·have h3:sgE l k=3:=by rw[HSE.out,if_neg (fun q=>ha q.1)]
       have HX:Hid (oscE ph l=3):=hid ((HNO.out (by rw[h3];decide)).trans h3);rcases inR_no ha with hq|⟨hq,hr⟩
       ·have e1:decide (s.a<0)=true:=by simp;omega
        clear h3 ha;go_wp2;go_ret
        exact⟨by rw[HX.out];rfl,OB.out⟩
       ·have e1:decide (s.a<0)=false:=by simp;omega
        have e2:decide (s.a > 1125899906842624)=true:=by simp;omega
        have e3:decide (1125899906842624<s.a)=true:=by simp;omega
        clear h3 ha;go_wp2;go_ret
        exact⟨by rw[HX.out];rfl,OB.out⟩
     ·have HX:Hid (oscE ph l=0):=hid (by rw[HR.out,HF.out,fe_end (by omega)])
      obtain rfl:k=l.length:=by omega
      go_wp2;go_ret
      exact⟨by rw[HX.out];rfl,OA.out⟩
   ·have HR:Hid (oscE ph l=3):=hid (by unfold oscE;rw[if_neg h0,if_neg h16,if_neg hph])
    rcases inR_no hph with hq|⟨hq,hr⟩
    ·have e1:decide (ph < -1125899906842624)=true:=by simp;omega
     clear hph;go_wp2;go_ret
     exact⟨by rw[HR.out];rfl,O1.out⟩
    ·have e1:decide (ph < -1125899906842624)=false:=by simp;omega
     have e2:decide (ph > 1125899906842624)=true:=by simp;omega
     have e3:decide (1125899906842624<ph)=true:=by simp;omega
     clear hph;go_wp2;go_ret
     exact⟨by rw[HR.out];rfl,O1.out⟩
end
section
open Go.Lib (hid)
set_option maxRecDepth 100000
set_option maxHeartbeats 4000000
open Go.RowKit
def BndR (w:World) (l:List Sg) (v vi:Value) (wr:World):Prop:=
 ∃ k:Nat,k<=l.length/\vi=.int .i64 k/\v=.int .i64 (oscM (l.take k))/\Only [] w wr
theorem oscM_snoc (l:List Sg) (s:Sg):oscM (l ++ [s])=max (max (oscM l) s.p) (-s.p):=by simp[oscM]
theorem oscM_bd:∀ {l:List Sg},(∀ s∈l,-500000<=s.p/\s.p<=500000)->0<=oscM l/\oscM l<=500000:=by
 intro l
 have key:∀ (l:List Sg) (b:Int),(∀ s∈l,-500000<=s.p/\s.p<=500000)->0<=b->b<=500000->0<=l.foldl (fun b s=>max (max b s.p) (-s.p)) b/\l.foldl (fun b s=>max (max b s.p) (-s.p)) b<=500000:=by
  intro l;induction l with
  | nil=>intro b _ h0 h1;exact⟨h0,h1⟩
  | cons s r ih =>
   intro b h h0 h1;have hs:=h s (by simp);rw[List.foldl_cons];exact ih _ (fun x hx=>h x (by simp[hx])) (by omega) (by omega)
 exact fun h=>key l 0 h (by decide) (by decide)
theorem pBound {w:World} {p:Option Addr} {n cap:Nat} {l:List Sg} (ph:Int) (hv:VRow sgC 2 w p n cap l) (hn:n<=100000) :
  Calls Tryz.prog 77 #[.agg #[.int .i64 ph,.slice p n cap]] w fun e w'=>e=.returned (.int .i64 (oscB ph l))/\Only [] w w':=by
 have hl:=hv.len;subst hl;have HV:=hid hv;clear hv;go_enter Tryz.func77,Tryz.ntmps77
 go_wp2_with fail
 refine alloc_abs (G:=fun w0=>Calls _ _ _ w0 _) ?_;intro w1 hb1 ho1 hs1;have B1:=hid hb1;have O1:=hid ho1;clear hb1 ho1 hs1;refine (pOsc ph (HV.out.kept O1.out) hn).mono ?_;rintro e w2 ⟨rfl,ho2⟩;have B2:=hid (ho2.got B1.out (by simp));have O2:=hid (O1.out.nil_trans ho2);clear ho2 B1 O1;have g0:=cell_got B2.out 0;have g1:=cell_got B2.out 1;have l0:=got_lt B2.out;by_cases hc:oscE ph l=0
 ·have HR:Hid (oscB ph l=oscM l):=hid (by unfold oscB;rw[if_pos hc])
  have hall:∀ s∈l,-500000<=s.p/\s.p<=500000:=fun s hs=>by
   obtain⟨i,hi,rfl⟩:=List.getElem_of_mem hs;have:=(oscE_ok hc).2.2.2 i hi;unfold sgE at this;by_cases hq:inR (l.getD i sg0).a 0 1125899906842624=true/\inR (l.getD i sg0).p (-500000) 500000=true
   ·have h2:=inR_t.1 hq.2
    rwa [show l.getD i sg0=l[i] by simp[List.getD_eq_getElem?_getD,hi]] at h2
   ·rw[if_neg hq] at this;cases this
  have HAL:=hid hall;rw[hc];clear hc hall;go_wp2;go_loopw [3,12] (fun v vi wr=>BndR w2 l v vi wr) (fun _ vi _=>l.length-(intOf vi).toNat)
  case atStart=>exact⟨0,Nat.zero_le _,rfl,rfl,Only.refl _ _⟩
  case round =>
   clear g0 g1 l0;obtain⟨k,hk,rfl,rfl,ho⟩:=hrel;have OO:=hid ho;have OA:=hid (O2.out.nil_trans ho);clear ho;by_cases hlt:k<l.length
   ·obtain⟨bk,off,hp,c0,c1,lb⟩:=HV.out.sg OA.out hlt
    subst hp;have hgk:=getD_some sg0 hlt;have hsb:=HAL.out _ (List.mem_of_getElem? hgk);have htk:oscM (l.take (k+1))=max (max (oscM (l.take k)) (l.getD k sg0).p) (-(l.getD k sg0).p):=by rw[List.take_add_one,hgk];exact oscM_snoc _ _
    have hmb:=oscM_bd (l:=l.take k) (fun s hs=>HAL.out s (List.mem_of_mem_take hs));generalize l.getD k sg0=s at c0 c1 hsb htk;generalize oscM (l.take k)=z at hmb htk ⊢;have HTK:=hid htk;clear hgk htk;obtain⟨s0,s1⟩:=hsb;obtain⟨m0,m1⟩:=hmb;go_wp2;go_roundw
    case rel=>exact⟨k+1,by omega,by go_num,by rw[HTK.out];first|rfl|(congr 1;omega),OO.out.alloc _⟩
    case measure=>first|(simp[intOf];done)|(simp[intOf];omega)
   ·rw[List.take_of_length_le (by omega)]
    obtain rfl:k=l.length:=by omega
    go_wp2;go_ret
    exact⟨by rw[HR.out];rfl,OA.out⟩
 ·have HR:Hid (oscB ph l=0):=hid (by unfold oscB;rw[if_neg hc])
  have b1:(oscE ph l == 0)=false:=by simp[hc]
  have b2:(oscE ph l != 0)=true:=by simp[hc]
  clear hc;go_wp2;go_ret
  exact⟨by rw[HR.out];rfl,O2.out⟩
end
section
open Go.Lib (hid)
set_option maxRecDepth 100000
set_option maxHeartbeats 2000000
open Go.RowKit
def clp (n:Int):Int:=min (max n 0) 10000000000
theorem clp_eq {n:Int}:clp n=n↔inR n 0 10000000000=true:=by rw[inR_t];unfold clp;omega
def LimI (w1:World) (b:Nat) (x y:Int) (vi:Value) (wr:World):Prop:=
 ∃ k:Nat,k<=2/\vi=.int .i64 k/\wr.heap[b]? = some (.cells #[.int .i64 (if 0<k then clp x else x),.int .i64 (if 1<k then clp y else y)] 76 (0,0))/\Only [b] w1 wr
theorem pLimited (x y:Int) (w:World):Calls Tryz.prog 91 #[.agg #[.int .i64 x,.int .i64 y]] w fun e w'=>e=.returned (.agg #[.int .i64 (clp x),.int .i64 (clp y)])/\Only [] w w':=by
 go_enter Tryz.func91,Tryz.ntmps91
 go_upto_region 1 with (fail)
 refine alloc_abs (G:=fun w0=>Code.wp _ _ _ _ (w0.alloc _)) ?_;intro w0 hb0 ho0 hs0;have hlt:w.heap.size<w0.heap.size:=got_lt hb0;rw[<-hs0];clear hs0;refine alloc_abs (G:=fun w0=>Code.wp _ _ _ _ w0) ?_;intro w1 hb1 ho1 hs1;have B1:=hid (ho1.got hb0 (by simp));have C1:=hid hb1;have O1:=hid (ho0.nil_trans ho1);clear hb0 ho0 hb1 ho1 hs1;go_wp2;go_loopw [4] (fun vi wr=>LimI w1 w.heap.size x y vi wr) (fun vi _=>2-(intOf vi).toNat)
 case atStart=>exact⟨0,by omega,rfl,B1.out,Only.refl _ _⟩
 case round =>
  obtain⟨k,hk,rfl,hb,ho⟩:=hrel;have BB:=hid hb;have OO:=hid ho;clear hb ho;have hcases:k=0∨k=1∨k=2:=by omega
  rcases hcases with rfl|rfl|rfl
  ·have g0:=cell_got BB.out 0;have f0:=frozen_got BB.out 0;have l0:=got_lt BB.out
   simp only[Nat.lt_irrefl,if_false] at g0;go_wp2;have E0:∀ z:Int,(if 10000000000<if z<0 then (0:Int) else z then 10000000000 else if z<0 then 0 else z)=clp z:=by intro z;unfold clp;split<;>split<;>omega
   rw[E0];exact⟨⟨1,by omega,rfl,by simpa using setCell_got (o:=0) _ BB.out,OO.out.setCell (Or.inl (by simp)) _⟩,by simp[intOf]⟩
  ·have g1:=cell_got BB.out 1;have f1:=frozen_got BB.out 1;have l1:=got_lt BB.out
   simp only[Nat.lt_irrefl,if_false,if_true,Nat.zero_lt_one] at g1;go_wp2;have E0:∀ z:Int,(if 10000000000<if z<0 then (0:Int) else z then 10000000000 else if z<0 then 0 else z)=clp z:=by intro z;unfold clp;split<;>split<;>omega
   rw[E0];exact⟨⟨2,by omega,rfl,by simpa using setCell_got (o:=1) _ BB.out,OO.out.setCell (Or.inl (by simp)) _⟩,by simp[intOf]⟩
  ·have g0:=cell_got BB.out 0;have g1:=cell_got BB.out 1;have l1:=got_lt BB.out
   simp only[if_true,Nat.zero_lt_two,Nat.one_lt_two] at g0 g1;have hc1:=OO.out.got C1.out (by simp;omega);have HC:=hid hc1;have r0:=cell_got hc1 0;have r1:=cell_got hc1 1;have q0:=frozen_got hc1 0;have q1:=frozen_got hc1 1;have s1:=cell_got (setCell_got (o:=0) (.int .i64 (clp x)) hc1) 1;have s0:=frozen_got (setCell_got (o:=0) (.int .i64 (clp x)) hc1) 1;have l2:=got_lt hc1;clear hc1;go_wp2;have HD:=setCell_got (o:=1) (.int .i64 (clp y)) (setCell_got (o:=0) (.int .i64 (clp x)) HC.out);have e0:=cell_got HD 0;have e1:=cell_got HD 1
   have hO:Only [] w ((wr.setCell ⟨w0.heap.size,0,none⟩ (.int .i64 (clp x))).setCell ⟨w0.heap.size,1,none⟩ (.int .i64 (clp y))):=
    ((O1.out.trans OO.out (fun x hx=>by simp at hx;subst hx;exact .inr (Nat.le_refl _))).setCell (Or.inr (by simp;omega)) _).setCell (Or.inr (by simp;omega)) _
   exact bodyPost_ret (v:=.agg #[.int .i64 (clp x),.int .i64 (clp y)]) (by simp[results,Tryz.results91,go_sem,e0,e1]) rfl ⟨rfl,hO⟩
theorem sTime (n:Int) (w:World):Calls Tryz.prog 92 #[.int .i64 n] w fun e w'=>e=.returned (.bool (inR n 0 1125899906842624))/\w=w':=by
 by_cases h0:0<=n
 focus
  have d1:decide (n >= 0)=true:=by simpa using h0
  have d2:decide (0<=n)=true:=by simpa using h0
  have HR:Hid (inR n 0 1125899906842624=decide (n<=1125899906842624)):=hid (by simp[inR,h0])
 rotate_left
 focus
  have d1:decide (n >= 0)=false:=by simpa using h0
  have d2:decide (0<=n)=false:=by simpa using h0
  have HR:Hid (inR n 0 1125899906842624=false):=hid (by simp[inR,h0])
 rotate_left
 all_goals
  clear h0;go_enter Tryz.func92,Tryz.ntmps92
  go_wp2;go_ret
  exact⟨by rw[HR.out];rfl,rfl⟩
theorem pDir (n:Int) (w:World):Calls Tryz.prog 93 #[.int .i64 n] w fun e w'=>e=.returned (.bool (inR n 0 1))/\w=w':=by
 by_cases h0:n=0
 ·subst h0
  go_enter Tryz.func93,Tryz.ntmps93
  go_wp2;go_ret
  exact⟨rfl,rfl⟩
 ·have d1:(n == 0)=false:=by simp[h0]
  have HR:Hid (inR n 0 1=(n == 1)):=hid (by rw[Bool.eq_iff_iff,inR_t];simp;omega);clear h0;go_enter Tryz.func93,Tryz.ntmps93
  go_wp2;go_ret
  exact⟨by rw[HR.out];rfl,rfl⟩
end
end Go.Proofs.YtppjhbjmfkiejaaGreat
