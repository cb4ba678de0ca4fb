/- F1 Na Nb Nc Nd -/
import Derived.Test.YthbgcpfklmlnjaaGreatFJh
import Derived.Test.YthbgcpfklmlnjaaGreatFMx
import Derived.Test.YthbgcpfklmlnjaaGreatFSb
namespace Go.Proofs.YthbgcpfklmlnjaaGreat
open List (getD_eq_getElem?_getD getElem?_eq_getElem map_cons map_nil mem_singleton)
open IntKind (wrap_i64 wrap_u64)
set_option maxRecDepth 100000
set_option maxHeartbeats 8000000
open Go.RowKit
section
structure Sgm where
 a:Int
 p:Int
def gn:List Sgm->Int->Int
 | [],_=>0
 | [s],t=>max 0 (t-s.a)*s.p
 | s::s'::r,t=>max 0 (min t s'.a-s.a)*s.p+gn (s'::r) t
def msr:List Sgm->Int->Int
 | [],_=>0
 | s::_,t=>max 0 (t-s.a)
def Srt:List Sgm->Prop
 | []=>True
 | [_]=>True
 | s::s'::r=>s.a<s'.a/\Srt (s'::r)
theorem YD {n p B:Int} (hn:0<=n) (h0: -B<=p) (h1:p<=B): -(B*n)<=n*p/\n*p<=B*n:=by
 have q1:=Int.mul_le_mul_of_nonneg_left h1 hn;have q2:=Int.mul_le_mul_of_nonneg_left h0 hn;rw[Int.mul_neg] at q2;rw[Int.mul_comm B n];exact⟨q2,q1⟩
theorem YU {B a b:Int} (hab:a<=b):∀ (l:List Sgm),(∀ s∈l,-B<=s.p/\s.p<=B)->Srt l-> -(B*(msr l b-msr l a))<=gn l b-gn l a/\gn l b-gn l a<=B*(msr l b-msr l a)
 | [],_,_=>by simp[gn,msr]
 |[s],h,_=>by
  obtain⟨h0,h1⟩:=h s (by simp);have:=YD (n:=max 0 (b-s.a)-max 0 (a-s.a)) (by omega) h0 h1;rw[Int.sub_mul] at this;simpa [gn,msr] using this
 |s::s'::r,h,hs=>by
  obtain⟨h0,h1⟩:=h s (by simp);obtain⟨g0,g1⟩:=YU hab (s'::r) (fun x hx=>h x (List.mem_cons_of_mem _ hx)) hs.2;have hlt:=hs.1;have:=YD (n:=max 0 (min b s'.a-s.a)-max 0 (min a s'.a-s.a)) (by omega) h0 h1;rw[Int.sub_mul] at this;have hm:max 0 (b-s.a)-max 0 (a-s.a)=(max 0 (min b s'.a-s.a)-max 0 (min a s'.a-s.a))+(max 0 (b-s'.a)-max 0 (a-s'.a)):=by omega
  show -(B*(max 0 (b-s.a)-max 0 (a-s.a)))<=(max 0 (min b s'.a-s.a)*s.p+gn (s'::r) b)-(max 0 (min a s'.a-s.a)*s.p+gn (s'::r) a)/\(max 0 (min b s'.a-s.a)*s.p+gn (s'::r) b)-(max 0 (min a s'.a-s.a)*s.p+gn (s'::r) a)<=B*(max 0 (b-s.a)-max 0 (a-s.a))
  rw[hm,Int.mul_add];simp only[msr] at g0 g1;omega
def rdO (ph:Int) (l:List Sgm) (t:Int):Int:=ph+t+gn l t / 1000000000
end
section
def shR (x y:Int):Int:=x.fdiv (2 ^ min y.toNat 64)
theorem FU {y:Int} (h:0<=y) (x:Int):Op.shift .shr .u64 x .u64 y=pure (.int .u64 (shR x y)):=by
 unfold Op.shift shR;rw[if_neg (by omega)];rfl
def JX (x:Int) (r:Int × Int):Int:=IntKind.u64.wrap (bits .xor .u64 x (shR x r.1)*r.2)
def gL (R:List (Int × Int)) (a b:Int):Int:=R.foldl JX (IntKind.u64.wrap (a+IntKind.u64.wrap (11400714819323198485*IntKind.u64.wrap (b+1))))
def tT (w:World) (R:List (Int × Int)):Prop:=∃ s0 m0 s1 m1 s2 m2:Int,R=[(s0,m0),(s1,m1),(s2,m2)]/\0<=s0/\0<=s1/\0<=s2 /\
 w.heap[0]? = some (.cells #[.int .u64 s0,.int .u64 m0,.int .u64 s1,.int .u64 m1,.int .u64 s2,.int .u64 m2] 222 (0,0))
theorem tT.kept {w w':World} {R:List (Int × Int)} (h:tT w R) (ho:Only [] w w'):tT w' R:=by
 obtain⟨s0,m0,s1,m1,s2,m2,h1,h2,h3,h4,h5⟩:=h;exact⟨s0,m0,s1,m1,s2,m2,h1,h2,h3,h4,ho.got h5 (by simp)⟩
theorem wJ {R:List (Int × Int)} (a b:Int):0<=gL R a b/\gL R a b<=18446744073709551615:=by
 have key:∀ (R:List (Int × Int)) (x:Int),0<=x/\x<=18446744073709551615->0<=R.foldl JX x/\R.foldl JX x<=18446744073709551615:=by
  intro R;induction R with
  | nil=>intro x h;exact h
  | cons r R ih=>intro x _;exact ih _ (by unfold JX;rw[wrap_u64];omega)
 exact key R _ (by rw[wrap_u64];omega)
theorem pMix (a b:Int) {w:World} {R:List (Int × Int)} (h:tT w R) :
  Calls Tryz.prog 99 #[.int .u64 a,.int .u64 b] w fun e w'=>e=.returned (.int .u64 (gL R a b))/\Only [] w w':=by
 obtain⟨s0,m0,s1,m1,s2,m2,rfl,h0,h1,h2,h⟩:=h;have q0:=FU h0;have q1:=FU h1;have q2:=FU h2;obtain⟨x,hx⟩:∃ x,IntKind.u64.wrap (a+IntKind.u64.wrap (11400714819323198485*IntKind.u64.wrap (b+1)))=x:=⟨_,rfl⟩;have HE:Hid (gL [(s0,m0),(s1,m1),(s2,m2)] a b=JX (JX (JX x (s0,m0)) (s1,m1)) (s2,m2)):=Lib.hid (by unfold gL;rw[hx];rfl);obtain⟨res,hr⟩:∃ r,gL [(s0,m0),(s1,m1),(s2,m2)] a b=r:=⟨_,rfl⟩;rw[hr] at HE |-;clear hr h0 h1 h2;unfold JX at HE;dsimp only at HE;obtain⟨y1,r1⟩:∃ y,IntKind.u64.wrap (bits .xor .u64 x (shR x s0)*m0)=y:=⟨_,rfl⟩;rw[r1] at HE;obtain⟨y2,r2⟩:∃ y,IntKind.u64.wrap (bits .xor .u64 y1 (shR y1 s1)*m1)=y:=⟨_,rfl⟩;rw[r2] at HE;obtain⟨y3,r3⟩:∃ y,IntKind.u64.wrap (bits .xor .u64 y2 (shR y2 s2)*m2)=y:=⟨_,rfl⟩;rw[r3] at HE;have i0:∀ w,(Instr.index 222 (.agg #[.int .u64 s0,.int .u64 m0,.int .u64 s1,.int .u64 m1,.int .u64 s2,.int .u64 m2]) (.int .i64 0)).run Tryz.prog w=.ok (.agg #[.int .u64 s0,.int .u64 m0]) w:=fun w=>by kernel_rfl
 have i1:∀ w,(Instr.index 222 (.agg #[.int .u64 s0,.int .u64 m0,.int .u64 s1,.int .u64 m1,.int .u64 s2,.int .u64 m2]) (.int .i64 1)).run Tryz.prog w=.ok (.agg #[.int .u64 s1,.int .u64 m1]) w:=fun w=>by kernel_rfl
 have i2:∀ w,(Instr.index 222 (.agg #[.int .u64 s0,.int .u64 m0,.int .u64 s1,.int .u64 m1,.int .u64 s2,.int .u64 m2]) (.int .i64 2)).run Tryz.prog w=.ok (.agg #[.int .u64 s2,.int .u64 m2]) w:=fun w=>by kernel_rfl
 have m:=mY h;have k:=m.out.k;clear h;go_enter Tryz.func99,Tryz.ntmps99
 go_wp2_with fail
 refine wp_loop_rounds 4 ?_;iterate 4 (rw[rounds_succ];go_wp2_with (first|((with_reducible refine wU ?_);clear k m;intro w m k)|((with_reducible refine lE (fun w o g k K hK=>⟨rfl,?_⟩));simp[results,Tryz.results99,go_sem];refine hK _ ?_;clear hK K k;exact⟨by rw[HE.out],o⟩)))
end
section
open Go.Sort
open Go.Lib (hid)
theorem eqO {P:Program} {f:FuncId} {args:Array Value} {w:World} {v:Value} (h:Calls P f args w fun e w'=>e=.returned v/\w=w'):Calls P f args w fun e w'=>e=.returned v/\Only [] w w':=
 h.mono fun _ _ h=>⟨h.1,h.2 ▸ Only.refl _ _⟩
def DU (t:Int) (p:Int × Int) (c:Ch):Int × Int:=if c.a<=t then (if c.d=0 then (c.y,p.2) else (p.1,c.y)) else p
def wS (l:Lk) (t:Int):Int × Int:=l.ch.foldl (DU t) (l.d0,l.d1)
def F8 (p:Int × Int) (d:Int):Int:=if d=0 then p.1 else p.2
def GI (R:List (Int × Int)) (l:Lk) (d n:Int):Int:=gL R l.sd (4*n+2*d+1) % (F8 (l.v0,l.v1) d+1)
def K3 (R:List (Int × Int)) (l:Lk) (d t n:Int):Option Int:=
 if gL R l.sd (4*n+2*d) % 1000<l.lo then none else some (t+F8 (wS l t) d+GI R l d n)
theorem YK {l:Lk} (h:bV l=0):(0<=l.d0/\l.d0<=10000000000)/\(0<=l.d1/\l.d1<=10000000000)/\(0<=l.v0/\l.v0<=10000000000)/\(0<=l.v1/\l.v1<=10000000000)/\(0<=l.lo/\l.lo<=1000)/\l.ch.all tQ=true/\l.ch.length<=16:=by
 unfold bV at h;split at h
 ·rename_i h1
  split at h
  ·rename_i h2
   split at h
   ·exact absurd h (by decide)
   ·rename_i h3
    unfold UD at h1;simp only[Bool.and_eq_true,bH] at h1;exact⟨h1.1.1,h1.1.2,h1.2.1.1,h1.2.1.2,h1.2.2,h2,by omega⟩
  ·exact absurd h (by decide)
 ·exact absurd h (by decide)
theorem ch_ok {l:List Ch} (h:l.all tQ=true) {k:Nat} (hk:k<l.length):(0<=l[k].a/\l[k].a<=1125899906842624)/\(l[k].d=0\/l[k].d=1)/\(0<=l[k].y/\l[k].y<=10000000000):=by
 have:=List.all_eq_true.1 h _ (List.getElem_mem hk);unfold tQ at this;simp only[Bool.and_eq_true,bH] at this;exact⟨this.1,by omega,this.2.2⟩
theorem ZF {t:Int}:∀ {l:List Ch} {p:Int × Int},l.all tQ=true->(0<=p.1/\p.1<=10000000000)/\(0<=p.2/\p.2<=10000000000)->(0<=(l.foldl (DU t) p).1/\(l.foldl (DU t) p).1<=10000000000)/\(0<=(l.foldl (DU t) p).2/\(l.foldl (DU t) p).2<=10000000000)
 | [],_,_,hp=>hp
 |c::l,p,h,hp=>by
  have hc:=ch_ok h (k:=0) (by simp);rw[List.getElem_cons_zero] at hc;refine ZF (l:=l) (by simp only[List.all_cons,Bool.and_eq_true] at h;exact h.2) ?_;unfold DU;split
  ·split
   ·exact⟨hc.2.2,hp.2⟩
   ·exact⟨hp.1,hc.2.2⟩
  ·exact hp
theorem XG (n:Int) (w:World) :
  Calls Tryz.prog 109 #[.int .i64 n] w fun e w'=>e=.returned (.bool (bI n 0 1099511627776))/\Only [] w w':=by
 obtain⟨res,HE⟩:∃ zz,Hid (bI n 0 1099511627776=zz):=⟨_,hid rfl⟩;rw[HE.out];unfold bI at HE;by_cases h0:0<=n
 focus
  have dh0:decide (0<=n)=true:=dF h0;by_cases h1:n<=1099511627776
  focus
   have dh1:decide (n<=1099511627776)=true:=dF h1;rw[dF (And.intro h0 h1)] at HE;obtain rfl:=HE.out
  rotate_left 1
  focus
   have dh1:decide (n<=1099511627776)=false:=bR h1;rw[bR (fun q=>h1 q.2)] at HE;obtain rfl:=HE.out
 rotate_left 2
 focus
  have dh0:decide (0<=n)=false:=bR h0;rw[bR (fun q=>h0 q.1)] at HE;obtain rfl:=HE.out
 all_goals
  have m:=dD w [];have k:=m.out.k;go_enter Tryz.func109,Tryz.ntmps109
  go_wp2_with (first|((with_reducible refine wU ?_);clear k m;intro w m k)|((with_reducible refine lE (fun w o g k K hK=>⟨rfl,?_⟩));simp[results,Tryz.results109,go_sem];refine hK _ ?_;exact⟨rfl,o⟩))
theorem pDelays {w:World} {p:Option Addr} {n cap:Nat} (l:Lk) (t:Int) (hv:aS UE 3 w p n cap l.ch) (hc:l.ch.all tQ=true) (hn:n<=100000) :
  Calls Tryz.prog 114 #[MN l p n cap,.int .i64 t] w fun e w'=>e=.returned (.agg #[.int .i64 (wS l t).1,.int .i64 (wS l t).2])/\Only [] w w':=by
 have HV:=hid hv;have hln:=hv.len;have hcap:=Nat.le_trans hv.le hv.cm;subst hln;have HCH:=hid (fun k (hk:k<l.ch.length)=>ch_ok hc hk);obtain⟨res,HE⟩:∃ zz,Hid (wS l t=zz):=⟨_,hid rfl⟩;rw[HE.out];unfold wS at HE;unfold MN;obtain⟨A,B,d0,d1,v0,v1,lo,sd,ch⟩:=l;dsimp only at HV HCH HE hcap hn |-;clear hv hc;obtain⟨wo,hwo⟩:∃ wo:World,wo=w:=⟨_,rfl⟩;subst hwo;have m:=dD wo [];have k:=m.out.k;go_enter Tryz.func114,Tryz.ntmps114
 go_wp2_with ((with_reducible first|refine cU ?_|refine wU ?_);clear k m;intro w m k)
 have hb5:=gB (w:=w) (b:=wo.heap.size+1+1);have hb4:=gB (w:=w) (b:=wo.heap.size+1);have n45:wo.heap.size+1+1≠wo.heap.size+1:=gN w;obtain⟨b5,hB5⟩:∃ b,wo.heap.size+1+1=b:=⟨_,rfl⟩;obtain⟨b4,hB4⟩:∃ b,wo.heap.size+1=b:=⟨_,rfl⟩;have g5:wo.heap.size<=b5:=by omega
 have g4:wo.heap.size<=b4:=by omega
 have OB:=hid m.out.only;clear k m;rw[hB5] at hb5 n45 |-;rw[hB4] at hb4 n45 |-;have H4:=hid hb4;have H5:=hid hb5;clear hB5 hB4 hb4 hb5;obtain⟨wl,hwl⟩:∃ wl:World,wl=w:=⟨_,rfl⟩;subst hwl;go_loopw [13] (fun vi wr=>∃ (j:Nat) (x y:Int),j<=ch.length/\vi=.int .i64 j/\(ch.take j).foldl (DU t) (d0,d1)=(x,y)/\wr.heap[b5]? = some (.cells #[.int .i64 x,.int .i64 y] 45 (0,0))/\Only [b5] wl wr) (fun vi _=>ch.length-(intOf vi).toNat)
 case atStart=>exact⟨0,d0,d1,Nat.zero_le _,rfl,rfl,H5.out,Only.refl _ _⟩
 case round =>
  obtain⟨j,x,y,hj,rfl,hf,hb,ho⟩:=hrel;have OO:=hid ho;have HF:=hid hf;have W2:=hid (OB.out.trans ho (fun q hq=>.inr (by rw[mem_singleton.1 hq];exact g5)));have HH5:=hid hb;have H4':=hid (ho.got H4.out (by simpa using fun q:b4=b5=>n45 q.symm))
  have hXX:∀ hlt:j<ch.length,∃ bk off,p=some ⟨bk,off,none⟩/\∀ w',Only [b5] wr w'->bk<w'.heap.size/\w'.cell? ⟨bk,off+j*3,none⟩=some (.int .i64 (ch[j]).a)/\w'.cell? ⟨bk,off+j*3+1,none⟩=some (.int .i64 (ch[j]).d)/\w'.cell? ⟨bk,off+j*3+2,none⟩=some (.int .i64 (ch[j]).y):=by
   intro hlt;obtain⟨bk,off,rfl,-⟩:=HV.out.ch (Only.refl [] wo) hlt;refine⟨bk,off,rfl,fun w' o=>?_⟩;obtain⟨bk',off',e,c1,c2,c3,c4⟩:=HV.out.ch (W2.out.trans o (fun q hq=>.inr (by rw[mem_singleton.1 hq];exact g5))) hlt
   cases e
   have hg:ch.getD j CP=ch[j]:=by rw[getD_eq_getElem?_getD,getElem?_eq_getElem hlt];rfl
   rw[hg] at c1 c2 c3;exact⟨c4,c1,c2,c3⟩
  have HXX:=hid hXX;clear hf hXX;by_cases hlt:j<ch.length
  ·have hlt2:(j:Int)<(ch.length:Int):=by omega
   obtain⟨bk,off,rfl,hX⟩:=HXX.out hlt;have HX:=hid hX;have hck:=HCH.out j hlt;have HFn:=hid (show (ch.take (j+1)).foldl (DU t) (d0,d1)=DU t (x,y) ch[j] by rw[List.take_succ_eq_append_getElem hlt,List.foldl_append,HF.out];rfl);have r0:IntKind.i64.wrap ((j:Int)+1)=((j+1:Nat):Int):=by rw[wrap_i64];omega
   have HJ:=hid (show j+1<=ch.length by omega);clear HXX hX HF hb ho H4';generalize ch[j]=s at HX hck HFn;obtain⟨ca,cd,cy⟩:=s;dsimp only at HX hck HFn;unfold DU at HFn;dsimp only at HFn;by_cases ht:ca<=t
   ·have dt:decide (ca<=t)=true:=dF ht
    rw[if_pos ht] at HFn;have hcd:=hck.2.1;clear hck;rcases hcd with rfl|rfl
    ·rw[if_pos rfl] at HFn
     have m:=lQ HH5.out;have k:=m.out.k;have c:=HX.out wr (Only.refl _ _);go_wp2_with (first|((with_reducible first|refine cU ?_|refine wU ?_);clear k m c;intro w m k;have c:=HX.out w m.out.only)|(go_roundw;(case rel=>exact⟨j+1,cy,y,HJ.out,by go_num,HFn.out,gB,OO.out.trans gO (fun q hq=>.inl hq)⟩);(case measure=>first|(simp[intOf];done)|(simp[intOf];omega))))
    ·rw[if_neg (by decide)] at HFn
     have m:=lQ HH5.out;have k:=m.out.k;have c:=HX.out wr (Only.refl _ _);go_wp2_with (first|((with_reducible first|refine cU ?_|refine wU ?_);clear k m c;intro w m k;have c:=HX.out w m.out.only)|(go_roundw;(case rel=>exact⟨j+1,x,cy,HJ.out,by go_num,HFn.out,gB,OO.out.trans gO (fun q hq=>.inl hq)⟩);(case measure=>first|(simp[intOf];done)|(simp[intOf];omega))))
   ·have dt:decide (ca<=t)=false:=bR ht
    rw[if_neg ht] at HFn;clear hck;have m:=lQ HH5.out;have k:=m.out.k;have c:=HX.out wr (Only.refl _ _);go_wp2_with (first|((with_reducible first|refine cU ?_|refine wU ?_);clear k m c;intro w m k;have c:=HX.out w m.out.only)|(go_roundw;(case rel=>exact⟨j+1,x,y,HJ.out,by go_num,HFn.out,gB,OO.out.trans gO (fun q hq=>.inl hq)⟩);(case measure=>first|(simp[intOf];done)|(simp[intOf];omega))))
  ·obtain rfl:j=ch.length:=by omega
   have hlt2:decide ((ch.length:Int)<(ch.length:Int))=false:=by simp
   have HFn:=HF.out;rw[List.take_length,HE.out] at HFn;subst HFn;have W3:=W2;have m:Mm wr [b4,b5] wr _:=⟨((Mem.start wr [b4,b5]).ext true H4'.out (by simp) (by simp)).ext true HH5.out (by simpa using n45) (by simp)⟩;have k:=m.out.k;go_wp2_with (first|((with_reducible first|refine cU ?_|refine wU ?_);clear k m;intro w m k)|((with_reducible refine lE (fun w o g k K hK=>⟨rfl,?_⟩));simp[results,Tryz.results114,go_sem,k];refine hK _ ?_;exact⟨rfl,W3.out.trans o (fun q hq=>.inr (by simp only[List.mem_cons,List.not_mem_nil,or_false] at hq;omega))⟩))
theorem pDelay {w:World} {p:Option Addr} {m cap:Nat} (l:Lk) (d t:Int) (hv:aS UE 3 w p m cap l.ch) (hl:bV l=0) (hn:m<=100000) (hd:d=0\/d=1) (t0:0<=t) (t1:t<=1125899906842624) :
  Calls Tryz.prog 110 #[MN l p m cap,.int .i64 d,.int .i64 t] w fun e w'=>e=.returned (.int .i64 (F8 (wS l t) d))/\Only [] w w':=by
 have HC:=hid (fun w' (o:Only [] w w')=>by have:=PK l (hv.kept o) hn;rw[hl] at this;exact this);have HD:=hid (fun w'=>by have:=eqO (pDir d w');rw[show bI d 0 1=true from bH.2 (by omega)] at this;exact this);have HT:=hid (fun w'=>by have:=eqO (VG t w');rw[show bI t 0 1125899906842624=true from bH.2 ⟨t0,t1⟩] at this;exact this);have hok:=YK hl;have HL:=hid (fun w' (o:Only [] w w')=>pDelays l t (hv.kept o) hok.2.2.2.2.2.1 hn);obtain⟨res,HE⟩:∃ zz,Hid (F8 (wS l t) d=zz):=⟨_,hid rfl⟩;rw[HE.out];unfold F8 at HE;generalize wS l t=pp at HL HE;obtain⟨x,y⟩:=pp;dsimp only at HL HE;unfold MN at HC HL |-;obtain⟨A,B,d0,d1,v0,v1,lo,sd,ch⟩:=l;dsimp only at HC HL |-;clear hv hl hn t0 t1 hok;rcases hd with rfl|rfl
 focus
  rw[if_pos rfl] at HE;obtain rfl:=HE.out;have ix:∀ w,(Instr.index 45 (.agg #[.int .i64 x,.int .i64 y]) (.int .i64 0)).run Tryz.prog w=.ok (.int .i64 x) w:=fun w=>by kernel_rfl
 rotate_left
 focus
  rw[if_neg (by decide)] at HE;obtain rfl:=HE.out;have ix:∀ w,(Instr.index 45 (.agg #[.int .i64 x,.int .i64 y]) (.int .i64 1)).run Tryz.prog w=.ok (.int .i64 y) w:=fun w=>by kernel_rfl
 rotate_left
 all_goals
  have m:=dD w [];have k:=m.out.k;go_enter Tryz.func110,Tryz.ntmps110
  go_wp2_with (first|((with_reducible first|refine cM (HC.out _ gO) ?_|refine cM (HD.out _) ?_|refine cM (HT.out _) ?_|refine cM (HL.out _ gO) ?_|refine wU ?_);clear k m;intro w m k)|((with_reducible refine lE (fun w o g k K hK=>⟨rfl,?_⟩));simp[results,Tryz.results110,go_sem];refine hK _ ?_;exact⟨rfl,o⟩))
theorem pNoise {w:World} {p:Option Addr} {m cap:Nat} (l:Lk) (d n:Int) (hv:aS UE 3 w p m cap l.ch) (hl:bV l=0) (hn:m<=100000) (hd:d=0\/d=1) (n0:0<=n) (n1:n<=1099511627776) {R:List (Int × Int)} (hR:tT w R) :
  Calls Tryz.prog 111 #[MN l p m cap,.int .i64 d,.int .i64 n] w fun e w'=>e=.returned (.int .i64 (GI R l d n))/\Only [] w w':=by
 have HC:=hid (fun w' (o:Only [] w w')=>by have:=PK l (hv.kept o) hn;rw[hl] at this;exact this);have HD:=hid (fun w'=>by have:=eqO (pDir d w');rw[show bI d 0 1=true from bH.2 (by omega)] at this;exact this);have HN:=hid (fun w'=>by have:=XG n w';rw[show bI n 0 1099511627776=true from bH.2 ⟨n0,n1⟩] at this;exact this);have hok:=YK hl;have HM:=hid (fun w' (o:Only [] w w')=>pMix l.sd (4*n+2*d+1) (hR.kept o));have hub:=wJ (R:=R) l.sd (4*n+2*d+1);obtain⟨res,HE⟩:∃ zz,Hid (GI R l d n=zz):=⟨_,hid rfl⟩;rw[HE.out];unfold GI F8 at HE;generalize gL R l.sd (4*n+2*d+1)=x at HM HE hub;unfold MN at HC |-;obtain⟨A,B,d0,d1,v0,v1,lo,sd,ch⟩:=l;dsimp only at HC HM HE hok |-;clear hv hl hn;have hv0:=hok.2.2.1;have hv1:=hok.2.2.2.1;clear hok hR;have r1:IntKind.i64.wrap (4*n)=4*n:=by rw[wrap_i64];omega
 obtain⟨v,hv,vb⟩:∃ v,(if d=0 then v0 else v1)=v/\0<=v/\v<=10000000000:=⟨_,rfl,by split<;>omega⟩;rw[hv] at HE;have q1:IntKind.i64.wrap (v+1)=v+1:=by rw[wrap_i64];omega
 have q2:IntKind.u64.wrap (v+1)=v+1:=by rw[wrap_u64];omega
 have q3:x.tmod (v+1)=x % (v+1):=Int.tmod_eq_emod_of_nonneg hub.1;have q4:0<=x % (v+1):=Int.emod_nonneg _ (by omega);have q5:x % (v+1)<v+1:=Int.emod_lt_of_pos _ (by omega);have q6:IntKind.i64.wrap (x % (v+1))=x % (v+1):=by rw[wrap_i64];omega
 have q7:(v+1 == 0)=false:=by simp;omega
 have q8:v+1≠0:=by omega
 obtain⟨z,hz⟩:∃ z,x % (v+1)=z:=⟨_,rfl⟩;rw[hz] at q3 q6 HE;obtain rfl:=HE.out;clear HE q4 q5 hz hub vb hv0 hv1;rcases hd with rfl|rfl
 focus
  rw[if_pos rfl] at hv;subst hv;have r4:IntKind.i64.wrap (4*n+1)=4*n+1:=by rw[wrap_i64];omega
  have r5:IntKind.u64.wrap (4*n+1)=4*n+1:=by rw[wrap_u64];omega
  simp only[Int.mul_zero,Int.add_zero] at HM
 rotate_left
 focus
  rw[if_neg (by decide)] at hv;subst hv;have r3:IntKind.i64.wrap (4*n+2)=4*n+2:=by rw[wrap_i64];omega
  have r4:IntKind.i64.wrap (4*n+2+1)=4*n+2+1:=by rw[wrap_i64];omega
  have r5:IntKind.u64.wrap (4*n+2+1)=4*n+2+1:=by rw[wrap_u64];omega
  simp only[Int.mul_one] at HM
 rotate_left
 all_goals
  clear n0 n1;have m:=dD w [];have k:=m.out.k;go_enter Tryz.func111,Tryz.ntmps111
  go_wp2_with (first|((with_reducible first|refine cM (HC.out _ gO) ?_|refine cM (HD.out _) ?_|refine cM (HN.out _) ?_|refine cM (HM.out _ gO) ?_|refine wU ?_);clear k m;intro w m k)|((with_reducible refine lE (fun w o g k K hK=>⟨rfl,?_⟩));simp[results,Tryz.results111,go_sem];refine hK _ ?_;exact⟨rfl,o⟩))
def yL:Option Int->Value
 | none=>.tuple #[.int .i64 0,.bool false]
 | some t=>.tuple #[.int .i64 t,.bool true]
theorem pArrive {w:World} {p:Option Addr} {m cap:Nat} (l:Lk) (d t n:Int) (hv:aS UE 3 w p m cap l.ch) (hl:bV l=0) (hn:m<=100000) (hd:d=0\/d=1) (t0:0<=t) (t1:t<=1125899906842624) (n0:0<=n) (n1:n<=1099511627776) {R:List (Int × Int)} (hR:tT w R) :
  Calls Tryz.prog 105 #[MN l p m cap,.int .i64 d,.int .i64 t,.int .i64 n] w fun e w'=>e=.returned (yL (K3 R l d t n))/\Only [] w w':=by
 have HC:=hid (fun w' (o:Only [] w w')=>by have:=PK l (hv.kept o) hn;rw[hl] at this;exact this);have HD:=hid (fun w'=>by have:=eqO (pDir d w');rw[show bI d 0 1=true from bH.2 (by omega)] at this;exact this);have HT:=hid (fun w'=>by have:=eqO (VG t w');rw[show bI t 0 1125899906842624=true from bH.2 ⟨t0,t1⟩] at this;exact this);have HN:=hid (fun w'=>by have:=XG n w';rw[show bI n 0 1099511627776=true from bH.2 ⟨n0,n1⟩] at this;exact this);have hok:=YK hl;have HM:=hid (fun w' (o:Only [] w w')=>pMix l.sd (4*n+2*d) (hR.kept o));have HY:=hid (fun w' (o:Only [] w w')=>pDelay l d t (hv.kept o) hl hn hd t0 t1);have HZ:=hid (fun w' (o:Only [] w w')=>pNoise l d n (hv.kept o) hl hn hd n0 n1 (hR.kept o));have hub:=wJ (R:=R) l.sd (4*n+2*d)
 have hdb:0<=F8 (wS l t) d/\F8 (wS l t) d<=10000000000:=by
  have:=ZF (t:=t) (p:=(l.d0,l.d1)) hok.2.2.2.2.2.1 ⟨hok.1,hok.2.1⟩;unfold F8 wS;split
  ·exact this.1
  ·exact this.2
 have hnb:0<=GI R l d n/\GI R l d n<=10000000000:=by
  unfold GI
  have hp:0<=F8 (l.v0,l.v1) d/\F8 (l.v0,l.v1) d<=10000000000:=by
   unfold F8;split
   ·exact hok.2.2.1
   ·exact hok.2.2.2.1
  have h1:=Int.emod_nonneg (gL R l.sd (4*n+2*d+1)) (b:=F8 (l.v0,l.v1) d+1) (by omega);have h2:=Int.emod_lt_of_pos (gL R l.sd (4*n+2*d+1)) (b:=F8 (l.v0,l.v1) d+1) (by omega);omega
 obtain⟨res,HE⟩:∃ zz,Hid (K3 R l d t n=zz):=⟨_,hid rfl⟩;rw[HE.out];unfold K3 at HE;generalize gL R l.sd (4*n+2*d)=x at HM HE hub;generalize F8 (wS l t) d=dl at HY HE hdb;generalize GI R l d n=no at HZ HE hnb;unfold MN at HC HY HZ |-;obtain⟨A,B,d0,d1,v0,v1,lo,sd,ch⟩:=l;dsimp only at HC HM HY HZ HE |-;clear hv hl hn hok hR;have q3:x.tmod 1000=x % 1000:=Int.tmod_eq_emod_of_nonneg hub.1;have q6:IntKind.i64.wrap (x % 1000)=x % 1000:=by rw[wrap_i64];omega
 have r1:IntKind.i64.wrap (4*n)=4*n:=by rw[wrap_i64];omega
 obtain⟨z,hz⟩:∃ z,x % 1000=z:=⟨_,rfl⟩;rw[hz] at q3 q6 HE;have s1:IntKind.i64.wrap (t+dl)=t+dl:=by rw[wrap_i64];omega
 have s2:IntKind.i64.wrap (t+dl+no)=t+dl+no:=by rw[wrap_i64];omega
 clear hz hub hdb hnb t0 t1;rcases hd with rfl|rfl
 focus
  have r5:IntKind.u64.wrap (4*n)=4*n:=by rw[wrap_u64];omega
  simp only[Int.mul_zero,Int.add_zero] at HM
 rotate_left
 focus
  have r3:IntKind.i64.wrap (4*n+2)=4*n+2:=by rw[wrap_i64];omega
  have r5:IntKind.u64.wrap (4*n+2)=4*n+2:=by rw[wrap_u64];omega
  simp only[Int.mul_one] at HM
 rotate_left
 all_goals
  clear n0 n1;by_cases hlt:z<lo
  ·have hd1:decide (z<lo)=true:=dF hlt
   rw[if_pos hlt] at HE;obtain rfl:=HE.out;clear HY HZ;unfold yL;have m:=dD w [];have k:=m.out.k;go_enter Tryz.func105,Tryz.ntmps105
   go_wp2_with (first|((with_reducible first|refine cM (HC.out _ gO) ?_|refine cM (HD.out _) ?_|refine cM (HT.out _) ?_|refine cM (HN.out _) ?_|refine cM (HM.out _ gO) ?_|refine wU ?_);clear k m;intro w m k)|((with_reducible refine rG (id:=6) [0,1,2,3,4,5,6,7,8,9,10,11,12] [] (by kernel_rfl) (by kernel_rfl) ?_);simp only[pick,map_cons,map_nil,List.getD_cons_succ,List.getD_cons_zero];(repeat' (first|go_big_quiet_step (fail)|(refine wpQuiet_step (fun K hK=>?_);go_simp;(first|(refine hK _ ?_;clear hK K)|(split<;>(refine hK _ ?_;clear hK K))))));all_goals (refine wpQuiet_nil ?_;clear k m;intro w m k))|((with_reducible refine lE (fun w o g k K hK=>⟨rfl,?_⟩));simp[results,Tryz.results105,go_sem];refine hK _ ?_;exact⟨rfl,o⟩))
  ·have hd1:decide (z<lo)=false:=bR hlt
   rw[if_neg hlt] at HE;obtain rfl:=HE.out;unfold yL;have m:=dD w [];have k:=m.out.k;go_enter Tryz.func105,Tryz.ntmps105
   go_wp2_with (first|((with_reducible first|refine cM (HC.out _ gO) ?_|refine cM (HD.out _) ?_|refine cM (HT.out _) ?_|refine cM (HN.out _) ?_|refine cM (HM.out _ gO) ?_|refine wU ?_);clear k m;intro w m k)|((with_reducible refine rG (id:=6) [0,1,2,3,4,5,6,7,8,9,10,11,12] [] (by kernel_rfl) (by kernel_rfl) ?_);simp only[pick,map_cons,map_nil,List.getD_cons_succ,List.getD_cons_zero];(repeat' (first|go_big_quiet_step (with_reducible first|exact gX (HY.out _ S9)|exact gX (HZ.out _ S9))|(refine wpQuiet_step (fun K hK=>?_);go_simp;(first|(refine hK _ ?_;clear hK K)|(split<;>(refine hK _ ?_;clear hK K))))));all_goals (refine wpQuiet_nil ?_;clear k m;intro w m k))|((with_reducible refine lE (fun w o g k K hK=>⟨rfl,?_⟩));simp[results,Tryz.results105,go_sem];refine hK _ ?_;exact⟨rfl,o⟩))
end
section
open Go.Sort
open Go.Lib (hid)
def TH (l:List Sg) (i:Nat):Int:=if i+1<l.length then (l.getD (i+1) jS).a else 1125899906842624
abbrev NM:=Sg × Int
def spC (x:NM):List Value:=[.int .i64 x.1.a,.int .i64 x.1.p,.int .i64 x.2]
theorem uH (x:NM):(spC x).length=3:=rfl
def xV (l:List Sg) (i:Nat):NM:=(l.getD i jS,TH l i)
def oF (l:List Sg):List NM:=(List.range l.length).map (xV l)
def jY (t:Int) (x:NM):Int:=max 0 (min t x.2-x.1.a)
def xS (t:Int) (l:List NM):Int:=(l.map fun x=>x.1.p*jY t x).sum
def qK (ph:Int) (l:List Sg) (t:Int):Int:=ph+t+xS t (oF l) / 1000000000
theorem uM {ph:Int} {l:List Sg} (h:cZ ph l=0):0<l.length/\l.length<=16/\(-1125899906842624<=ph/\ph<=1125899906842624) /\
  (∀ i (hi:i<l.length),(0<=l[i].a/\l[i].a<=1125899906842624)/\(-500000<=l[i].p/\l[i].p<=500000)/\(i=0->l[i].a=0)/\(∀ h0:0<i,(l[i-1]'(by omega)).a<l[i].a)):=by
 unfold cZ at h;split at h
 ·exact absurd h (by decide)
 ·rename_i h1
  split at h
  ·exact absurd h (by decide)
  ·rename_i h2
   split at h
   ·rename_i h3
    refine⟨by omega,by omega,bH.1 h3,fun i hi=>?_⟩;have h4:=sK.1 h i (Nat.zero_le _) (by omega);have hg:l.getD i jS=l[i]:=by rw[getD_eq_getElem?_getD,getElem?_eq_getElem hi];rfl
    unfold vY at h4;rw[hg] at h4;split at h4
    ·rename_i h5
     split at h4
     ·exact absurd h4 (by decide)
     ·rename_i h6
      split at h4
      ·exact absurd h4 (by decide)
      ·rename_i h7
       refine⟨bH.1 h5.1,bH.1 h5.2,fun hz=>Classical.byContradiction fun q=>h6 ⟨hz,q⟩,fun h0=>?_⟩;have hg2:l.getD (i-1) jS=l[i-1]'(by omega):=by rw[getD_eq_getElem?_getD,getElem?_eq_getElem (by omega)];rfl
       rw[hg2] at h7;omega
    ·exact absurd h4 (by decide)
   ·exact absurd h (by decide)
theorem sg_lt {ph:Int} {l:List Sg} (h:cZ ph l=0):∀ (j i:Nat) (hij:i<j) (hj:j<l.length),(l[i]'(by omega)).a<l[j].a
 | 0,_,hij,_=>absurd hij (Nat.not_lt_zero _)
 |j+1,i,hij,hj=>by
  have h1:=((uM h).2.2.2 (j+1) hj).2.2.2 (Nat.succ_pos _);simp only[Nat.add_sub_cancel] at h1;by_cases he:i=j
  ·subst he;exact h1
  ·have:=sg_lt h j i (by omega) (by omega)
   omega
theorem sg_last {ph:Int} {l:List Sg} (h:cZ ph l=0) {i:Nat} (hi:i<l.length):(l[i]=l[l.length-1]'(by omega))↔i+1=l.length:=by
 refine⟨fun he=>?_,fun he=>by congr 1;omega⟩;by_cases hq:i+1=l.length
 ·exact hq
 ·have:=sg_lt h (l.length-1) i (by omega) (by omega)
  rw[he] at this;omega
theorem spn_bd {ph:Int} {l:List Sg} (h:cZ ph l=0) {i:Nat} (hi:i<l.length):(xV l i).1=l[i]/\0<=(xV l i).2/\(xV l i).2<=1125899906842624:=by
 have hg:l.getD i jS=l[i]:=by rw[getD_eq_getElem?_getD,getElem?_eq_getElem hi];rfl
 refine⟨hg,?_⟩;unfold xV TH;dsimp only;split
 ·rename_i h1
  have hg2:l.getD (i+1) jS=l[i+1]:=by rw[getD_eq_getElem?_getD,getElem?_eq_getElem h1];rfl
  rw[hg2];exact ((uM h).2.2.2 (i+1) h1).1
 ·omega
theorem ZC (t:Int) (x:NM) (t1:t<=1125899906842624) (h0:0<=x.1.a):0<=jY t x/\jY t x<=1125899906842624:=by unfold jY;omega
theorem F7 {a p A:Int} (a0:0<=a) (a1:a<=A) (p0: -500000<=p) (p1:p<=500000): -(A*500000)<=p*a/\p*a<=A*500000:=by
 have h1:=Int.mul_le_mul_of_nonneg_left p1 a0;have h2:=Int.mul_le_mul_of_nonneg_left p0 a0;have h3:=Int.mul_le_mul_of_nonneg_right a1 (show (0:Int)<=500000 by decide);rw[Int.mul_neg] at h2;rw[Int.mul_comm p a];omega
structure RdG (t:Int) (l:List NM) (wh rs:Int):Prop where
 sum:wh*1000000000+rs=xS t l
 w0: -(l.length*562949953500)<=wh
 w1:wh<=l.length*562949953500
 r0: -(l.length*500000000000000)<=rs
 r1:rs<=l.length*500000000000000
theorem RdG.add {t:Int} {l:List NM} {wh rs:Int} (h:RdG t l wh rs) (x:NM) (hd:0<=jY t x/\jY t x<=1125899906842624) (p0: -500000<=x.1.p) (p1:x.1.p<=500000) :
  RdG t (l ++ [x]) (wh+x.1.p*(jY t x / 1000000000)) (rs+x.1.p*(jY t x % 1000000000)):=by
 have hs:=h.sum;have a0:=h.w0;have a1:=h.w1;have b0:=h.r0;have b1:=h.r1;have q1:=F7 (a:=jY t x / 1000000000) (A:=1125899) (by omega) (by omega) p0 p1;have q2:=F7 (a:=jY t x % 1000000000) (A:=1000000000) (by omega) (by omega) p0 p1
 have e:x.1.p*jY t x=x.1.p*(jY t x / 1000000000)*1000000000+x.1.p*(jY t x % 1000000000):=by
  rw[Int.mul_assoc,<-Int.mul_add];congr 1
  omega
 have hsum:xS t (l ++ [x])=xS t l+x.1.p*jY t x:=by
  unfold xS;rw[List.map_append,List.sum_append];simp
 rw[<-e.symm] at hsum;generalize x.1.p*(jY t x / 1000000000)=u at *;generalize x.1.p*(jY t x % 1000000000)=v at *;have hl:((l ++ [x]).length:Int)=(l.length:Int)+1:=by simp
 refine⟨by omega,?_,?_,?_,?_⟩<;>rw[hl]<;>omega
theorem aS.spn {w wr:World} {n cap k:Nat} {p:Option Addr} {l:List NM} (hv:aS spC 3 w p n cap l) (ho:Only [] w wr) (hk:k<l.length) :
  ∃ bk off,p=some ⟨bk,off,none⟩/\bk<wr.heap.size/\wr.cell? ⟨bk,off+k*3,none⟩=some (.int .i64 l[k].1.a)/\wr.cell? ⟨bk,off+k*3+1,none⟩=some (.int .i64 l[k].1.p)/\wr.cell? ⟨bk,off+k*3+2,none⟩=some (.int .i64 l[k].2):=by
 obtain⟨b,off,hp,hb,hc⟩:=(hv.kept ho).cell k l[k] (getElem?_eq_getElem hk);exact⟨b,off,hp,hb,hc 0 _ rfl,hc 1 _ rfl,hc 2 _ rfl⟩
theorem SC {w:World} {p:Option Addr} {n cap:Nat} {l:List NM} (ph t:Int) (hv:aS spC 3 w p n cap l) (hn:n<=16) (hl:∀ x∈l,(0<=x.1.a/\x.1.a<=1125899906842624)/\(-500000<=x.1.p/\x.1.p<=500000)/\(0<=x.2/\x.2<=1125899906842624)) (h0: -1125899906842624<=ph/\ph<=1125899906842624) (t0:0<=t) (t1:t<=1125899906842624) :
  Calls Tryz.prog 67 #[.int .i64 ph,.slice p n cap,.int .i64 t] w fun e w'=>e=.returned (.int .i64 (ph+t+xS t l / 1000000000))/\Only [] w w':=by
 have HV:=hid hv;have hln:=hv.len;have hcap:=Nat.le_trans hv.le hv.cm;subst hln;have HL:=hid (fun k (hk:k<l.length)=>hl _ (List.getElem_mem hk));clear hv hl;obtain⟨wo,hwo⟩:∃ wo:World,wo=w:=⟨_,rfl⟩;subst hwo;go_enter Tryz.func67,Tryz.ntmps67
 go_wp2_with fail
 go_loopw [7,8,16] (fun vw vr vi wr=>∃ (j:Nat) (wh rs:Int),j<=l.length/\vw=.int .i64 wh/\vr=.int .i64 rs/\vi=.int .i64 j/\RdG t (l.take j) wh rs/\Only [] wo wr) (fun _ _ vi _=>l.length-(intOf vi).toNat)
 case atStart=>exact⟨0,0,0,Nat.zero_le _,rfl,rfl,rfl,⟨by simp[xS],by simp,by simp,by simp,by simp⟩,Only.refl _ _⟩
 case round =>
  obtain⟨j,wh,rs,hj,rfl,rfl,rfl,hs,ho⟩:=hrel;have OO:=hid ho;have HS:=hid hs;clear hs ho;by_cases hlt:j<l.length
  ·have hlt2:(j:Int)<(l.length:Int):=by omega
   obtain⟨bk,off,rfl,-⟩:=HV.out.spn (Only.refl _ _) hlt
   have HX:=hid (show ∀ w',Only [] wr w'->_ from fun w' o=>by
    have:=HV.out.spn (OO.out.aB o) hlt;obtain⟨bk',off',e,c1,c2,c3,c4⟩:=this
    cases e
    exact And.intro c1 (And.intro c2 (And.intro c3 c4)))
   have hx:=HL.out j hlt;have HA:=hid (HS.out.add l[j] (ZC t l[j] t1 hx.1.1) hx.2.1.1 hx.2.1.2);rw[<-List.take_succ_eq_append_getElem hlt] at HA;have hlen:(l.take j).length=j:=by simp;omega
   have b0:=HS.out.w0;have b1:=HS.out.w1;have b2:=HS.out.r0;have b3:=HS.out.r1;rw[hlen] at b0 b1 b2 b3;have hdb:=ZC t l[j] t1 hx.1.1;have q1:=F7 (a:=jY t l[j] / 1000000000) (A:=1125899) (by omega) (by omega) hx.2.1.1 hx.2.1.2;have q2:=F7 (a:=jY t l[j] % 1000000000) (A:=1000000000) (by omega) (by omega) hx.2.1.1 hx.2.1.2;obtain⟨d,hd⟩:∃ d,jY t l[j]=d:=⟨_,rfl⟩;have HD:=hid (show max 0 (min t l[j].2-l[j].1.a)=d from hd);rw[hd] at hdb q1 q2 HA;generalize l[j]=x at HX hx HD HA q1 q2;obtain⟨⟨sa,sp⟩,se⟩:=x;dsimp only at HX hx HD HA q1 q2;have e1:IntKind.i64.wrap (min t se-sa)=min t se-sa:=by rw[wrap_i64];omega
   have e2:max 0 (min t se-sa)=d:=HD.out;have e3:d.tdiv 1000000000=d / 1000000000:=Int.tdiv_eq_ediv_of_nonneg hdb.1;have e4:d.tmod 1000000000=d % 1000000000:=Int.tmod_eq_emod_of_nonneg hdb.1;have e5:IntKind.i64.wrap (d / 1000000000)=d / 1000000000:=by rw[wrap_i64];omega
   have e6:IntKind.i64.wrap (d % 1000000000)=d % 1000000000:=by rw[wrap_i64];omega
   obtain⟨x1,hx1⟩:∃ y,d / 1000000000=y:=⟨_,rfl⟩;obtain⟨x2,hx2⟩:∃ y,d % 1000000000=y:=⟨_,rfl⟩;rw[hx1] at e3 e5 HA q1;rw[hx2] at e4 e6 HA q2;obtain⟨y1,hy1⟩:∃ y,sp*x1=y:=⟨_,rfl⟩;obtain⟨y2,hy2⟩:∃ y,sp*x2=y:=⟨_,rfl⟩;rw[hy1] at HA q1;rw[hy2] at HA q2;have e7:IntKind.i64.wrap (sp*x1)=y1:=by rw[hy1,wrap_i64];omega
   have e8:IntKind.i64.wrap (sp*x2)=y2:=by rw[hy2,wrap_i64];omega
   have e9:IntKind.i64.wrap (wh+y1)=wh+y1:=by rw[wrap_i64];omega
   have ea:IntKind.i64.wrap (rs+y2)=rs+y2:=by rw[wrap_i64];omega
   have eb:IntKind.i64.wrap ((j:Int)+1)=((j+1:Nat):Int):=by rw[wrap_i64];omega
   have HJ:=hid (show j+1<=l.length by omega);clear HD hdb hd hx hx1 hx2 hy1 hy2 q1 q2 b0 b1 b2 b3 hlen HS;have m:=dD wr [];have k:=m.out.k;have c:=HX.out wr (Only.refl _ _);go_wp2_with ((with_reducible first|refine cU ?_|refine wU ?_);clear k m c;intro w m k;have c:=HX.out w m.out.only)
   (go_roundw;(case rel=>exact⟨j+1,_,_,HJ.out,rfl,rfl,by go_num,HA.out,OO.out.aB gO⟩);(case measure=>first|(simp[intOf];done)|(simp[intOf];omega)))
  ·obtain rfl:j=l.length:=by omega
   have hlt2:decide ((l.length:Int)<(l.length:Int))=false:=by simp
   have hs:=HS.out;rw[List.take_length] at hs;have b0:=hs.w0;have b1:=hs.w1;have b2:=hs.r0;have b3:=hs.r1;have e:=hs.sum;have HF:=hid (fun w'=>jU (MR rs 1000000000 w' (by omega) (by omega) (by omega) (by omega)));have HR:=hid (show ph+t+wh+rs / 1000000000=ph+t+xS t l / 1000000000 by rw[<-e];omega);have e1:IntKind.i64.wrap (ph+t)=ph+t:=by rw[wrap_i64];omega
   have e2:IntKind.i64.wrap (ph+t+wh)=ph+t+wh:=by rw[wrap_i64];omega
   have e3:IntKind.i64.wrap (ph+t+wh+rs / 1000000000)=ph+t+wh+rs / 1000000000:=by rw[wrap_i64];omega
   generalize rs / 1000000000=q at HF e3 HR;clear hs HS e b0 b1 b2 b3;have m:=dD wr [];have k:=m.out.k;go_wp2_with (first|((with_reducible first|refine cM (HF.out _) ?_|refine cU ?_|refine wU ?_);clear k m;intro w m k)|((with_reducible refine lE (fun w o g k K hK=>⟨rfl,?_⟩));simp[results,Tryz.results67,go_sem];refine hK _ ?_;exact⟨by rw[HR.out],OO.out.trans o (by simp)⟩))
theorem qE (l:List Sg):(oF l).length=l.length:=by simp[oF]
theorem Y8 {l:List Sg} {j:Nat} (hj:j<l.length):((oF l).take j ++ List.replicate (l.length-j) (jS,(0:Int))).set j (xV l j)=(oF l).take (j+1) ++ List.replicate (l.length-(j+1)) (jS,0):=by
 have hl:((oF l).take j).length=j:=by rw[List.length_take,qE];omega
 rw[List.set_append_right _ _ (by omega),hl,Nat.sub_self,show l.length-j=(l.length-(j+1))+1 by omega,List.replicate_succ,List.set_cons_zero,List.take_succ_eq_append_getElem (by rw[qE];exact hj),List.append_assoc];simp[oF]
@[go_sem ↓] theorem sg_neq (a b c d:Int) (w:World):(binOp .neq 76 (.agg #[.int .i64 a,.int .i64 b]) (.agg #[.int .i64 c,.int .i64 d])).run Tryz.prog w=.ok (.bool (!(a == c && b == d))) w:=by
 by_cases h1:a=c
 ·by_cases h2:b=d
  ·simp[go_sem,h1,h2]
  ·simp[go_sem,h1,h2]
 ·simp[go_sem,h1]
theorem EM {α:Type} {enc:α->List Value} {s:Nat} (hs:∀ x,(enc x).length=s) {j:Nat} {v:Value} (hj:j<s) {x':α}:∀ (l:List α) (i:Nat) (hi:i<l.length),enc x'=(enc l[i]).set j v->(l.flatMap enc).set (i*s+j) v=(l.set i x').flatMap enc
 | [],i,hi,_=>absurd hi (by simp)
 |y::l,0,_,hx=>by
  simp only[List.getElem_cons_zero] at hx;simp only[List.flatMap_cons,List.set_cons_zero,hx,Nat.zero_mul,Nat.zero_add];rw[List.set_append_left _ _ (by rw[hs];exact hj)]
 |y::l,i+1,hi,hx=>by
  simp only[List.getElem_cons_succ] at hx;simp only[List.flatMap_cons,List.set_cons_succ];rw[List.set_append_right _ _ (by rw[hs,Nat.succ_mul];omega),hs,show (i+1)*s+j-s=i*s+j by rw[Nat.succ_mul];omega,EM hs hj l i (by simpa using hi) hx]
theorem aP.setC {α:Type} {enc:α->List Value} {e:TypeId} {s:Nat} (hs:∀ x,(enc x).length=s) {w:World} {g cap:Nat} {l:List α} (h:aP enc e s w g cap l) {i j:Nat} (hi:i<l.length) (hj:j<s) {v:Value} {x':α} (hx:enc x'=(enc l[i]).set j v) :
  aP enc e s (w.setCell ⟨g,i*s+j,none⟩ v) g cap (l.set i x'):=by
 obtain⟨cur,h1,h2,h3,h4,h5⟩:=h
 have hlt:i*s+j<l.length*s:=by
  have:=Nat.mul_le_mul_right s (show i+1<=l.length by omega);rw[Nat.succ_mul] at this;omega
 refine⟨cur.setIfInBounds (i*s+j) v,aG v h1,by simp[h2],by simpa using h3,h4,?_⟩
 ·rw[List.length_set,Array.toList_setIfInBounds,<-EM hs hj l i hi hx,<-h5,List.take_set]
theorem pSpans {w:World} {p:Option Addr} {n cap:Nat} {l:List Sg} (ph:Int) (hv:aS I8 2 w p n cap l) (hok:cZ ph l=0) :
  Calls Tryz.prog 68 #[.agg #[.int .i64 ph,.slice p n cap]] w fun e w'=>∃ g,e=.returned (.slice (some ⟨g,0,none⟩) n n)/\w.heap.size<=g/\aP spC 190 3 w' g n (oF l)/\Only [] w w':=by
 have HV:=hid hv;have hln:=hv.len;have hcap:=Nat.le_trans hv.le hv.cm;subst hln;have HK:=hid hok;have hk:=uM hok;have h0:=hk.1;have h16:=hk.2.1;clear hv hok hk;obtain⟨wo,hwo⟩:∃ wo:World,wo=w:=⟨_,rfl⟩;subst hwo;obtain⟨bl,ol,hpl,hl0,-⟩:=HV.out.cell (l.length-1) (l[l.length-1]'(by omega)) (getElem?_eq_getElem (by omega));subst hpl
 have HXL:=hid (show ∀ w',Only [] wo w'->bl<w'.heap.size/\w'.cell? ⟨bl,ol+(l.length-1)*2,none⟩=some (.int .i64 (l[l.length-1]'(by omega)).a)/\w'.cell? ⟨bl,ol+(l.length-1)*2+1,none⟩=some (.int .i64 (l[l.length-1]'(by omega)).p) from fun w' o=>by
  obtain⟨b',o',e,c1,c2⟩:=(HV.out.kept o).cell (l.length-1) (l[l.length-1]'(by omega)) (getElem?_eq_getElem (by omega))
  cases e
  exact And.intro c1 (And.intro (c2 0 _ rfl) (c2 1 _ rfl)))
 obtain⟨sl,hsl⟩:∃ s,l[l.length-1]'(by omega)=s:=⟨_,rfl⟩;have HLS:=hid hsl;simp only[hsl] at HXL;clear hsl hl0;obtain⟨la,lp⟩:=sl;dsimp only at HXL;have r0:IntKind.i64.wrap ((l.length:Int)-1)=((l.length-1:Nat):Int):=by rw[wrap_i64];omega
 have m:=dD wo [];have k:=m.out.k;go_enter Tryz.func68,Tryz.ntmps68
 go_upto_region 1 with (fail)
 refine wU ?_;clear k m;intro w m k;have hgs:wo.heap.size<=w.heap.size:=m.out.only.size;have hbo:wo.heap.size<w.heap.size:=aD (gB (w:=w) (b:=wo.heap.size));go_wp2_with (refine wpList_make_own spC rfl _ _ 167 rfl 190 (.agg #[.int .i64 0,.int .i64 0,.int .i64 0]) 3 24 Tryz.underlying167 (by kernel_rfl) uH (jS,0) rfl .i64 .i64 _ _ l.length rfl rfl rfl rfl (by omega) (by unfold maxLen;omega) ?_;intro w1 hr1 ho1 hs1;refine bD ?_)
 replace m:=m.oth ho1 (by simp) (by simp);clear k;have HR:=hid hr1;have hg1:w.heap.size<w1.heap.size:=by omega
 clear hr1 ho1 hs1;generalize w.heap.size=g at HR hgs hbo hg1 |-;clear w;obtain⟨w,hw⟩:∃ w:World,w=w1:=⟨_,rfl⟩;subst hw;have HR':=hid (show ∀ w',Only [] w w'->aP spC 190 3 w' g l.length (List.replicate l.length (jS,0)) from fun w' o=>HR.out.kept o (by simp));obtain⟨wk,hwk⟩:∃ wk:World,wk=w:=⟨_,rfl⟩;have MK:=hid m.out.only;have hbx:=gB (w:=w) (b:=wo.heap.size);subst hwk;clear m;have m:=mY hbx;have k:=m.out.k;have c:=HXL.out wk MK.out;have HXL:=hid (show ∀ w',Only [] wk w'->bl<w'.heap.size/\w'.cell? ⟨bl,ol+(l.length-1)*2,none⟩=some (.int .i64 la)/\w'.cell? ⟨bl,ol+(l.length-1)*2+1,none⟩=some (.int .i64 lp) from fun w' o=>HXL.out w' (MK.out.trans o (by simp)));refine cK ?_;go_wp2_with ((with_reducible first|refine cU ?_|refine wU ?_);clear k m c;intro w m k;have c:=HXL.out w m.out.only)
 have h4:=gB (w:=w) (b:=wk.heap.size);have hbx:=gB (w:=w) (b:=wo.heap.size);have n4:wk.heap.size≠wo.heap.size:=gN w;have OB:=hid (MK.out.trans m.out.only (by simp));have HG:=hid (HR'.out w m.out.only);have hg4:g≠wk.heap.size:=by omega
 generalize wk.heap.size=b4 at h4 n4 hg4 |-;have H4:=hid h4;have HB:=hid hbx;clear k m c h4 hbx HR HR' HXL MK hg1;obtain⟨wl,hwl⟩:∃ wl:World,wl=w:=⟨_,rfl⟩;subst hwl;go_loopw [22] (fun vi wr=>∃ j:Nat,j<=l.length/\vi=.int .i64 j/\aP spC 190 3 wr g l.length ((oF l).take j ++ List.replicate (l.length-j) (jS,0))/\Only [g] wl wr) (fun vi _=>l.length-(intOf vi).toNat)
 case atStart=>exact⟨0,Nat.zero_le _,rfl,by simpa using HG.out,Only.refl _ _⟩
 case round =>
  obtain⟨j,hj,rfl,hrow,ho⟩:=hrel;have HRow:=hid hrow;have OO:=hid ho;have hob:wo.heap.size ∉ [g]:=by simp;omega
  have ho4:b4 ∉ [g]:=by simp;omega
  have H4r:=hid (ho.got H4.out ho4);have HBr:=hid (ho.got HB.out hob);have WW:=hid (OB.out.trans ho (fun q hq=>.inr (by rw[mem_singleton.1 hq];exact hgs)));clear hrow ho;by_cases hlt:j<l.length
  ·have hlt2:(j:Int)<(l.length:Int):=by omega
   have HX:=hid (show ∀ (i:Nat) (hi:i<l.length) w',Only [g] wr w'->bl<w'.heap.size/\w'.cell? ⟨bl,ol+i*2,none⟩=some (.int .i64 (l[i]).a)/\w'.cell? ⟨bl,ol+i*2+1,none⟩=some (.int .i64 (l[i]).p) from fun i hi w' o=>by
    obtain⟨b',o',e,c1,c2⟩:=(HV.out.kept (WW.out.trans o (fun q hq=>.inr (by rw[mem_singleton.1 hq];exact hgs)))).cell i l[i] (getElem?_eq_getElem hi)
    cases e
    exact⟨c1,c2 0 _ rfl,c2 1 _ rfl⟩)
   obtain⟨cur,hcur,hcs,-⟩:=HRow.out;have HCU:=hid hcur;have HFS:=hid (Y8 hlt);have HLT:=hid (sg_last HK.out hlt);rw[HLS.out] at HLT;have hsg:xV l j=(l[j],TH l j):=by unfold xV;rw[getD_eq_getElem?_getD,getElem?_eq_getElem hlt];rfl
   rw[hsg] at HFS;have HXJ:=hid (HX.out j hlt);have HND:=hid (show TH l j=if j+1<l.length then (l.getD (j+1) jS).a else 1125899906842624 from rfl);clear hcur hsg;generalize l[j]=s at HXJ HFS HLT;obtain⟨sa,sp⟩:=s;dsimp only at HXJ;have r1:IntKind.i64.wrap ((j:Int)+1)=((j+1:Nat):Int):=by rw[wrap_i64];omega
   have m:Mm wr [] wr _:=⟨((Mem.start wr []).ext false HBr.out (by simp) (by simp)).ext false H4r.out (by simpa using n4) (by simp)⟩;have k:=m.out.k;have c:=HXJ.out wr (Only.refl _ _);have hwr:g<wr.heap.size:=HRow.out.lt;have hsz:cur.size=l.length*3:=hcs;have hfit:j*3+3<=cur.size:=by omega
   clear hcs;go_wp2_with ((with_reducible show wpList _ _ _ (⟨none,Op.store 190 _ _,_,_,_,_⟩::_) _ _);refine wpList_store_row rfl _ _ _ rfl 3 (by kernel_rfl) g (j*3) rfl (.agg #[.int .i64 sa,.int .i64 sp,.int .i64 1125899906842624]) rfl rfl rfl cur _ (gO.got HCU.out (by simp)) (by omega) ?_;intro w1 hg1 ho1 hs1;refine bD ?_)
   have hc1:=ho1.got (gB (b:=wr.heap.size)) (by simp;omega);have h41:=ho1.got (gB (b:=b4)) (by simpa using fun q=>hg4 q.symm);have hb1:=ho1.got (gB (b:=wo.heap.size)) (by simp;omega);have n1:wr.heap.size≠b4:=by have:=aD H4r.out;omega
   have n2:wr.heap.size≠wo.heap.size:=by omega
   have O1:=hid (Only.eT gO ho1);have hr0:aP spC 190 3 (wr.alloc (.cells #[.int .i64 sa,.int .i64 sp] 76)) g l.length _:=HRow.out.kept gO (by simp);have hjl:j<((oF l).take j ++ List.replicate (l.length-j) (jS,(0:Int))).length:=by simp[qE];omega
   have hr1:=aP.set uH (x:=((⟨sa,sp⟩,1125899906842624):NM)) hjl hr0 (gO.got HCU.out (by simp)) hg1;have HR1:=hid hr1;clear hg1 ho1 hs1 hr0 hr1 m k c HRow;obtain⟨bc,hbc⟩:∃ bc,wr.heap.size=bc:=⟨_,rfl⟩;rw[hbc] at hc1 n1 n2 |-;obtain⟨wx,hwx⟩:∃ wx:World,wx=w1:=⟨_,rfl⟩;subst hwx;have HJ:=hid (show j+1<=l.length by omega);have hgx:g<wx.heap.size:=HR1.out.lt;have m:Mm wx [g] wx _:=⟨(((Mem.start wx [g]).ext false hb1 (by simp) (by simp)).ext false h41 (by simpa using n4) (by simp)).ext false hc1 (by simp;omega) (by simp)⟩;have k:=m.out.k;clear hc1 h41 hb1;refine cK ?_;by_cases hjn:j+1=l.length
   ·have hse:=HLT.out.2 hjn
    rw[Sg.mk.injEq] at hse;obtain⟨rfl,rfl⟩:=hse;have hq:(sa == sa && sp == sp)=true:=by simp
    have HN:=HND.out;rw[if_neg (by omega)] at HN;rw[HN] at HFS;rw[HFS.out] at HR1;clear HND HN HLT HX HXJ hjn;go_wp2;go_roundw
    case rel=>exact⟨j+1,HJ.out,by go_num,HR1.out,OO.out.trans O1.out (fun q hq=>.inl hq)⟩
    case measure=>first|(simp[intOf];done)|(simp[intOf];omega)
   ·have hse:¬ ((⟨sa,sp⟩:Sg)=⟨la,lp⟩):=fun q=>hjn (HLT.out.1 q)
    have hq:(sa == la && sp == lp)=false:=by
     rw[Sg.mk.injEq] at hse;simpa using hse
    have hn1:j+1<l.length:=by omega
    have hn2:((j+1:Nat):Int)<(l.length:Int):=by omega
    have HN:=HND.out;have hgd:l.getD (j+1) jS=l[j+1]:=by rw[getD_eq_getElem?_getD,getElem?_eq_getElem hn1];rfl
    rw[if_pos hn1,hgd] at HN;have HXN:=HX.out (j+1) hn1;have c:=HXN wx O1.out
    have c8:∃ v,wx.cell? ⟨g,j*3+2,none⟩=some v:=by
     have:=aP.cell uH HR1.out (i:=j) (j:=2) (x:=((⟨sa,sp⟩,1125899906842624):NM)) (by rw[List.getElem?_set_self hjl]) (by decide);exact⟨_,this⟩
    obtain⟨v8,c8⟩:=c8;have c9:=HR1.out.frozen (j*3+2);have HR2:=hid (aP.setC uH HR1.out (i:=j) (j:=2) (v:=.int .i64 (l[j+1]).a) (x':=((⟨sa,sp⟩,(l[j+1]).a):NM)) (by rw[List.length_set];exact hjl) (by decide) (by rw[List.getElem_set_self];rfl));rw[HN] at HFS;rw[List.set_set,HFS.out] at HR2;generalize l[j+1]=s2 at c HR2 HXN;obtain⟨s2a,s2p⟩:=s2;dsimp only at c HR2;clear HND HN HLT HX HXJ hjn hse HXN HFS hgd HR1;go_wp2;go_roundw
    case rel=>exact⟨j+1,HJ.out,by go_num,HR2.out,(OO.out.trans O1.out (fun q hq=>.inl hq)).setCell (.inl (by simp)) _⟩
    case measure=>first|(simp[intOf];done)|(simp[intOf];omega)
  ·obtain rfl:j=l.length:=by omega
   have hlt2:decide ((l.length:Int)<(l.length:Int))=false:=by simp
   have hr:=HRow.out;rw[Nat.sub_self,List.replicate_zero,List.append_nil,List.take_of_length_le (by rw[qE];omega)] at hr;have HRF:=hid hr;clear hr HRow H4r HBr;go_wp2;go_ret
   exact⟨g,rfl,hgs,HRF.out,WW.out⟩
theorem I4 {ph:Int} {l:List Sg} (h:cZ ph l=0):∀ x∈oF l,(0<=x.1.a/\x.1.a<=1125899906842624)/\(-500000<=x.1.p/\x.1.p<=500000)/\(0<=x.2/\x.2<=1125899906842624):=by
 intro x hx;unfold oF at hx;obtain⟨i,hi,rfl⟩:=List.mem_map.1 hx;have hi:=List.mem_range.1 hi;have h1:=spn_bd h hi;have h2:=(uM h).2.2.2 i hi;rw[h1.1];exact⟨h2.1,h2.2.1,h1.2⟩
theorem pORead {w:World} {p:Option Addr} {n cap:Nat} {l:List Sg} (ph t:Int) (hv:aS I8 2 w p n cap l) (hok:cZ ph l=0) (t0:0<=t) (t1:t<=1125899906842624) :
  Calls Tryz.prog 51 #[.agg #[.int .i64 ph,.slice p n cap],.int .i64 t] w fun e w'=>e=.returned (.tuple #[.int .i64 (qK ph l t),.int .i64 0])/\Only [] w w':=by
 have hk:=uM hok;have h16:=hk.2.1;have HC:=hid (fun w' (o:Only [] w w')=>by have:=pOsc ph (hv.kept o) (by have:=hv.len;omega);rw[hok] at this;exact this);have HS:=hid (fun w' (o:Only [] w w')=>pSpans ph (hv.kept o) hok);have hln:=hv.len;have HR:=hid (fun w' p' c' (hv':aS spC 3 w' p' n c' (oF l))=>SC ph t hv' (by omega) (I4 hok) hk.2.2.1 t0 t1);have HE:Hid (ph+t+xS t (oF l) / 1000000000=qK ph l t):=hid rfl;rw[HE.out] at HR;have HLN:=hid (show n=(oF l).length by rw[qE];exact hln.symm);have d1:decide (t<0)=false:=bR (by omega);have d2:decide (1125899906842624<t)=false:=bR (by omega);generalize qK ph l t=r at HR |-;clear HE hk h16 hv hok t0 t1 hln;obtain⟨wo,hwo⟩:∃ wo:World,wo=w:=⟨_,rfl⟩;subst hwo;have m:=dD wo [];have k:=m.out.k;go_enter Tryz.func51,Tryz.ntmps51
 go_wp2_with (first|((with_reducible first|refine cM (HC.out _ gO) ?_|refine cU ?_|refine wU ?_);clear k m;intro w m k)|((with_reducible refine rA (id:=6) [0,1,2] [4] 3 [5,6,7] (by kernel_rfl) (by kernel_rfl) ?_);simp only[pick,map_cons,map_nil,List.getD_cons_succ,List.getD_cons_zero];(repeat (first|(refine aO (fun K hK=>?_);go_simp;refine hK _ ?_;clear hK K)));refine aR ?_;(repeat (refine aJ (fun K hK=>?_);go_simp;refine hK _ ?_;clear hK K));refine aN ?_;refine bD ?_))
 refine cK ?_;clear k m;intro w o m k;refine aC rfl ?_;go_wp2_with fail
 refine (HS.out w gO).mono ?_;rintro e w2 ⟨g,rfl,hg,hrow,ho⟩;go_wp2;simp only[bG];refine⟨o.aB ho,fun w3 o3=>?_⟩;replace m:=(m.oth (ho.aB o3) (by simp) (by simp));have HRR:=hid (hrow.kept o3 (by simp));have HVV:=hid (HR.out w3 _ _ (HRR.out.eH uH HLN.out));clear k o hg hrow ho o3;have k:=m.out.k;unfold aV;refine aC rfl ?_;go_wp2_with fail
 refine HVV.out.mono ?_;rintro e w4 ⟨rfl,ho⟩;go_wp2;simp only[bG];replace m:=m.oth ho (by simp) (by simp);clear k ho;have k:=m.out.k;refine tW ?_;clear k m;intro w m k;unfold aV;refine aC rfl ?_;go_wp2;simp only[bG];refine tW ?_;clear k m;intro w m k;unfold aV;refine aC rfl ?_;go_wp2;simp only[bG];refine tW ?_;clear k m;intro w m k;unfold aV;go_wp2_with (first|((with_reducible refine wU ?_);clear k m;intro w m k)|((with_reducible refine lE (fun w o g k K hK=>⟨rfl,?_⟩));simp[results,Tryz.results51,go_sem];refine hK _ ?_;exact⟨rfl,o⟩))
end
section
open Go.Sort
open Go.Lib (hid)
def shoN (n:Int):Int:=n / 1000000000*65536+(n % 1000000000*65536+999999999) / 1000000000
def sU (n:Int):Int × Int:=if n<0 then (0,3) else if 4294967295<shoN n then (0,3) else (shoN n,0)
theorem shoF_u (n:Int):0<=(sU n).1/\(sU n).1<=4294967295:=by
 unfold sU;split
 ·exact⟨by decide,by decide⟩
 ·split
  ·exact⟨by decide,by decide⟩
  ·unfold shoN at *
   dsimp only;omega
theorem PD (n:Int) (h1:n<=9007199254740992) (w:World) :
  Calls Tryz.prog 162 #[.int .i64 n] w fun e w'=>e=.returned (.tuple #[.int .u32 (sU n).1,.int .i64 (sU n).2])/\Only [] w w':=by
 obtain⟨res,HE⟩:∃ zz,Hid (sU n=zz):=⟨_,hid rfl⟩;rw[HE.out];unfold sU at HE;by_cases hn:n<0
 focus
  have dhn:decide (n<0)=true:=dF hn;rw[if_pos hn] at HE;obtain rfl:=HE.out
 rotate_left 1
 focus
  have dhn:decide (n<0)=false:=bR hn;rw[if_neg hn] at HE;have t1:n.tdiv 1000000000=n / 1000000000:=Int.tdiv_eq_ediv_of_nonneg (by omega);have t2:n.tmod 1000000000=n % 1000000000:=Int.tmod_eq_emod_of_nonneg (by omega);unfold shoN at HE;have e1:IntKind.i64.wrap (n / 1000000000)=n / 1000000000:=by rw[wrap_i64];omega
  have e2:IntKind.i64.wrap (n % 1000000000)=n % 1000000000:=by rw[wrap_i64];omega
  have b1:0<=n / 1000000000/\n / 1000000000<=9007200:=by omega
  have b2:0<=n % 1000000000/\n % 1000000000<=999999999:=by omega
  generalize n / 1000000000=q at *;generalize n % 1000000000=r at *;have e3:IntKind.i64.wrap (q*65536)=q*65536:=by rw[wrap_i64];omega
  have e4:IntKind.i64.wrap (r*65536)=r*65536:=by rw[wrap_i64];omega
  have e5:IntKind.i64.wrap (r*65536+1000000000)=r*65536+1000000000:=by rw[wrap_i64];omega
  have e6:IntKind.i64.wrap (r*65536+1000000000-1)=r*65536+999999999:=by rw[wrap_i64];omega
  have t3:(r*65536+999999999).tdiv 1000000000=(r*65536+999999999) / 1000000000:=Int.tdiv_eq_ediv_of_nonneg (by omega);have b3:0<=(r*65536+999999999) / 1000000000/\(r*65536+999999999) / 1000000000<=65537:=by omega
  generalize (r*65536+999999999) / 1000000000=z at *;have e7:IntKind.i64.wrap z=z:=by rw[wrap_i64];omega
  have e8:IntKind.i64.wrap (q*65536+z)=q*65536+z:=by rw[wrap_i64];omega
  obtain⟨y,hy⟩:∃ y,q*65536+z=y:=⟨_,rfl⟩;rw[hy] at HE e8;by_cases hg:4294967295<y
  focus
   have dhg:decide (4294967295<y)=true:=dF hg;rw[if_pos hg] at HE;obtain rfl:=HE.out
  rotate_left 1
  focus
   have dhg:decide (4294967295<y)=false:=bR hg;rw[if_neg hg] at HE;obtain rfl:=HE.out;have e9:IntKind.u32.wrap y=y:=by rw[IntKind.wrap_u32];omega
 all_goals
  have m:=dD w [];have k:=m.out.k;go_enter Tryz.func162,Tryz.ntmps162
  go_wp2_with (first|((with_reducible refine wU ?_);clear k m;intro w m k)|((with_reducible refine lE (fun w o g k K hK=>⟨rfl,?_⟩));simp[results,Tryz.results162,go_sem];refine hK _ ?_;exact⟨rfl,o⟩))
def AU (d id:Int):FB × Int:=if kX ⟨1,0,d,id⟩=0 then (⟨1,0,d,id⟩,0) else (LC,3)
theorem A8 (d id:Int) (w:World) :
  Calls Tryz.prog 135 #[.int .i64 d,.int .u32 id] w fun e w'=>e=.returned (.tuple #[IU (AU d id).1,.int .i64 (AU d id).2])/\Only [] w w':=by
 have HC:=hid (fun w'=>EA ⟨1,0,d,id⟩ w');obtain⟨res,HE⟩:∃ zz,Hid (AU d id=zz):=⟨_,hid rfl⟩;rw[HE.out];unfold AU at HE;generalize kX ⟨1,0,d,id⟩=e at HC HE;unfold IU at HC |-;unfold LC at HC HE;dsimp only at HC;by_cases h:e=0
 focus
  rw[if_pos h,if_pos h] at HC;rw[if_pos h] at HE;obtain rfl:=HE.out
 rotate_left 1
 focus
  rw[if_neg h,if_neg h] at HC;rw[if_neg h] at HE;obtain rfl:=HE.out
 all_goals
  dsimp only at HC;have m:=dD w [];have k:=m.out.k;go_enter Tryz.func135,Tryz.ntmps135
  go_wp2_with (first|((with_reducible first|refine cM (HC.out _) ?_|refine wU ?_);clear k m;intro w m k)|((with_reducible refine lE (fun w o g k K hK=>⟨rfl,?_⟩));simp[results,Tryz.results135,go_sem,k];refine hK _ ?_;exact⟨rfl,o⟩))
def qP (r:FB):Int × Int × Int:=if kX r=0 then (if (sU r.dly).2=0 then (if (sU r.dsp).2=0 then ((sU r.dly).1,(sU r.dsp).1,0) else (0,0,(sU r.dsp).2)) else (0,0,(sU r.dly).2)) else (0,0,kX r)
theorem ochk_bd {r:FB} (h:kX r=0):r.dly<=9007199254740992/\r.dsp<=9007199254740992:=by
 unfold kX at h;split at h
 ·rename_i h1
  simp only[Bool.and_eq_true] at h1;have a:=h1.2.1;have b:=h1.2.2;unfold isSp at a b;unfold bT at a b;simp only[Bool.and_eq_true,decide_eq_true_eq] at a b;omega
 ·exact absurd h (by decide)
theorem pFields (r:FB) (w:World) :
  Calls Tryz.prog 146 #[IU r] w fun e w'=>e=.returned (.tuple #[.int .u32 (qP r).1,.int .u32 (qP r).2.1,.int .i64 (qP r).2.2])/\Only [] w w':=by
 have HC:=hid (fun w'=>WZ r w');have HB:=hid (fun h=>ochk_bd (r:=r) h);obtain⟨res,HE⟩:∃ zz,Hid (qP r=zz):=⟨_,hid rfl⟩;rw[HE.out];unfold qP at HE;generalize kX r=e at HC HE HB;obtain⟨r1,r2,r3,r4⟩:=r;unfold IU at HC |-;dsimp only at HC HE HB |-;by_cases h:e=0
 ·subst h
  rw[if_pos rfl] at HE;have H1:=hid (fun w'=>PD r2 (HB.out rfl).1 w');have H2:=hid (fun w'=>PD r3 (HB.out rfl).2 w');generalize sU r2=a at H1 HE;generalize sU r3=b at H2 HE;obtain⟨a1,a2⟩:=a;obtain⟨b1,b2⟩:=b;dsimp only at H1 H2 HE;by_cases ha:a2=0
  ·subst ha
   rw[if_pos rfl] at HE;by_cases hb:b2=0
   focus
    subst hb;rw[if_pos rfl] at HE;obtain rfl:=HE.out
   rotate_left
   focus
    rw[if_neg hb] at HE;obtain rfl:=HE.out;have k2:(b2 != 0)=true:=by simpa using hb
   rotate_left
   all_goals
    have m:=dD w [];have k:=m.out.k;go_enter Tryz.func146,Tryz.ntmps146
    go_wp2_with (first|((with_reducible first|refine cM (HC.out _) ?_|refine cM (H1.out _) ?_|refine cM (H2.out _) ?_|refine wU ?_);clear k m;intro w m k)|((with_reducible refine lE (fun w o g k K hK=>⟨rfl,?_⟩));simp[results,Tryz.results146,go_sem];refine hK _ ?_;exact⟨rfl,o⟩))
  ·rw[if_neg ha] at HE
   obtain rfl:=HE.out;have k1:(a2 != 0)=true:=by simpa using ha
   have m:=dD w [];have k:=m.out.k;go_enter Tryz.func146,Tryz.ntmps146
   go_wp2_with (first|((with_reducible first|refine cM (HC.out _) ?_|refine cM (H1.out _) ?_|refine wU ?_);clear k m;intro w m k)|((with_reducible refine lE (fun w o g k K hK=>⟨rfl,?_⟩));simp[results,Tryz.results146,go_sem];refine hK _ ?_;exact⟨rfl,o⟩))
 ·rw[if_neg h] at HE
  obtain rfl:=HE.out;have k0:(e != 0)=true:=by simpa using h
  have m:=dD w [];have k:=m.out.k;go_enter Tryz.func146,Tryz.ntmps146
  go_wp2_with (first|((with_reducible first|refine cM (HC.out _) ?_|refine wU ?_);clear k m;intro w m k)|((with_reducible refine lE (fun w o g k K hK=>⟨rfl,?_⟩));simp[results,Tryz.results146,go_sem];refine hK _ ?_;exact⟨rfl,o⟩))
end
end Go.Proofs.YthbgcpfklmlnjaaGreat
