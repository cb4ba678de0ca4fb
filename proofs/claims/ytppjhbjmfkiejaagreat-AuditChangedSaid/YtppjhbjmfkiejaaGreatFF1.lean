/- F1 Na Nb Nc Nd -/
import Derived.Test.YtppjhbjmfkiejaaGreatFJg
import Derived.Test.YtppjhbjmfkiejaaGreatFMx
import Derived.Test.YtppjhbjmfkiejaaGreatFSb
namespace Go.Proofs.YtppjhbjmfkiejaaGreat
open List (getD_eq_getElem?_getD getElem?_eq_getElem mem_singleton)
open IntKind (wrap_i64 wrap_u64)
set_option maxRecDepth 100000
set_option maxHeartbeats 8000000
open Go.RowKit
open IntKind (wrap)
structure Sgm where
 a:Int
 p:Int
def gn:List Sgm->Int->Int
 | [],_=>0
 | [s],t=>max 0 (t-s.a)*s.p
 | s::s'::r,t=>max 0 (min t s'.a-s.a)*s.p+gn (s'::r) t
def msr:List Sgm->Int->Int
 | [],_=>0
 | s::_,t=>max 0 (t-s.a)
def Srt:List Sgm->Prop
 | []=>True
 | [_]=>True
 | s::s'::r=>s.a<s'.a/\Srt (s'::r)
theorem ZR {n p B:Int} (hn:0<=n) (h0: -B<=p) (h1:p<=B): -(B*n)<=n*p/\n*p<=B*n:=by
 have q1:=Int.mul_le_mul_of_nonneg_left h1 hn;have q2:=Int.mul_le_mul_of_nonneg_left h0 hn;rw[Int.mul_neg] at q2;rw[Int.mul_comm B n];exact⟨q2,q1⟩
theorem aAc {B a b:Int} (hab:a<=b):∀ (l:List Sgm),(∀ s∈l,-B<=s.p/\s.p<=B)->Srt l-> -(B*(msr l b-msr l a))<=gn l b-gn l a/\gn l b-gn l a<=B*(msr l b-msr l a)
 | [],_,_=>by simp[gn,msr]
 |[s],h,_=>by
  obtain⟨h0,h1⟩:=h s (by simp);have:=ZR (n:=max 0 (b-s.a)-max 0 (a-s.a)) (by omega) h0 h1;rw[Int.sub_mul] at this;simpa [gn,msr] using this
 |s::s'::r,h,hs=>by
  obtain⟨h0,h1⟩:=h s (by simp);obtain⟨g0,g1⟩:=aAc hab (s'::r) (fun x hx=>h x (List.mem_cons_of_mem _ hx)) hs.2;have hlt:=hs.1;have:=ZR (n:=max 0 (min b s'.a-s.a)-max 0 (min a s'.a-s.a)) (by omega) h0 h1;rw[Int.sub_mul] at this;have hm:max 0 (b-s.a)-max 0 (a-s.a)=(max 0 (min b s'.a-s.a)-max 0 (min a s'.a-s.a))+(max 0 (b-s'.a)-max 0 (a-s'.a)):=by omega
  show -(B*(max 0 (b-s.a)-max 0 (a-s.a)))<=(max 0 (min b s'.a-s.a)*s.p+gn (s'::r) b)-(max 0 (min a s'.a-s.a)*s.p+gn (s'::r) a)/\(max 0 (min b s'.a-s.a)*s.p+gn (s'::r) b)-(max 0 (min a s'.a-s.a)*s.p+gn (s'::r) a)<=B*(max 0 (b-s.a)-max 0 (a-s.a))
  rw[hm,Int.mul_add];simp only[msr] at g0 g1;omega
def rdO (ph:Int) (l:List Sgm) (t:Int):Int:=ph+t+gn l t / 1000000000
def shR (x y:Int):Int:=x.fdiv (2 ^ min y.toNat 64)
theorem GJ {y:Int} (h:0<=y) (x:Int):Op.shift .shr .u64 x .u64 y=pure (.int .u64 (shR x y)):=by
 unfold Op.shift shR;rw[if_neg (by omega)];rfl
def KP (x:Int) (r:Int × Int):Int:=wrap .u64 (bits .xor .u64 x (shR x r.1)*r.2)
def gU (R:List (Int × Int)) (a b:Int):Int:=R.foldl KP (wrap .u64 (a+wrap .u64 (11400714819323198485*wrap .u64 (b+1))))
def rQ (w:World) (R:List (Int × Int)):Prop:=∃ s0 m0 s1 m1 s2 m2:Int,R=[(s0,m0),(s1,m1),(s2,m2)]/\0<=s0/\0<=s1/\0<=s2 /\
 w.heap[2]? = some (.cells #[.int .u64 s0,.int .u64 m0,.int .u64 s1,.int .u64 m1,.int .u64 s2,.int .u64 m2] 301 (0,0))
theorem rQ.kept {w w':World} {R:List (Int × Int)} (h:rQ w R) (ho:Oy [] w w'):rQ w' R:=by
 obtain⟨s0,m0,s1,m1,s2,m2,h1,h2,h3,h4,h5⟩:=h;exact⟨s0,m0,s1,m1,s2,m2,h1,h2,h3,h4,ho.got h5 (by simp)⟩
theorem xE {R:List (Int × Int)} (a b:Int):0<=gU R a b/\gU R a b<=18446744073709551615:=by
 have key:∀ (R:List (Int × Int)) (x:Int),0<=x/\x<=18446744073709551615->0<=R.foldl KP x/\R.foldl KP x<=18446744073709551615:=by
  intro R;induction R with
  | nil=>intro x h;exact h
  | cons r R ih=>intro x _;exact ih _ (by unfold KP;rw[wrap_u64];omega)
 exact key R _ (by rw[wrap_u64];omega)
theorem pMix (a b:Int) {w:World} {R:List (Int × Int)} (h:rQ w R) :
  Calls Tryz.prog 145 #[.int .u64 a,.int .u64 b] w fun e w'=>e=.returned (.int .u64 (gU R a b))/\Oy [] w w':=by
 obtain⟨s0,m0,s1,m1,s2,m2,rfl,h0,h1,h2,h⟩:=h;have q0:=GJ h0;have q1:=GJ h1;have q2:=GJ h2;obtain⟨x,hx⟩:∃ x,wrap .u64 (a+wrap .u64 (11400714819323198485*wrap .u64 (b+1)))=x:=⟨_,rfl⟩;have HE:Hid (gU [(s0,m0),(s1,m1),(s2,m2)] a b=KP (KP (KP x (s0,m0)) (s1,m1)) (s2,m2)):=aA (by unfold gU;rw[hx];rfl);obtain⟨res,hr⟩:∃ r,gU [(s0,m0),(s1,m1),(s2,m2)] a b=r:=⟨_,rfl⟩;rw[hr] at HE |-;clear hr h0 h1 h2;unfold KP at HE;dsimp only at HE;obtain⟨y1,r1⟩:∃ y,wrap .u64 (bits .xor .u64 x (shR x s0)*m0)=y:=⟨_,rfl⟩;rw[r1] at HE;obtain⟨y2,r2⟩:∃ y,wrap .u64 (bits .xor .u64 y1 (shR y1 s1)*m1)=y:=⟨_,rfl⟩;rw[r2] at HE;obtain⟨y3,r3⟩:∃ y,wrap .u64 (bits .xor .u64 y2 (shR y2 s2)*m2)=y:=⟨_,rfl⟩;rw[r3] at HE;have i0:∀ w,(Instr.index 301 (.agg #[.int .u64 s0,.int .u64 m0,.int .u64 s1,.int .u64 m1,.int .u64 s2,.int .u64 m2]) (.int .i64 0)).run Tryz.prog w=.ok (.agg #[.int .u64 s0,.int .u64 m0]) w:=fun w=>by kernel_rfl
 have i1:∀ w,(Instr.index 301 (.agg #[.int .u64 s0,.int .u64 m0,.int .u64 s1,.int .u64 m1,.int .u64 s2,.int .u64 m2]) (.int .i64 1)).run Tryz.prog w=.ok (.agg #[.int .u64 s1,.int .u64 m1]) w:=fun w=>by kernel_rfl
 have i2:∀ w,(Instr.index 301 (.agg #[.int .u64 s0,.int .u64 m0,.int .u64 s1,.int .u64 m1,.int .u64 s2,.int .u64 m2]) (.int .i64 2)).run Tryz.prog w=.ok (.agg #[.int .u64 s2,.int .u64 m2]) w:=fun w=>by kernel_rfl
 have m:=iX h;have k:=m.zK;clear h;go_enter Tryz.func145,Tryz.ntmps145
 go_wp2_with fail
 refine wp_loop_rounds 4 ?_;iterate 4 (rw[rounds_succ];go_wp2_with (first|((with_reducible refine wU ?_);clear k m;intro w m k)|((with_reducible refine lE (fun w o g k K hK=>⟨rfl,?_⟩));simp[results,Tryz.results145,go_sem];refine hK _ ?_;clear hK K k;exact⟨by rw[HE.out],o⟩)))
section
open Go.Sort
theorem eqO {P:Program} {f:FuncId} {args:Array Value} {w:World} {v:Value} (h:Calls P f args w fun e w'=>e=.returned v/\w=w'):Calls P f args w fun e w'=>e=.returned v/\Oy [] w w':=
 h.mono fun _ _ h=>⟨h.1,h.2 ▸ aR _ _⟩
def EH (t:Int) (p:Int × Int) (c:Ch):Int × Int:=if c.a<=t then (if c.d=0 then (c.y,p.2) else (p.1,c.y)) else p
def xQ (l:Lk) (t:Int):Int × Int:=l.ch.foldl (EH t) (l.d0,l.d1)
def GZ (p:Int × Int) (d:Int):Int:=if d=0 then p.1 else p.2
def IG (R:List (Int × Int)) (l:Lk) (d n:Int):Int:=gU R l.sd (4*n+2*d+1) % (GZ (l.v0,l.v1) d+1)
def LX (R:List (Int × Int)) (l:Lk) (d t n:Int):Option Int:=
 if gU R l.sd (4*n+2*d) % 1000<l.lo then none else some (t+GZ (xQ l t) d+IG R l d n)
theorem ZY {l:Lk} (h:fP l=0):(0<=l.d0/\l.d0<=10000000000)/\(0<=l.d1/\l.d1<=10000000000)/\(0<=l.v0/\l.v0<=10000000000)/\(0<=l.v1/\l.v1<=10000000000)/\(0<=l.lo/\l.lo<=1000)/\l.ch.all JA=true/\l.ch.length<=16:=by
 unfold fP at h;split at h
 ·rename_i h1
  split at h
  ·rename_i h2
   split at h
   ·exact absurd h (by decide)
   ·rename_i h3
    unfold lkR at h1;simp only[Bool.and_eq_true,bI] at h1;exact⟨h1.1.1,h1.1.2,h1.2.1.1,h1.2.1.2,h1.2.2,h2,by omega⟩
  ·exact absurd h (by decide)
 ·exact absurd h (by decide)
theorem ch_ok {l:List Ch} (h:l.all JA=true) {k:Nat} (hk:k<l.length):(0<=l[k].a/\l[k].a<=1125899906842624)/\(l[k].d=0\/l[k].d=1)/\(0<=l[k].y/\l[k].y<=10000000000):=by
 have:=List.all_eq_true.1 h _ (List.getElem_mem hk);unfold JA at this;simp only[Bool.and_eq_true,bI] at this;exact⟨this.1,by omega,this.2.2⟩
theorem dly_bd {t:Int}:∀ {l:List Ch} {p:Int × Int},l.all JA=true->(0<=p.1/\p.1<=10000000000)/\(0<=p.2/\p.2<=10000000000)->(0<=(l.foldl (EH t) p).1/\(l.foldl (EH t) p).1<=10000000000)/\(0<=(l.foldl (EH t) p).2/\(l.foldl (EH t) p).2<=10000000000)
 | [],_,_,hp=>hp
 |c::l,p,h,hp=>by
  have hc:=ch_ok h (k:=0) (by simp);rw[List.getElem_cons_zero] at hc;refine dly_bd (l:=l) (by simp only[List.all_cons,Bool.and_eq_true] at h;exact h.2) ?_;unfold EH;split
  ·split
   ·exact⟨hc.2.2,hp.2⟩
   ·exact⟨hp.1,hc.2.2⟩
  ·exact hp
theorem YT (n:Int) (w:World) :
  Calls Tryz.prog 155 #[.int .i64 n] w fun e w'=>e=.returned (.bool (dZ n 0 1099511627776))/\Oy [] w w':=by
 obtain⟨res,HE⟩:∃ zz,Hid (dZ n 0 1099511627776=zz):=⟨_,aA rfl⟩;rw[HE.out];unfold dZ at HE;by_cases h0:0<=n
 focus
  have dh0:decide (0<=n)=true:=eY h0;by_cases h1:n<=1099511627776
  focus
   have dh1:decide (n<=1099511627776)=true:=eY h1;rw[eY (And.intro h0 h1)] at HE;obtain rfl:=HE.out
  rotate_left 1
  focus
   have dh1:decide (n<=1099511627776)=false:=dL h1;rw[dL (fun q=>h1 q.2)] at HE;obtain rfl:=HE.out
 rotate_left 2
 focus
  have dh0:decide (0<=n)=false:=dL h0;rw[dL (fun q=>h0 q.1)] at HE;obtain rfl:=HE.out
 all_goals
  have m:=bJ w [];have k:=m.zK;go_enter Tryz.func155,Tryz.ntmps155
  go_wp2_with (first|((with_reducible refine wU ?_);clear k m;intro w m k)|((with_reducible refine lE (fun w o g k K hK=>⟨rfl,?_⟩));simp[results,Tryz.results155,go_sem];refine hK _ ?_;exact⟨rfl,o⟩))
theorem pDelays {w:World} {p:Option Addr} {n cap:Nat} (l:Lk) (t:Int) (hv:aU chC 3 w p n cap l.ch) (hc:l.ch.all JA=true) (hn:n<=100000) :
  Calls Tryz.prog 160 #[VR l p n cap,.int .i64 t] w fun e w'=>e=.returned (.agg #[.int .i64 (xQ l t).1,.int .i64 (xQ l t).2])/\Oy [] w w':=by
 have HV:=aA hv;have hln:=hv.len;have hcap:=Nat.le_trans hv.le hv.cm;subst hln;have HCH:=aA (fun k (hk:k<l.ch.length)=>ch_ok hc hk);obtain⟨res,HE⟩:∃ zz,Hid (xQ l t=zz):=⟨_,aA rfl⟩;rw[HE.out];unfold xQ at HE;unfold VR;obtain⟨A,B,d0,d1,v0,v1,lo,sd,ch⟩:=l;dsimp only at HV HCH HE hcap hn |-;clear hv hc;obtain⟨wo,rfl⟩:∃ wo:World,wo=w:=⟨_,rfl⟩;have m:=bJ wo [];have k:=m.zK;go_enter Tryz.func160,Tryz.ntmps160
 go_wp2_with ((with_reducible first|refine cU ?_|refine wU ?_);clear k m;intro w m k)
 have hb5:=gB (w:=w) (b:=wo.heap.size+1+1);have hb4:=gB (w:=w) (b:=wo.heap.size+1);have n45:wo.heap.size+1+1≠wo.heap.size+1:=gN w;obtain⟨b5,hB5⟩:∃ b,wo.heap.size+1+1=b:=⟨_,rfl⟩;obtain⟨b4,hB4⟩:∃ b,wo.heap.size+1=b:=⟨_,rfl⟩;have g5:wo.heap.size<=b5:=by omega
 have g4:wo.heap.size<=b4:=by omega
 have OB:=aA m.zO;clear k m;rw[hB5] at hb5 n45 |-;rw[hB4] at hb4 n45 |-;have H4:=aA hb4;have H5:=aA hb5;clear hB5 hB4 hb4 hb5;obtain⟨wl,rfl⟩:∃ wl:World,wl=w:=⟨_,rfl⟩;go_loopw [13] (fun vi wr=>∃ (j:Nat) (x y:Int),j<=ch.length/\vi=.int .i64 j/\(ch.take j).foldl (EH t) (d0,d1)=(x,y)/\wr.heap[b5]? = some (.cells #[.int .i64 x,.int .i64 y] 76 (0,0))/\Oy [b5] wl wr) (fun vi _=>ch.length-(intOf vi).toNat)
 case atStart=>exact⟨0,d0,d1,Nat.zero_le _,rfl,rfl,H5.out,aR _ _⟩
 case round =>
  obtain⟨j,x,y,hj,rfl,hf,hb,ho⟩:=hrel;have OO:=aA ho;have HF:=aA hf;have W2:=aA (OB.out.trans ho (fun q hq=>.inr (by rw[mem_singleton.1 hq];exact g5)));have HH5:=aA hb;have H4':=aA (ho.got H4.out (by simpa using fun q:b4=b5=>n45 q.symm))
  have hXX:∀ hlt:j<ch.length,∃ bk off,p=some ⟨bk,off,none⟩/\∀ w',Oy [b5] wr w'->bk<w'.heap.size/\w'.cell? ⟨bk,off+j*3,none⟩=some (.int .i64 (ch[j]).a)/\w'.cell? ⟨bk,off+j*3+1,none⟩=some (.int .i64 (ch[j]).d)/\w'.cell? ⟨bk,off+j*3+2,none⟩=some (.int .i64 (ch[j]).y):=by
   intro hlt;obtain⟨bk,off,rfl,-⟩:=HV.out.ch (aR [] wo) hlt;refine⟨bk,off,rfl,fun w' o=>?_⟩;obtain⟨bk',off',e,c1,c2,c3,c4⟩:=HV.out.ch (W2.out.trans o (fun q hq=>.inr (by rw[mem_singleton.1 hq];exact g5))) hlt
   cases e
   have hg:ch.getD j OG=ch[j]:=by rw[getD_eq_getElem?_getD,getElem?_eq_getElem hlt];rfl
   rw[hg] at c1 c2 c3;exact⟨c4,c1,c2,c3⟩
  have HXX:=aA hXX;clear hf hXX;by_cases hlt:j<ch.length
  ·have hlt2:(j:Int)<(ch.length:Int):=by omega
   obtain⟨bk,off,rfl,hX⟩:=HXX.out hlt;have HX:=aA hX;have hck:=HCH.out j hlt;have HFn:=aA (show (ch.take (j+1)).foldl (EH t) (d0,d1)=EH t (x,y) ch[j] by rw[List.take_succ_eq_append_getElem hlt,List.foldl_append,HF.out];rfl);have r0:wrap .i64 ((j:Int)+1)=((j+1:Nat):Int):=by rw[wrap_i64];omega
   have HJ:=aA (show j+1<=ch.length by omega);clear HXX hX HF hb ho H4';generalize ch[j]=s at HX hck HFn;obtain⟨ca,cd,cy⟩:=s;dsimp only at HX hck HFn;unfold EH at HFn;dsimp only at HFn;by_cases ht:ca<=t
   ·have dt:decide (ca<=t)=true:=eY ht
    rw[if_pos ht] at HFn;have hcd:=hck.2.1;clear hck;rcases hcd with rfl|rfl
    ·rw[if_pos rfl] at HFn
     have m:=kV HH5.out;have k:=m.zK;have c:=HX.out wr (aR _ _);go_wp2_with (first|((with_reducible first|refine cU ?_|refine wU ?_);clear k m c;intro w m k;have c:=HX.out w m.zO)|(go_roundw;(case rel=>exact⟨j+1,cy,y,HJ.out,by go_num,HFn.out,gB,OO.out.trans gO (fun q hq=>.inl hq)⟩);(case measure=>first|(simp[intOf];done)|(simp[intOf];omega))))
    ·rw[if_neg (by decide)] at HFn
     have m:=kV HH5.out;have k:=m.zK;have c:=HX.out wr (aR _ _);go_wp2_with (first|((with_reducible first|refine cU ?_|refine wU ?_);clear k m c;intro w m k;have c:=HX.out w m.zO)|(go_roundw;(case rel=>exact⟨j+1,x,cy,HJ.out,by go_num,HFn.out,gB,OO.out.trans gO (fun q hq=>.inl hq)⟩);(case measure=>first|(simp[intOf];done)|(simp[intOf];omega))))
   ·have dt:decide (ca<=t)=false:=dL ht
    rw[if_neg ht] at HFn;clear hck;have m:=kV HH5.out;have k:=m.zK;have c:=HX.out wr (aR _ _);go_wp2_with (first|((with_reducible first|refine cU ?_|refine wU ?_);clear k m c;intro w m k;have c:=HX.out w m.zO)|(go_roundw;(case rel=>exact⟨j+1,x,y,HJ.out,by go_num,HFn.out,gB,OO.out.trans gO (fun q hq=>.inl hq)⟩);(case measure=>first|(simp[intOf];done)|(simp[intOf];omega))))
  ·obtain rfl:j=ch.length:=by omega
   have hlt2:decide ((ch.length:Int)<(ch.length:Int))=false:=by simp
   have HFn:=HF.out;rw[List.take_length,HE.out] at HFn;subst HFn;have W3:=W2;have m:Mm wr [b4,b5] wr _:=⟨((Mem.start wr [b4,b5]).ext true H4'.out (by simp) (by simp)).ext true HH5.out (by simpa using n45) (by simp)⟩;have k:=m.zK;go_wp2_with (first|((with_reducible first|refine cU ?_|refine wU ?_);clear k m;intro w m k)|((with_reducible refine lE (fun w o g k K hK=>⟨rfl,?_⟩));simp[results,Tryz.results160,go_sem,k];refine hK _ ?_;exact⟨rfl,W3.out.trans o (fun q hq=>.inr (by simp only[List.mem_cons,List.not_mem_nil,or_false] at hq;omega))⟩))
theorem pDelay {w:World} {p:Option Addr} {m cap:Nat} (l:Lk) (d t:Int) (hv:aU chC 3 w p m cap l.ch) (hl:fP l=0) (hn:m<=100000) (hd:d=0\/d=1) (t0:0<=t) (t1:t<=1125899906842624) :
  Calls Tryz.prog 156 #[VR l p m cap,.int .i64 d,.int .i64 t] w fun e w'=>e=.returned (.int .i64 (GZ (xQ l t) d))/\Oy [] w w':=by
 have HC:=aA (fun w' (o:Oy [] w w')=>by have:=QN l (hv.kept o) hn;rw[hl] at this;exact this);have HD:=aA (fun w'=>by have:=eqO (pDir d w');rw[show dZ d 0 1=true from bI.2 (by omega)] at this;exact this);have HT:=aA (fun w'=>by have:=eqO (XC t w');rw[show dZ t 0 1125899906842624=true from bI.2 ⟨t0,t1⟩] at this;exact this);have hok:=ZY hl;have HL:=aA (fun w' (o:Oy [] w w')=>pDelays l t (hv.kept o) hok.2.2.2.2.2.1 hn);obtain⟨res,HE⟩:∃ zz,Hid (GZ (xQ l t) d=zz):=⟨_,aA rfl⟩;rw[HE.out];unfold GZ at HE;generalize xQ l t=pp at HL HE;obtain⟨x,y⟩:=pp;dsimp only at HL HE;unfold VR at HC HL |-;obtain⟨A,B,d0,d1,v0,v1,lo,sd,ch⟩:=l;dsimp only at HC HL |-;clear hv hl hn t0 t1 hok;rcases hd with rfl|rfl
 focus
  rw[if_pos rfl] at HE;obtain rfl:=HE.out;have ix:∀ w,(Instr.index 76 (.agg #[.int .i64 x,.int .i64 y]) (.int .i64 0)).run Tryz.prog w=.ok (.int .i64 x) w:=fun w=>by kernel_rfl
 rotate_left
 focus
  rw[if_neg (by decide)] at HE;obtain rfl:=HE.out;have ix:∀ w,(Instr.index 76 (.agg #[.int .i64 x,.int .i64 y]) (.int .i64 1)).run Tryz.prog w=.ok (.int .i64 y) w:=fun w=>by kernel_rfl
 rotate_left
 all_goals
  have m:=bJ w [];have k:=m.zK;go_enter Tryz.func156,Tryz.ntmps156
  go_wp2_with (first|((with_reducible first|refine cM (HC.out _ gO) ?_|refine cM (HD.out _) ?_|refine cM (HT.out _) ?_|refine cM (HL.out _ gO) ?_|refine wU ?_);clear k m;intro w m k)|((with_reducible refine lE (fun w o g k K hK=>⟨rfl,?_⟩));simp[results,Tryz.results156,go_sem];refine hK _ ?_;exact⟨rfl,o⟩))
theorem pNoise {w:World} {p:Option Addr} {m cap:Nat} (l:Lk) (d n:Int) (hv:aU chC 3 w p m cap l.ch) (hl:fP l=0) (hn:m<=100000) (hd:d=0\/d=1) (n0:0<=n) (n1:n<=1099511627776) {R:List (Int × Int)} (hR:rQ w R) :
  Calls Tryz.prog 157 #[VR l p m cap,.int .i64 d,.int .i64 n] w fun e w'=>e=.returned (.int .i64 (IG R l d n))/\Oy [] w w':=by
 have HC:=aA (fun w' (o:Oy [] w w')=>by have:=QN l (hv.kept o) hn;rw[hl] at this;exact this);have HD:=aA (fun w'=>by have:=eqO (pDir d w');rw[show dZ d 0 1=true from bI.2 (by omega)] at this;exact this);have HN:=aA (fun w'=>by have:=YT n w';rw[show dZ n 0 1099511627776=true from bI.2 ⟨n0,n1⟩] at this;exact this);have hok:=ZY hl;have HM:=aA (fun w' (o:Oy [] w w')=>pMix l.sd (4*n+2*d+1) (hR.kept o));have hub:=xE (R:=R) l.sd (4*n+2*d+1);obtain⟨res,HE⟩:∃ zz,Hid (IG R l d n=zz):=⟨_,aA rfl⟩;rw[HE.out];unfold IG GZ at HE;generalize gU R l.sd (4*n+2*d+1)=x at HM HE hub;unfold VR at HC |-;obtain⟨A,B,d0,d1,v0,v1,lo,sd,ch⟩:=l;dsimp only at HC HM HE hok |-;clear hv hl hn;have hv0:=hok.2.2.1;have hv1:=hok.2.2.2.1;clear hok hR;have r1:wrap .i64 (4*n)=4*n:=by rw[wrap_i64];omega
 obtain⟨v,hv,vb⟩:∃ v,(if d=0 then v0 else v1)=v/\0<=v/\v<=10000000000:=⟨_,rfl,by split<;>omega⟩;rw[hv] at HE;have q1:wrap .i64 (v+1)=v+1:=by rw[wrap_i64];omega
 have q2:wrap .u64 (v+1)=v+1:=by rw[wrap_u64];omega
 have q3:x.tmod (v+1)=x % (v+1):=Int.tmod_eq_emod_of_nonneg hub.1;have q4:0<=x % (v+1):=Int.emod_nonneg _ (by omega);have q5:x % (v+1)<v+1:=Int.emod_lt_of_pos _ (by omega);have q6:wrap .i64 (x % (v+1))=x % (v+1):=by rw[wrap_i64];omega
 have q7:(v+1 == 0)=false:=by simp;omega
 have q8:v+1≠0:=by omega
 obtain⟨z,hz⟩:∃ z,x % (v+1)=z:=⟨_,rfl⟩;rw[hz] at q3 q6 HE;obtain rfl:=HE.out;clear HE q4 q5 hz hub vb hv0 hv1;rcases hd with rfl|rfl
 focus
  rw[if_pos rfl] at hv;subst hv;have r4:wrap .i64 (4*n+1)=4*n+1:=by rw[wrap_i64];omega
  have r5:wrap .u64 (4*n+1)=4*n+1:=by rw[wrap_u64];omega
  simp only[Int.mul_zero,Int.add_zero] at HM
 rotate_left
 focus
  rw[if_neg (by decide)] at hv;subst hv;have r3:wrap .i64 (4*n+2)=4*n+2:=by rw[wrap_i64];omega
  have r4:wrap .i64 (4*n+2+1)=4*n+2+1:=by rw[wrap_i64];omega
  have r5:wrap .u64 (4*n+2+1)=4*n+2+1:=by rw[wrap_u64];omega
  simp only[Int.mul_one] at HM
 rotate_left
 all_goals
  clear n0 n1;have m:=bJ w [];have k:=m.zK;go_enter Tryz.func157,Tryz.ntmps157
  go_wp2_with (first|((with_reducible first|refine cM (HC.out _ gO) ?_|refine cM (HD.out _) ?_|refine cM (HN.out _) ?_|refine cM (HM.out _ gO) ?_|refine wU ?_);clear k m;intro w m k)|((with_reducible refine lE (fun w o g k K hK=>⟨rfl,?_⟩));simp[results,Tryz.results157,go_sem];refine hK _ ?_;exact⟨rfl,o⟩))
def zG:Option Int->Value
 | none=>.tuple #[.int .i64 0,.bool false]
 | some t=>.tuple #[.int .i64 t,.bool true]
theorem pArrive {w:World} {p:Option Addr} {m cap:Nat} (l:Lk) (d t n:Int) (hv:aU chC 3 w p m cap l.ch) (hl:fP l=0) (hn:m<=100000) (hd:d=0\/d=1) (t0:0<=t) (t1:t<=1125899906842624) (n0:0<=n) (n1:n<=1099511627776) {R:List (Int × Int)} (hR:rQ w R) :
  Calls Tryz.prog 151 #[VR l p m cap,.int .i64 d,.int .i64 t,.int .i64 n] w fun e w'=>e=.returned (zG (LX R l d t n))/\Oy [] w w':=by
 have HC:=aA (fun w' (o:Oy [] w w')=>by have:=QN l (hv.kept o) hn;rw[hl] at this;exact this);have HD:=aA (fun w'=>by have:=eqO (pDir d w');rw[show dZ d 0 1=true from bI.2 (by omega)] at this;exact this);have HT:=aA (fun w'=>by have:=eqO (XC t w');rw[show dZ t 0 1125899906842624=true from bI.2 ⟨t0,t1⟩] at this;exact this);have HN:=aA (fun w'=>by have:=YT n w';rw[show dZ n 0 1099511627776=true from bI.2 ⟨n0,n1⟩] at this;exact this);have hok:=ZY hl;have HM:=aA (fun w' (o:Oy [] w w')=>pMix l.sd (4*n+2*d) (hR.kept o));have HY:=aA (fun w' (o:Oy [] w w')=>pDelay l d t (hv.kept o) hl hn hd t0 t1);have HZ:=aA (fun w' (o:Oy [] w w')=>pNoise l d n (hv.kept o) hl hn hd n0 n1 (hR.kept o));have hub:=xE (R:=R) l.sd (4*n+2*d)
 have hdb:0<=GZ (xQ l t) d/\GZ (xQ l t) d<=10000000000:=by
  have:=dly_bd (t:=t) (p:=(l.d0,l.d1)) hok.2.2.2.2.2.1 ⟨hok.1,hok.2.1⟩;unfold GZ xQ;split
  ·exact this.1
  ·exact this.2
 have hnb:0<=IG R l d n/\IG R l d n<=10000000000:=by
  unfold IG
  have hp:0<=GZ (l.v0,l.v1) d/\GZ (l.v0,l.v1) d<=10000000000:=by
   unfold GZ;split
   ·exact hok.2.2.1
   ·exact hok.2.2.2.1
  have h1:=Int.emod_nonneg (gU R l.sd (4*n+2*d+1)) (b:=GZ (l.v0,l.v1) d+1) (by omega);have h2:=Int.emod_lt_of_pos (gU R l.sd (4*n+2*d+1)) (b:=GZ (l.v0,l.v1) d+1) (by omega);omega
 obtain⟨res,HE⟩:∃ zz,Hid (LX R l d t n=zz):=⟨_,aA rfl⟩;rw[HE.out];unfold LX at HE;generalize gU R l.sd (4*n+2*d)=x at HM HE hub;generalize GZ (xQ l t) d=dl at HY HE hdb;generalize IG R l d n=no at HZ HE hnb;unfold VR at HC HY HZ |-;obtain⟨A,B,d0,d1,v0,v1,lo,sd,ch⟩:=l;dsimp only at HC HM HY HZ HE |-;clear hv hl hn hok hR;have q3:x.tmod 1000=x % 1000:=Int.tmod_eq_emod_of_nonneg hub.1;have q6:wrap .i64 (x % 1000)=x % 1000:=by rw[wrap_i64];omega
 have r1:wrap .i64 (4*n)=4*n:=by rw[wrap_i64];omega
 obtain⟨z,hz⟩:∃ z,x % 1000=z:=⟨_,rfl⟩;rw[hz] at q3 q6 HE;have s1:wrap .i64 (t+dl)=t+dl:=by rw[wrap_i64];omega
 have s2:wrap .i64 (t+dl+no)=t+dl+no:=by rw[wrap_i64];omega
 clear hz hub hdb hnb t0 t1;rcases hd with rfl|rfl
 focus
  have r5:wrap .u64 (4*n)=4*n:=by rw[wrap_u64];omega
  simp only[Int.mul_zero,Int.add_zero] at HM
 rotate_left
 focus
  have r3:wrap .i64 (4*n+2)=4*n+2:=by rw[wrap_i64];omega
  have r5:wrap .u64 (4*n+2)=4*n+2:=by rw[wrap_u64];omega
  simp only[Int.mul_one] at HM
 rotate_left
 all_goals
  clear n0 n1;by_cases hlt:z<lo
  ·have hd1:decide (z<lo)=true:=eY hlt
   rw[if_pos hlt] at HE;obtain rfl:=HE.out;clear HY HZ;unfold zG;have m:=bJ w [];have k:=m.zK;go_enter Tryz.func151,Tryz.ntmps151
   go_wp2_with (first|((with_reducible first|refine cM (HC.out _ gO) ?_|refine cM (HD.out _) ?_|refine cM (HT.out _) ?_|refine cM (HN.out _) ?_|refine cM (HM.out _ gO) ?_|refine wU ?_);clear k m;intro w m k)|((with_reducible refine iY (id:=6) [0,1,2,3,4,5,6,7,8,9,10,11,12] [] ?_);simp only[bV];(repeat' (first|go_big_quiet_step (fail)|(refine wpQuiet_step (fun K hK=>?_);go_simp;(first|(refine hK _ ?_;clear hK K)|(split<;>(refine hK _ ?_;clear hK K))))));all_goals (refine wpQuiet_nil ?_;clear k m;intro w m k))|((with_reducible refine lE (fun w o g k K hK=>⟨rfl,?_⟩));simp[results,Tryz.results151,go_sem];refine hK _ ?_;exact⟨rfl,o⟩))
  ·have hd1:decide (z<lo)=false:=dL hlt
   rw[if_neg hlt] at HE;obtain rfl:=HE.out;unfold zG;have m:=bJ w [];have k:=m.zK;go_enter Tryz.func151,Tryz.ntmps151
   go_wp2_with (first|((with_reducible first|refine cM (HC.out _ gO) ?_|refine cM (HD.out _) ?_|refine cM (HT.out _) ?_|refine cM (HN.out _) ?_|refine cM (HM.out _ gO) ?_|refine wU ?_);clear k m;intro w m k)|((with_reducible refine iY (id:=6) [0,1,2,3,4,5,6,7,8,9,10,11,12] [] ?_);simp only[bV];(repeat' (first|go_big_quiet_step (with_reducible first|exact gX (HY.out _ RH)|exact gX (HZ.out _ RH))|(refine wpQuiet_step (fun K hK=>?_);go_simp;(first|(refine hK _ ?_;clear hK K)|(split<;>(refine hK _ ?_;clear hK K))))));all_goals (refine wpQuiet_nil ?_;clear k m;intro w m k))|((with_reducible refine lE (fun w o g k K hK=>⟨rfl,?_⟩));simp[results,Tryz.results151,go_sem];refine hK _ ?_;exact⟨rfl,o⟩))
end
section
open Go.Sort
def U3 (l:List Sg) (i:Nat):Int:=if i+1<l.length then (l.getD (i+1) pW).a else 1125899906842624
abbrev PN:=Sg × Int
def spC (x:PN):List Value:=[.int .i64 x.1.a,.int .i64 x.1.p,.int .i64 x.2]
theorem vC (x:PN):(spC x).length=3:=rfl
def yT (l:List Sg) (i:Nat):PN:=(l.getD i pW,U3 l i)
def oK (l:List Sg):List PN:=(List.range l.length).map (yT l)
def kG (t:Int) (x:PN):Int:=max 0 (min t x.2-x.1.a)
def yQ (t:Int) (l:List PN):Int:=(l.map fun x=>x.1.p*kG t x).sum
def qR (ph:Int) (l:List Sg) (t:Int):Int:=ph+t+yQ t (oK l) / 1000000000
theorem vI {ph:Int} {l:List Sg} (h:fO ph l=0):0<l.length/\l.length<=16/\(-1125899906842624<=ph/\ph<=1125899906842624) /\
  (∀ i (hi:i<l.length),(0<=l[i].a/\l[i].a<=1125899906842624)/\(-500000<=l[i].p/\l[i].p<=500000)/\(i=0->l[i].a=0)/\(∀ h0:0<i,(l[i-1]'(by omega)).a<l[i].a)):=by
 unfold fO at h;split at h
 ·exact absurd h (by decide)
 ·rename_i h1
  split at h
  ·exact absurd h (by decide)
  ·rename_i h2
   split at h
   ·rename_i h3
    refine⟨by omega,by omega,bI.1 h3,fun i hi=>?_⟩;have h4:=tV.1 h i (Nat.zero_le _) (by omega);have hg:l.getD i pW=l[i]:=by rw[getD_eq_getElem?_getD,getElem?_eq_getElem hi];rfl
    unfold JX at h4;rw[hg] at h4;split at h4
    ·rename_i h5
     split at h4
     ·exact absurd h4 (by decide)
     ·rename_i h6
      split at h4
      ·exact absurd h4 (by decide)
      ·rename_i h7
       refine⟨bI.1 h5.1,bI.1 h5.2,fun hz=>Classical.byContradiction fun q=>h6 ⟨hz,q⟩,fun h0=>?_⟩;have hg2:l.getD (i-1) pW=l[i-1]'(by omega):=by rw[getD_eq_getElem?_getD,getElem?_eq_getElem (by omega)];rfl
       rw[hg2] at h7;omega
    ·exact absurd h4 (by decide)
   ·exact absurd h (by decide)
theorem sg_lt {ph:Int} {l:List Sg} (h:fO ph l=0):∀ (j i:Nat) (hij:i<j) (hj:j<l.length),(l[i]'(by omega)).a<l[j].a
 | 0,_,hij,_=>absurd hij (Nat.not_lt_zero _)
 |j+1,i,hij,hj=>by
  have h1:=((vI h).2.2.2 (j+1) hj).2.2.2 (Nat.succ_pos _);simp only[Nat.add_sub_cancel] at h1;by_cases he:i=j
  ·subst he;exact h1
  ·have:=sg_lt h j i (by omega) (by omega)
   omega
theorem sg_last {ph:Int} {l:List Sg} (h:fO ph l=0) {i:Nat} (hi:i<l.length):(l[i]=l[l.length-1]'(by omega))↔i+1=l.length:=by
 refine⟨fun he=>?_,fun he=>by congr 1;omega⟩;by_cases hq:i+1=l.length
 ·exact hq
 ·have:=sg_lt h (l.length-1) i (by omega) (by omega)
  rw[he] at this;omega
theorem spn_bd {ph:Int} {l:List Sg} (h:fO ph l=0) {i:Nat} (hi:i<l.length):(yT l i).1=l[i]/\0<=(yT l i).2/\(yT l i).2<=1125899906842624:=by
 have hg:l.getD i pW=l[i]:=by rw[getD_eq_getElem?_getD,getElem?_eq_getElem hi];rfl
 refine⟨hg,?_⟩;unfold yT U3;dsimp only;split
 ·rename_i h1
  have hg2:l.getD (i+1) pW=l[i+1]:=by rw[getD_eq_getElem?_getD,getElem?_eq_getElem h1];rfl
  rw[hg2];exact ((vI h).2.2.2 (i+1) h1).1
 ·omega
theorem dur_bd (t:Int) (x:PN) (t1:t<=1125899906842624) (h0:0<=x.1.a):0<=kG t x/\kG t x<=1125899906842624:=by unfold kG;omega
theorem GY {a p A:Int} (a0:0<=a) (a1:a<=A) (p0: -500000<=p) (p1:p<=500000): -(A*500000)<=p*a/\p*a<=A*500000:=by
 have h1:=Int.mul_le_mul_of_nonneg_left p1 a0;have h2:=Int.mul_le_mul_of_nonneg_left p0 a0;have h3:=Int.mul_le_mul_of_nonneg_right a1 (show (0:Int)<=500000 by decide);rw[Int.mul_neg] at h2;rw[Int.mul_comm p a];omega
structure RdG (t:Int) (l:List PN) (wh rs:Int):Prop where
 sum:wh*1000000000+rs=yQ t l
 w0: -(l.length*562949953500)<=wh
 w1:wh<=l.length*562949953500
 r0: -(l.length*500000000000000)<=rs
 r1:rs<=l.length*500000000000000
theorem RdG.add {t:Int} {l:List PN} {wh rs:Int} (h:RdG t l wh rs) (x:PN) (hd:0<=kG t x/\kG t x<=1125899906842624) (p0: -500000<=x.1.p) (p1:x.1.p<=500000) :
  RdG t (l ++ [x]) (wh+x.1.p*(kG t x / 1000000000)) (rs+x.1.p*(kG t x % 1000000000)):=by
 have hs:=h.sum;have a0:=h.w0;have a1:=h.w1;have b0:=h.r0;have b1:=h.r1;have q1:=GY (a:=kG t x / 1000000000) (A:=1125899) (by omega) (by omega) p0 p1;have q2:=GY (a:=kG t x % 1000000000) (A:=1000000000) (by omega) (by omega) p0 p1
 have e:x.1.p*kG t x=x.1.p*(kG t x / 1000000000)*1000000000+x.1.p*(kG t x % 1000000000):=by
  rw[Int.mul_assoc,<-Int.mul_add];congr 1
  omega
 have hsum:yQ t (l ++ [x])=yQ t l+x.1.p*kG t x:=by
  unfold yQ;rw[List.map_append,List.sum_append];simp
 rw[<-e.symm] at hsum;generalize x.1.p*(kG t x / 1000000000)=u at *;generalize x.1.p*(kG t x % 1000000000)=v at *;have hl:((l ++ [x]).length:Int)=(l.length:Int)+1:=by simp
 refine⟨by omega,?_,?_,?_,?_⟩<;>rw[hl]<;>omega
theorem aU.spn {w wr:World} {n cap k:Nat} {p:Option Addr} {l:List PN} (hv:aU spC 3 w p n cap l) (ho:Oy [] w wr) (hk:k<l.length) :
  ∃ bk off,p=some ⟨bk,off,none⟩/\bk<wr.heap.size/\wr.cell? ⟨bk,off+k*3,none⟩=some (.int .i64 l[k].1.a)/\wr.cell? ⟨bk,off+k*3+1,none⟩=some (.int .i64 l[k].1.p)/\wr.cell? ⟨bk,off+k*3+2,none⟩=some (.int .i64 l[k].2):=by
 obtain⟨b,off,hp,hb,hc⟩:=(hv.kept ho).cell k l[k] (getElem?_eq_getElem hk);exact⟨b,off,hp,hb,hc 0 _ rfl,hc 1 _ rfl,hc 2 _ rfl⟩
theorem TU {w:World} {p:Option Addr} {n cap:Nat} {l:List PN} (ph t:Int) (hv:aU spC 3 w p n cap l) (hn:n<=16) (hl:∀ x∈l,(0<=x.1.a/\x.1.a<=1125899906842624)/\(-500000<=x.1.p/\x.1.p<=500000)/\(0<=x.2/\x.2<=1125899906842624)) (h0: -1125899906842624<=ph/\ph<=1125899906842624) (t0:0<=t) (t1:t<=1125899906842624) :
  Calls Tryz.prog 80 #[.int .i64 ph,.slice p n cap,.int .i64 t] w fun e w'=>e=.returned (.int .i64 (ph+t+yQ t l / 1000000000))/\Oy [] w w':=by
 have HV:=aA hv;have hln:=hv.len;have hcap:=Nat.le_trans hv.le hv.cm;subst hln;have HL:=aA (fun k (hk:k<l.length)=>hl _ (List.getElem_mem hk));clear hv hl;obtain⟨wo,rfl⟩:∃ wo:World,wo=w:=⟨_,rfl⟩;go_enter Tryz.func80,Tryz.ntmps80
 go_wp2_with fail
 go_loopw [7,8,16] (fun vw vr vi wr=>∃ (j:Nat) (wh rs:Int),j<=l.length/\vw=.int .i64 wh/\vr=.int .i64 rs/\vi=.int .i64 j/\RdG t (l.take j) wh rs/\Oy [] wo wr) (fun _ _ vi _=>l.length-(intOf vi).toNat)
 case atStart=>exact⟨0,0,0,Nat.zero_le _,rfl,rfl,rfl,⟨by simp[yQ],by simp,by simp,by simp,by simp⟩,aR _ _⟩
 case round =>
  obtain⟨j,wh,rs,hj,rfl,rfl,rfl,hs,ho⟩:=hrel;have OO:=aA ho;have HS:=aA hs;clear hs ho;by_cases hlt:j<l.length
  ·have hlt2:(j:Int)<(l.length:Int):=by omega
   obtain⟨bk,off,rfl,-⟩:=HV.out.spn (aR _ _) hlt
   have HX:=aA (show ∀ w',Oy [] wr w'->_ from fun w' o=>by
    have:=HV.out.spn (OO.out.aB o) hlt;obtain⟨bk',off',e,c1,c2,c3,c4⟩:=this
    cases e
    exact And.intro c1 (And.intro c2 (And.intro c3 c4)))
   have hx:=HL.out j hlt;have HA:=aA (HS.out.add l[j] (dur_bd t l[j] t1 hx.1.1) hx.2.1.1 hx.2.1.2);rw[<-List.take_succ_eq_append_getElem hlt] at HA;have hlen:(l.take j).length=j:=by simp;omega
   have b0:=HS.out.w0;have b1:=HS.out.w1;have b2:=HS.out.r0;have b3:=HS.out.r1;rw[hlen] at b0 b1 b2 b3;have hdb:=dur_bd t l[j] t1 hx.1.1;have q1:=GY (a:=kG t l[j] / 1000000000) (A:=1125899) (by omega) (by omega) hx.2.1.1 hx.2.1.2;have q2:=GY (a:=kG t l[j] % 1000000000) (A:=1000000000) (by omega) (by omega) hx.2.1.1 hx.2.1.2;obtain⟨d,hd⟩:∃ d,kG t l[j]=d:=⟨_,rfl⟩;have HD:=aA (show max 0 (min t l[j].2-l[j].1.a)=d from hd);rw[hd] at hdb q1 q2 HA;generalize l[j]=x at HX hx HD HA q1 q2;obtain⟨⟨sa,sp⟩,se⟩:=x;dsimp only at HX hx HD HA q1 q2;have e1:wrap .i64 (min t se-sa)=min t se-sa:=by rw[wrap_i64];omega
   have e2:max 0 (min t se-sa)=d:=HD.out;have e3:d.tdiv 1000000000=d / 1000000000:=Int.tdiv_eq_ediv_of_nonneg hdb.1;have e4:d.tmod 1000000000=d % 1000000000:=Int.tmod_eq_emod_of_nonneg hdb.1;have e5:wrap .i64 (d / 1000000000)=d / 1000000000:=by rw[wrap_i64];omega
   have e6:wrap .i64 (d % 1000000000)=d % 1000000000:=by rw[wrap_i64];omega
   obtain⟨x1,hx1⟩:∃ y,d / 1000000000=y:=⟨_,rfl⟩;obtain⟨x2,hx2⟩:∃ y,d % 1000000000=y:=⟨_,rfl⟩;rw[hx1] at e3 e5 HA q1;rw[hx2] at e4 e6 HA q2;obtain⟨y1,hy1⟩:∃ y,sp*x1=y:=⟨_,rfl⟩;obtain⟨y2,hy2⟩:∃ y,sp*x2=y:=⟨_,rfl⟩;rw[hy1] at HA q1;rw[hy2] at HA q2;have e7:wrap .i64 (sp*x1)=y1:=by rw[hy1,wrap_i64];omega
   have e8:wrap .i64 (sp*x2)=y2:=by rw[hy2,wrap_i64];omega
   have e9:wrap .i64 (wh+y1)=wh+y1:=by rw[wrap_i64];omega
   have ea:wrap .i64 (rs+y2)=rs+y2:=by rw[wrap_i64];omega
   have eb:wrap .i64 ((j:Int)+1)=((j+1:Nat):Int):=by rw[wrap_i64];omega
   have HJ:=aA (show j+1<=l.length by omega);clear HD hdb hd hx hx1 hx2 hy1 hy2 q1 q2 b0 b1 b2 b3 hlen HS;have m:=bJ wr [];have k:=m.zK;have c:=HX.out wr (aR _ _);go_wp2_with ((with_reducible first|refine cU ?_|refine wU ?_);clear k m c;intro w m k;have c:=HX.out w m.zO)
   (go_roundw;(case rel=>exact⟨j+1,_,_,HJ.out,rfl,rfl,by go_num,HA.out,OO.out.aB gO⟩);(case measure=>first|(simp[intOf];done)|(simp[intOf];omega)))
  ·obtain rfl:j=l.length:=by omega
   have hlt2:decide ((l.length:Int)<(l.length:Int))=false:=by simp
   have hs:=HS.out;rw[List.take_length] at hs;have b0:=hs.w0;have b1:=hs.w1;have b2:=hs.r0;have b3:=hs.r1;have e:=hs.sum;have HF:=aA (fun w'=>j5 (NY rs 1000000000 w' (by omega) (by omega) (by omega) (by omega)));have HR:=aA (show ph+t+wh+rs / 1000000000=ph+t+yQ t l / 1000000000 by rw[<-e];omega);have e1:wrap .i64 (ph+t)=ph+t:=by rw[wrap_i64];omega
   have e2:wrap .i64 (ph+t+wh)=ph+t+wh:=by rw[wrap_i64];omega
   have e3:wrap .i64 (ph+t+wh+rs / 1000000000)=ph+t+wh+rs / 1000000000:=by rw[wrap_i64];omega
   generalize rs / 1000000000=q at HF e3 HR;clear hs HS e b0 b1 b2 b3;have m:=bJ wr [];have k:=m.zK;go_wp2_with (first|((with_reducible first|refine cM (HF.out _) ?_|refine cU ?_|refine wU ?_);clear k m;intro w m k)|((with_reducible refine lE (fun w o g k K hK=>⟨rfl,?_⟩));simp[results,Tryz.results80,go_sem];refine hK _ ?_;exact⟨by rw[HR.out],OO.out.trans o (by simp)⟩))
theorem qN (l:List Sg):(oK l).length=l.length:=by simp[oK]
theorem fill_set {l:List Sg} {j:Nat} (hj:j<l.length):((oK l).take j ++ List.replicate (l.length-j) (pW,(0:Int))).set j (yT l j)=(oK l).take (j+1) ++ List.replicate (l.length-(j+1)) (pW,0):=by
 have hl:((oK l).take j).length=j:=by rw[List.length_take,qN];omega
 rw[List.set_append_right _ _ (by omega),hl,Nat.sub_self,show l.length-j=(l.length-(j+1))+1 by omega,List.replicate_succ,List.set_cons_zero,List.take_succ_eq_append_getElem (by rw[qN];exact hj),List.append_assoc];simp[oK]
@[go_sem ↓] theorem sg_neq (a b c d:Int) (w:World):(binOp .neq 48 (.agg #[.int .i64 a,.int .i64 b]) (.agg #[.int .i64 c,.int .i64 d])).run Tryz.prog w=.ok (.bool (!(a == c && b == d))) w:=by
 by_cases h1:a=c
 ·by_cases h2:b=d
  ·simp[go_sem,h1,h2]
  ·simp[go_sem,h1,h2]
 ·simp[go_sem,h1]
theorem FJ {α:Type} {enc:α->List Value} {s:Nat} (hs:∀ x,(enc x).length=s) {j:Nat} {v:Value} (hj:j<s) {x':α}:∀ (l:List α) (i:Nat) (hi:i<l.length),enc x'=(enc l[i]).set j v->(l.flatMap enc).set (i*s+j) v=(l.set i x').flatMap enc
 | [],i,hi,_=>absurd hi (by simp)
 |y::l,0,_,hx=>by
  simp only[List.getElem_cons_zero] at hx;simp only[List.flatMap_cons,List.set_cons_zero,hx,Nat.zero_mul,Nat.zero_add];rw[List.set_append_left _ _ (by rw[hs];exact hj)]
 |y::l,i+1,hi,hx=>by
  simp only[List.getElem_cons_succ] at hx;simp only[List.flatMap_cons,List.set_cons_succ];rw[List.set_append_right _ _ (by rw[hs,Nat.succ_mul];omega),hs,show (i+1)*s+j-s=i*s+j by rw[Nat.succ_mul];omega,FJ hs hj l i (by simpa using hi) hx]
theorem aO.D8 {α:Type} {enc:α->List Value} {e:TypeId} {s:Nat} (hs:∀ x,(enc x).length=s) {w:World} {g cap:Nat} {l:List α} (h:aO enc e s w g cap l) {i j:Nat} (hi:i<l.length) (hj:j<s) {v:Value} {x':α} (hx:enc x'=(enc l[i]).set j v) :
  aO enc e s (w.setCell ⟨g,i*s+j,none⟩ v) g cap (l.set i x'):=by
 obtain⟨cur,h1,h2,h3,h4,h5⟩:=h
 have hlt:i*s+j<l.length*s:=by
  have:=Nat.mul_le_mul_right s (show i+1<=l.length by omega);rw[Nat.succ_mul] at this;omega
 refine⟨cur.setIfInBounds (i*s+j) v,aH v h1,by simp[h2],by simpa using h3,h4,?_⟩
 ·rw[List.length_set,Array.toList_setIfInBounds,<-FJ hs hj l i hi hx,<-h5,List.take_set]
theorem pSpans {w:World} {p:Option Addr} {n cap:Nat} {l:List Sg} (ph:Int) (hv:aU TB 2 w p n cap l) (hok:fO ph l=0) :
  Calls Tryz.prog 81 #[.agg #[.int .i64 ph,.slice p n cap]] w fun e w'=>∃ g,e=.returned (.slice (some ⟨g,0,none⟩) n n)/\w.heap.size<=g/\aO spC 240 3 w' g n (oK l)/\Oy [] w w':=by
 have HV:=aA hv;have hln:=hv.len;have hcap:=Nat.le_trans hv.le hv.cm;subst hln;have HK:=aA hok;have hk:=vI hok;have h0:=hk.1;have h16:=hk.2.1;clear hv hok hk;obtain⟨wo,rfl⟩:∃ wo:World,wo=w:=⟨_,rfl⟩;obtain⟨bl,ol,hpl,hl0,-⟩:=HV.out.cell (l.length-1) (l[l.length-1]'(by omega)) (getElem?_eq_getElem (by omega));subst hpl
 have HXL:=aA (show ∀ w',Oy [] wo w'->bl<w'.heap.size/\w'.cell? ⟨bl,ol+(l.length-1)*2,none⟩=some (.int .i64 (l[l.length-1]'(by omega)).a)/\w'.cell? ⟨bl,ol+(l.length-1)*2+1,none⟩=some (.int .i64 (l[l.length-1]'(by omega)).p) from fun w' o=>by
  obtain⟨b',o',e,c1,c2⟩:=(HV.out.kept o).cell (l.length-1) (l[l.length-1]'(by omega)) (getElem?_eq_getElem (by omega))
  cases e
  exact And.intro c1 (And.intro (c2 0 _ rfl) (c2 1 _ rfl)))
 obtain⟨sl,hsl⟩:∃ s,l[l.length-1]'(by omega)=s:=⟨_,rfl⟩;have HLS:=aA hsl;simp only[hsl] at HXL;clear hsl hl0;obtain⟨la,lp⟩:=sl;dsimp only at HXL;have r0:wrap .i64 ((l.length:Int)-1)=((l.length-1:Nat):Int):=by rw[wrap_i64];omega
 have m:=bJ wo [];have k:=m.zK;go_enter Tryz.func81,Tryz.ntmps81
 go_upto_region 1 with (fail)
 refine wU ?_;clear k m;intro w m k;have hgs:wo.heap.size<=w.heap.size:=m.zO.size;have hbo:wo.heap.size<w.heap.size:=aF (gB (w:=w) (b:=wo.heap.size));go_wp2_with (refine wpList_make_own spC rfl _ _ 209 rfl 240 (.agg #[.int .i64 0,.int .i64 0,.int .i64 0]) 3 24 Tryz.underlying209 (by kernel_rfl) vC (pW,0) rfl .i64 .i64 _ _ l.length rfl rfl rfl rfl (by omega) (by unfold maxLen;omega) ?_;intro w1 hr1 ho1 hs1;refine aW ?_)
 replace m:=m.oth ho1 (by simp) (by simp);clear k;have HR:=aA hr1;have hg1:w.heap.size<w1.heap.size:=by omega
 clear hr1 ho1 hs1;generalize w.heap.size=g at HR hgs hbo hg1 |-;clear w;obtain⟨w,rfl⟩:∃ w:World,w=w1:=⟨_,rfl⟩;have HR':=aA (show ∀ w',Oy [] w w'->aO spC 240 3 w' g l.length (List.replicate l.length (pW,0)) from fun w' o=>HR.out.kept o (by simp));obtain⟨wk,hwk⟩:∃ wk:World,wk=w:=⟨_,rfl⟩;have MK:=aA m.zO;have hbx:=gB (w:=w) (b:=wo.heap.size);subst hwk;clear m;have m:=iX hbx;have k:=m.zK;have c:=HXL.out wk MK.out;have HXL:=aA (show ∀ w',Oy [] wk w'->bl<w'.heap.size/\w'.cell? ⟨bl,ol+(l.length-1)*2,none⟩=some (.int .i64 la)/\w'.cell? ⟨bl,ol+(l.length-1)*2+1,none⟩=some (.int .i64 lp) from fun w' o=>HXL.out w' (MK.out.trans o (by simp)));refine bH ?_;go_wp2_with ((with_reducible first|refine cU ?_|refine wU ?_);clear k m c;intro w m k;have c:=HXL.out w m.zO)
 have h4:=gB (w:=w) (b:=wk.heap.size);have hbx:=gB (w:=w) (b:=wo.heap.size);have n4:wk.heap.size≠wo.heap.size:=gN w;have OB:=aA (MK.out.trans m.zO (by simp));have HG:=aA (HR'.out w m.zO);have hg4:g≠wk.heap.size:=by omega
 generalize wk.heap.size=b4 at h4 n4 hg4 |-;have H4:=aA h4;have HB:=aA hbx;clear k m c h4 hbx HR HR' HXL MK hg1;obtain⟨wl,rfl⟩:∃ wl:World,wl=w:=⟨_,rfl⟩;go_loopw [22] (fun vi wr=>∃ j:Nat,j<=l.length/\vi=.int .i64 j/\aO spC 240 3 wr g l.length ((oK l).take j ++ List.replicate (l.length-j) (pW,0))/\Oy [g] wl wr) (fun vi _=>l.length-(intOf vi).toNat)
 case atStart=>exact⟨0,Nat.zero_le _,rfl,by simpa using HG.out,aR _ _⟩
 case round =>
  obtain⟨j,hj,rfl,hrow,ho⟩:=hrel;have HRow:=aA hrow;have OO:=aA ho;have hob:wo.heap.size ∉ [g]:=by simp;omega
  have ho4:b4 ∉ [g]:=by simp;omega
  have H4r:=aA (ho.got H4.out ho4);have HBr:=aA (ho.got HB.out hob);have WW:=aA (OB.out.trans ho (fun q hq=>.inr (by rw[mem_singleton.1 hq];exact hgs)));clear hrow ho;by_cases hlt:j<l.length
  ·have hlt2:(j:Int)<(l.length:Int):=by omega
   have HX:=aA (show ∀ (i:Nat) (hi:i<l.length) w',Oy [g] wr w'->bl<w'.heap.size/\w'.cell? ⟨bl,ol+i*2,none⟩=some (.int .i64 (l[i]).a)/\w'.cell? ⟨bl,ol+i*2+1,none⟩=some (.int .i64 (l[i]).p) from fun i hi w' o=>by
    obtain⟨b',o',e,c1,c2⟩:=(HV.out.kept (WW.out.trans o (fun q hq=>.inr (by rw[mem_singleton.1 hq];exact hgs)))).cell i l[i] (getElem?_eq_getElem hi)
    cases e
    exact⟨c1,c2 0 _ rfl,c2 1 _ rfl⟩)
   obtain⟨cur,hcur,hcs,-⟩:=HRow.out;have HCU:=aA hcur;have HFS:=aA (fill_set hlt);have HLT:=aA (sg_last HK.out hlt);rw[HLS.out] at HLT;have hsg:yT l j=(l[j],U3 l j):=by unfold yT;rw[getD_eq_getElem?_getD,getElem?_eq_getElem hlt];rfl
   rw[hsg] at HFS;have HXJ:=aA (HX.out j hlt);have HND:=aA (show U3 l j=if j+1<l.length then (l.getD (j+1) pW).a else 1125899906842624 from rfl);clear hcur hsg;generalize l[j]=s at HXJ HFS HLT;obtain⟨sa,sp⟩:=s;dsimp only at HXJ;have r1:wrap .i64 ((j:Int)+1)=((j+1:Nat):Int):=by rw[wrap_i64];omega
   have m:Mm wr [] wr _:=⟨((Mem.start wr []).ext false HBr.out (by simp) (by simp)).ext false H4r.out (by simpa using n4) (by simp)⟩;have k:=m.zK;have c:=HXJ.out wr (aR _ _);have hwr:g<wr.heap.size:=HRow.out.lt;have hsz:cur.size=l.length*3:=hcs;have hfit:j*3+3<=cur.size:=by omega
   clear hcs;go_wp2_with ((with_reducible show wpList _ _ _ (⟨none,Op.store 240 _ _,_,_,_,_⟩::_) _ _);refine wpList_store_row rfl _ _ _ rfl 3 (by kernel_rfl) g (j*3) rfl (.agg #[.int .i64 sa,.int .i64 sp,.int .i64 1125899906842624]) rfl rfl rfl cur _ (gO.got HCU.out (by simp)) (by omega) ?_;intro w1 hg1 ho1 hs1;refine aW ?_)
   have hc1:=ho1.got (gB (b:=wr.heap.size)) (by simp;omega);have h41:=ho1.got (gB (b:=b4)) (by simpa using fun q=>hg4 q.symm);have hb1:=ho1.got (gB (b:=wo.heap.size)) (by simp;omega);have n1:wr.heap.size≠b4:=by have:=aF H4r.out;omega
   have n2:wr.heap.size≠wo.heap.size:=by omega
   have O1:=aA (Oy.fB gO ho1);have hr0:aO spC 240 3 (wr.alloc (.cells #[.int .i64 sa,.int .i64 sp] 48)) g l.length _:=HRow.out.kept gO (by simp);have hjl:j<((oK l).take j ++ List.replicate (l.length-j) (pW,(0:Int))).length:=by simp[qN];omega
   have hr1:=aO.set vC (x:=((⟨sa,sp⟩,1125899906842624):PN)) hjl hr0 (gO.got HCU.out (by simp)) hg1;have HR1:=aA hr1;clear hg1 ho1 hs1 hr0 hr1 m k c HRow;obtain⟨bc,hbc⟩:∃ bc,wr.heap.size=bc:=⟨_,rfl⟩;rw[hbc] at hc1 n1 n2 |-;obtain⟨wx,rfl⟩:∃ wx:World,wx=w1:=⟨_,rfl⟩;have HJ:=aA (show j+1<=l.length by omega);have hgx:g<wx.heap.size:=HR1.out.lt;have m:Mm wx [g] wx _:=⟨(((Mem.start wx [g]).ext false hb1 (by simp) (by simp)).ext false h41 (by simpa using n4) (by simp)).ext false hc1 (by simp;omega) (by simp)⟩;have k:=m.zK;clear hc1 h41 hb1;refine bH ?_;by_cases hjn:j+1=l.length
   ·have hse:=HLT.out.2 hjn
    rw[Sg.mk.injEq] at hse;obtain⟨rfl,rfl⟩:=hse;have hq:(sa == sa && sp == sp)=true:=by simp
    have HN:=HND.out;rw[if_neg (by omega)] at HN;rw[HN] at HFS;rw[HFS.out] at HR1;clear HND HN HLT HX HXJ hjn;go_wp2;go_roundw
    case rel=>exact⟨j+1,HJ.out,by go_num,HR1.out,OO.out.trans O1.out (fun q hq=>.inl hq)⟩
    case measure=>first|(simp[intOf];done)|(simp[intOf];omega)
   ·have hse:¬ ((⟨sa,sp⟩:Sg)=⟨la,lp⟩):=fun q=>hjn (HLT.out.1 q)
    have hq:(sa == la && sp == lp)=false:=by
     rw[Sg.mk.injEq] at hse;simpa using hse
    have hn1:j+1<l.length:=by omega
    have hn2:((j+1:Nat):Int)<(l.length:Int):=by omega
    have HN:=HND.out;have hgd:l.getD (j+1) pW=l[j+1]:=by rw[getD_eq_getElem?_getD,getElem?_eq_getElem hn1];rfl
    rw[if_pos hn1,hgd] at HN;have HXN:=HX.out (j+1) hn1;have c:=HXN wx O1.out
    have c8:∃ v,wx.cell? ⟨g,j*3+2,none⟩=some v:=by
     have:=aO.cell vC HR1.out (i:=j) (j:=2) (x:=((⟨sa,sp⟩,1125899906842624):PN)) (by rw[List.getElem?_set_self hjl]) (by decide);exact⟨_,this⟩
    obtain⟨v8,c8⟩:=c8;have c9:=HR1.out.frozen (j*3+2);have HR2:=aA (aO.D8 vC HR1.out (i:=j) (j:=2) (v:=.int .i64 (l[j+1]).a) (x':=((⟨sa,sp⟩,(l[j+1]).a):PN)) (by rw[List.length_set];exact hjl) (by decide) (by rw[List.getElem_set_self];rfl));rw[HN] at HFS;rw[List.set_set,HFS.out] at HR2;generalize l[j+1]=s2 at c HR2 HXN;obtain⟨s2a,s2p⟩:=s2;dsimp only at c HR2;clear HND HN HLT HX HXJ hjn hse HXN HFS hgd HR1;go_wp2;go_roundw
    case rel=>exact⟨j+1,HJ.out,by go_num,HR2.out,(OO.out.trans O1.out (fun q hq=>.inl hq)).setCell (.inl (by simp)) _⟩
    case measure=>first|(simp[intOf];done)|(simp[intOf];omega)
  ·obtain rfl:j=l.length:=by omega
   have hlt2:decide ((l.length:Int)<(l.length:Int))=false:=by simp
   have hr:=HRow.out;rw[Nat.sub_self,List.replicate_zero,List.append_nil,List.take_of_length_le (by rw[qN];omega)] at hr;have HRF:=aA hr;clear hr HRow H4r HBr;go_wp2;go_ret
   exact⟨g,rfl,hgs,HRF.out,WW.out⟩
theorem JU {ph:Int} {l:List Sg} (h:fO ph l=0):∀ x∈oK l,(0<=x.1.a/\x.1.a<=1125899906842624)/\(-500000<=x.1.p/\x.1.p<=500000)/\(0<=x.2/\x.2<=1125899906842624):=by
 intro x hx;unfold oK at hx;obtain⟨i,hi,rfl⟩:=List.mem_map.1 hx;have hi:=List.mem_range.1 hi;have h1:=spn_bd h hi;have h2:=(vI h).2.2.2 i hi;rw[h1.1];exact⟨h2.1,h2.2.1,h1.2⟩
theorem pORead {w:World} {p:Option Addr} {n cap:Nat} {l:List Sg} (ph t:Int) (hv:aU TB 2 w p n cap l) (hok:fO ph l=0) (t0:0<=t) (t1:t<=1125899906842624) :
  Calls Tryz.prog 63 #[.agg #[.int .i64 ph,.slice p n cap],.int .i64 t] w fun e w'=>e=.returned (.tuple #[.int .i64 (qR ph l t),.int .i64 0])/\Oy [] w w':=by
 have hk:=vI hok;have h16:=hk.2.1;have HC:=aA (fun w' (o:Oy [] w w')=>by have:=pOsc ph (hv.kept o) (by have:=hv.len;omega);rw[hok] at this;exact this);have HS:=aA (fun w' (o:Oy [] w w')=>pSpans ph (hv.kept o) hok);have hln:=hv.len;have HR:=aA (fun w' p' c' (hv':aU spC 3 w' p' n c' (oK l))=>TU ph t hv' (by omega) (JU hok) hk.2.2.1 t0 t1);have HE:Hid (ph+t+yQ t (oK l) / 1000000000=qR ph l t):=aA rfl;rw[HE.out] at HR;have HLN:=aA (show n=(oK l).length by rw[qN];exact hln.symm);have d1:decide (t<0)=false:=dL (by omega);have d2:decide (1125899906842624<t)=false:=dL (by omega);generalize qR ph l t=r at HR |-;clear HE hk h16 hv hok t0 t1 hln;obtain⟨wo,rfl⟩:∃ wo:World,wo=w:=⟨_,rfl⟩;have m:=bJ wo [];have k:=m.zK;go_enter Tryz.func63,Tryz.ntmps63
 go_wp2_with (first|((with_reducible first|refine cM (HC.out _ gO) ?_|refine cU ?_|refine wU ?_);clear k m;intro w m k)|((with_reducible refine rA (id:=6) [0,1,2] [4] 3 [5,6,7] (by kernel_rfl) (by kernel_rfl) ?_);simp only[bV];(repeat (first|(refine aQ (fun K hK=>?_);go_simp;refine hK _ ?_;clear hK K)));refine aS ?_;(repeat (refine aJ (fun K hK=>?_);go_simp;refine hK _ ?_;clear hK K));refine aK ?_;refine aW ?_))
 refine bH ?_;clear k m;intro w o m k;refine aD rfl ?_;go_wp2_with fail
 refine (HS.out w gO).mono ?_;rintro e w2 ⟨g,rfl,hg,hrow,ho⟩;go_wp2;simp only[bA];refine⟨o.aB ho,fun w3 o3=>?_⟩;replace m:=(m.oth (ho.aB o3) (by simp) (by simp));have HRR:=aA (hrow.kept o3 (by simp));have HVV:=aA (HR.out w3 _ _ (HRR.out.dI vC HLN.out));clear k o hg hrow ho o3;have k:=m.zK;unfold aV;refine aD rfl ?_;go_wp2_with fail
 refine HVV.out.mono ?_;rintro e w4 ⟨rfl,ho⟩;go_wp2;simp only[bA];replace m:=m.oth ho (by simp) (by simp);clear k ho;have k:=m.zK;refine tW ?_;clear k m;intro w m k;unfold aV;refine aD rfl ?_;go_wp2;simp only[bA];refine tW ?_;clear k m;intro w m k;unfold aV;refine aD rfl ?_;go_wp2;simp only[bA];refine tW ?_;clear k m;intro w m k;unfold aV;go_wp2_with (first|((with_reducible refine wU ?_);clear k m;intro w m k)|((with_reducible refine lE (fun w o g k K hK=>⟨rfl,?_⟩));simp[results,Tryz.results63,go_sem];refine hK _ ?_;exact⟨rfl,o⟩))
end
section
open Go.Sort
def shoN (n:Int):Int:=n / 1000000000*65536+(n % 1000000000*65536+999999999) / 1000000000
def uG (n:Int):Int × Int:=if n<0 then (0,3) else if 4294967295<shoN n then (0,3) else (shoN n,0)
theorem shoF_u (n:Int):0<=(uG n).1/\(uG n).1<=4294967295:=by
 unfold uG;split
 ·exact⟨by decide,by decide⟩
 ·split
  ·exact⟨by decide,by decide⟩
  ·unfold shoN at *
   dsimp only;omega
theorem QH (n:Int) (h1:n<=9007199254740992) (w:World) :
  Calls Tryz.prog 202 #[.int .i64 n] w fun e w'=>e=.returned (.tuple #[.int .u32 (uG n).1,.int .i64 (uG n).2])/\Oy [] w w':=by
 obtain⟨res,HE⟩:∃ zz,Hid (uG n=zz):=⟨_,aA rfl⟩;rw[HE.out];unfold uG at HE;by_cases hn:n<0
 focus
  have dhn:decide (n<0)=true:=eY hn;rw[if_pos hn] at HE;obtain rfl:=HE.out
 rotate_left 1
 focus
  have dhn:decide (n<0)=false:=dL hn;rw[if_neg hn] at HE;have t1:n.tdiv 1000000000=n / 1000000000:=Int.tdiv_eq_ediv_of_nonneg (by omega);have t2:n.tmod 1000000000=n % 1000000000:=Int.tmod_eq_emod_of_nonneg (by omega);unfold shoN at HE;have e1:wrap .i64 (n / 1000000000)=n / 1000000000:=by rw[wrap_i64];omega
  have e2:wrap .i64 (n % 1000000000)=n % 1000000000:=by rw[wrap_i64];omega
  have b1:0<=n / 1000000000/\n / 1000000000<=9007200:=by omega
  have b2:0<=n % 1000000000/\n % 1000000000<=999999999:=by omega
  generalize n / 1000000000=q at *;generalize n % 1000000000=r at *;have e3:wrap .i64 (q*65536)=q*65536:=by rw[wrap_i64];omega
  have e4:wrap .i64 (r*65536)=r*65536:=by rw[wrap_i64];omega
  have e5:wrap .i64 (r*65536+1000000000)=r*65536+1000000000:=by rw[wrap_i64];omega
  have e6:wrap .i64 (r*65536+1000000000-1)=r*65536+999999999:=by rw[wrap_i64];omega
  have t3:(r*65536+999999999).tdiv 1000000000=(r*65536+999999999) / 1000000000:=Int.tdiv_eq_ediv_of_nonneg (by omega);have b3:0<=(r*65536+999999999) / 1000000000/\(r*65536+999999999) / 1000000000<=65537:=by omega
  generalize (r*65536+999999999) / 1000000000=z at *;have e7:wrap .i64 z=z:=by rw[wrap_i64];omega
  have e8:wrap .i64 (q*65536+z)=q*65536+z:=by rw[wrap_i64];omega
  obtain⟨y,hy⟩:∃ y,q*65536+z=y:=⟨_,rfl⟩;rw[hy] at HE e8;by_cases hg:4294967295<y
  focus
   have dhg:decide (4294967295<y)=true:=eY hg;rw[if_pos hg] at HE;obtain rfl:=HE.out
  rotate_left 1
  focus
   have dhg:decide (4294967295<y)=false:=dL hg;rw[if_neg hg] at HE;obtain rfl:=HE.out;have e9:wrap .u32 y=y:=by rw[IntKind.wrap_u32];omega
 all_goals
  have m:=bJ w [];have k:=m.zK;go_enter Tryz.func202,Tryz.ntmps202
  go_wp2_with (first|((with_reducible refine wU ?_);clear k m;intro w m k)|((with_reducible refine lE (fun w o g k K hK=>⟨rfl,?_⟩));simp[results,Tryz.results202,go_sem];refine hK _ ?_;exact⟨rfl,o⟩))
def BN (d id:Int):FX × Int:=if lQ ⟨1,0,d,id⟩=0 then (⟨1,0,d,id⟩,0) else (MH,3)
theorem BS (d id:Int) (w:World) :
  Calls Tryz.prog 175 #[.int .i64 d,.int .u32 id] w fun e w'=>e=.returned (.tuple #[JK (BN d id).1,.int .i64 (BN d id).2])/\Oy [] w w':=by
 have HC:=aA (fun w'=>EX ⟨1,0,d,id⟩ w');obtain⟨res,HE⟩:∃ zz,Hid (BN d id=zz):=⟨_,aA rfl⟩;rw[HE.out];unfold BN at HE;generalize lQ ⟨1,0,d,id⟩=e at HC HE;unfold JK at HC |-;unfold MH at HC HE;dsimp only at HC;by_cases h:e=0
 focus
  rw[if_pos h,if_pos h] at HC;rw[if_pos h] at HE;obtain rfl:=HE.out
 rotate_left 1
 focus
  rw[if_neg h,if_neg h] at HC;rw[if_neg h] at HE;obtain rfl:=HE.out
 all_goals
  dsimp only at HC;have m:=bJ w [];have k:=m.zK;go_enter Tryz.func175,Tryz.ntmps175
  go_wp2_with (first|((with_reducible first|refine cM (HC.out _) ?_|refine wU ?_);clear k m;intro w m k)|((with_reducible refine lE (fun w o g k K hK=>⟨rfl,?_⟩));simp[results,Tryz.results175,go_sem,k];refine hK _ ?_;exact⟨rfl,o⟩))
def rH (r:FX):Int × Int × Int:=if lQ r=0 then (if (uG r.dly).2=0 then (if (uG r.dsp).2=0 then ((uG r.dly).1,(uG r.dsp).1,0) else (0,0,(uG r.dsp).2)) else (0,0,(uG r.dly).2)) else (0,0,lQ r)
theorem ochk_bd {r:FX} (h:lQ r=0):r.dly<=9007199254740992/\r.dsp<=9007199254740992:=by
 unfold lQ at h;split at h
 ·rename_i h1
  simp only[Bool.and_eq_true] at h1;have a:=h1.2.1;have b:=h1.2.2;unfold isSp at a b;unfold bZ at a b;simp only[Bool.and_eq_true,decide_eq_true_eq] at a b;omega
 ·exact absurd h (by decide)
theorem pFields (r:FX) (w:World) :
  Calls Tryz.prog 186 #[JK r] w fun e w'=>e=.returned (.tuple #[.int .u32 (rH r).1,.int .u32 (rH r).2.1,.int .i64 (rH r).2.2])/\Oy [] w w':=by
 have HC:=aA (fun w'=>YK r w');have HB:=aA (fun h=>ochk_bd (r:=r) h);obtain⟨res,HE⟩:∃ zz,Hid (rH r=zz):=⟨_,aA rfl⟩;rw[HE.out];unfold rH at HE;generalize lQ r=e at HC HE HB;obtain⟨r1,r2,r3,r4⟩:=r;unfold JK at HC |-;dsimp only at HC HE HB |-;by_cases h:e=0
 ·subst h
  rw[if_pos rfl] at HE;have H1:=aA (fun w'=>QH r2 (HB.out rfl).1 w');have H2:=aA (fun w'=>QH r3 (HB.out rfl).2 w');generalize uG r2=a at H1 HE;generalize uG r3=b at H2 HE;obtain⟨a1,a2⟩:=a;obtain⟨b1,b2⟩:=b;dsimp only at H1 H2 HE;by_cases ha:a2=0
  ·subst ha
   rw[if_pos rfl] at HE;by_cases hb:b2=0
   focus
    subst hb;rw[if_pos rfl] at HE;obtain rfl:=HE.out
   rotate_left
   focus
    rw[if_neg hb] at HE;obtain rfl:=HE.out;have k2:(b2 != 0)=true:=by simpa using hb
   rotate_left
   all_goals
    have m:=bJ w [];have k:=m.zK;go_enter Tryz.func186,Tryz.ntmps186
    go_wp2_with (first|((with_reducible first|refine cM (HC.out _) ?_|refine cM (H1.out _) ?_|refine cM (H2.out _) ?_|refine wU ?_);clear k m;intro w m k)|((with_reducible refine lE (fun w o g k K hK=>⟨rfl,?_⟩));simp[results,Tryz.results186,go_sem];refine hK _ ?_;exact⟨rfl,o⟩))
  ·rw[if_neg ha] at HE
   obtain rfl:=HE.out;have k1:(a2 != 0)=true:=by simpa using ha
   have m:=bJ w [];have k:=m.zK;go_enter Tryz.func186,Tryz.ntmps186
   go_wp2_with (first|((with_reducible first|refine cM (HC.out _) ?_|refine cM (H1.out _) ?_|refine wU ?_);clear k m;intro w m k)|((with_reducible refine lE (fun w o g k K hK=>⟨rfl,?_⟩));simp[results,Tryz.results186,go_sem];refine hK _ ?_;exact⟨rfl,o⟩))
 ·rw[if_neg h] at HE
  obtain rfl:=HE.out;have k0:(e != 0)=true:=by simpa using h
  have m:=bJ w [];have k:=m.zK;go_enter Tryz.func186,Tryz.ntmps186
  go_wp2_with (first|((with_reducible first|refine cM (HC.out _) ?_|refine wU ?_);clear k m;intro w m k)|((with_reducible refine lE (fun w o g k K hK=>⟨rfl,?_⟩));simp[results,Tryz.results186,go_sem];refine hK _ ?_;exact⟨rfl,o⟩))
end
end Go.Proofs.YtppjhbjmfkiejaaGreat
