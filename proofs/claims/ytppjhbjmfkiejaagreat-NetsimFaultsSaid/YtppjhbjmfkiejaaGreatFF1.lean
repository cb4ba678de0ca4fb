/- F1 Na Nb -/
import Derived.Test.YtppjhbjmfkiejaaGreatFJh
import Derived.Test.YtppjhbjmfkiejaaGreatFMx
import Derived.Test.YtppjhbjmfkiejaaGreatFSb
namespace Go.Proofs.YtppjhbjmfkiejaaGreat
section
open Go.RowKit
structure Sgm where
 a:Int
 p:Int
def gn:List Sgm->Int->Int
 | [],_=>0
 | [s],t=>max 0 (t-s.a)*s.p
 | s::s'::r,t=>max 0 (min t s'.a-s.a)*s.p+gn (s'::r) t
def msr:List Sgm->Int->Int
 | [],_=>0
 | s::_,t=>max 0 (t-s.a)
def Srt:List Sgm->Prop
 | []=>True
 | [_]=>True
 | s::s'::r=>s.a<s'.a/\Srt (s'::r)
theorem mul_bd {n p B:Int} (hn:0<=n) (h0: -B<=p) (h1:p<=B): -(B*n)<=n*p/\n*p<=B*n:=by
 have q1:=Int.mul_le_mul_of_nonneg_left h1 hn;have q2:=Int.mul_le_mul_of_nonneg_left h0 hn;rw[Int.mul_neg] at q2;rw[Int.mul_comm B n];exact⟨q2,q1⟩
theorem gn_lip {B a b:Int} (hab:a<=b):∀ (l:List Sgm),(∀ s∈l,-B<=s.p/\s.p<=B)->Srt l-> -(B*(msr l b-msr l a))<=gn l b-gn l a/\gn l b-gn l a<=B*(msr l b-msr l a)
 | [],_,_=>by simp[gn,msr]
 |[s],h,_=>by
  obtain⟨h0,h1⟩:=h s (by simp);have:=mul_bd (n:=max 0 (b-s.a)-max 0 (a-s.a)) (by omega) h0 h1;rw[Int.sub_mul] at this;simpa [gn,msr] using this
 |s::s'::r,h,hs=>by
  obtain⟨h0,h1⟩:=h s (by simp);obtain⟨g0,g1⟩:=gn_lip hab (s'::r) (fun x hx=>h x (List.mem_cons_of_mem _ hx)) hs.2;have hlt:=hs.1;have:=mul_bd (n:=max 0 (min b s'.a-s.a)-max 0 (min a s'.a-s.a)) (by omega) h0 h1;rw[Int.sub_mul] at this;have hm:max 0 (b-s.a)-max 0 (a-s.a)=(max 0 (min b s'.a-s.a)-max 0 (min a s'.a-s.a))+(max 0 (b-s'.a)-max 0 (a-s'.a)):=by omega
  show -(B*(max 0 (b-s.a)-max 0 (a-s.a)))<=(max 0 (min b s'.a-s.a)*s.p+gn (s'::r) b)-(max 0 (min a s'.a-s.a)*s.p+gn (s'::r) a)/\(max 0 (min b s'.a-s.a)*s.p+gn (s'::r) b)-(max 0 (min a s'.a-s.a)*s.p+gn (s'::r) a)<=B*(max 0 (b-s.a)-max 0 (a-s.a))
  rw[hm,Int.mul_add];simp only[msr] at g0 g1;omega
def rdO (ph:Int) (l:List Sgm) (t:Int):Int:=ph+t+gn l t / 1000000000
end
section
set_option maxRecDepth 100000
set_option maxHeartbeats 4000000
open Go.RowKit
def shR (x y:Int):Int:=x.fdiv (2 ^ min y.toNat 64)
theorem shR_run {y:Int} (h:0<=y) (x:Int):Op.shift .shr .u64 x .u64 y=pure (.int .u64 (shR x y)):=by
 unfold Op.shift shR;rw[if_neg (by omega)];rfl
def mixR (x:Int) (r:Int × Int):Int:=IntKind.u64.wrap (bits .xor .u64 x (shR x r.1)*r.2)
def mixF (R:List (Int × Int)) (a b:Int):Int:=R.foldl mixR (IntKind.u64.wrap (a+IntKind.u64.wrap (11400714819323198485*IntKind.u64.wrap (b+1))))
def Rnds (w:World) (R:List (Int × Int)):Prop:=∃ s0 m0 s1 m1 s2 m2:Int,R=[(s0,m0),(s1,m1),(s2,m2)]/\0<=s0/\0<=s1/\0<=s2 /\
 w.heap[2]? = some (.cells #[.int .u64 s0,.int .u64 m0,.int .u64 s1,.int .u64 m1,.int .u64 s2,.int .u64 m2] 301 (0,0))
theorem Rnds.kept {w w':World} {R:List (Int × Int)} (h:Rnds w R) (ho:Only [] w w'):Rnds w' R:=by
 obtain⟨s0,m0,s1,m1,s2,m2,h1,h2,h3,h4,h5⟩:=h;exact⟨s0,m0,s1,m1,s2,m2,h1,h2,h3,h4,ho.got h5 (by simp)⟩
theorem mixF_u {R:List (Int × Int)} (a b:Int):0<=mixF R a b/\mixF R a b<=18446744073709551615:=by
 have key:∀ (R:List (Int × Int)) (x:Int),0<=x/\x<=18446744073709551615->0<=R.foldl mixR x/\R.foldl mixR x<=18446744073709551615:=by
  intro R;induction R with
  | nil=>intro x h;exact h
  | cons r R ih=>intro x _;exact ih _ (by unfold mixR;rw[IntKind.wrap_u64];omega)
 exact key R _ (by rw[IntKind.wrap_u64];omega)
theorem pMix (a b:Int) {w:World} {R:List (Int × Int)} (h:Rnds w R) :
  Calls Tryz.prog 145 #[.int .u64 a,.int .u64 b] w fun e w'=>e=.returned (.int .u64 (mixF R a b))/\Only [] w w':=by
 obtain⟨s0,m0,s1,m1,s2,m2,rfl,h0,h1,h2,h⟩:=h;have q0:=shR_run h0;have q1:=shR_run h1;have q2:=shR_run h2;obtain⟨x,hx⟩:∃ x,IntKind.u64.wrap (a+IntKind.u64.wrap (11400714819323198485*IntKind.u64.wrap (b+1)))=x:=⟨_,rfl⟩;have HE:Hid (mixF [(s0,m0),(s1,m1),(s2,m2)] a b=mixR (mixR (mixR x (s0,m0)) (s1,m1)) (s2,m2)):=Lib.hid (by unfold mixF;rw[hx];rfl);obtain⟨res,hr⟩:∃ r,mixF [(s0,m0),(s1,m1),(s2,m2)] a b=r:=⟨_,rfl⟩;rw[hr] at HE ⊢;clear hr h0 h1 h2;unfold mixR at HE;dsimp only at HE;obtain⟨y1,r1⟩:∃ y,IntKind.u64.wrap (bits .xor .u64 x (shR x s0)*m0)=y:=⟨_,rfl⟩;rw[r1] at HE;obtain⟨y2,r2⟩:∃ y,IntKind.u64.wrap (bits .xor .u64 y1 (shR y1 s1)*m1)=y:=⟨_,rfl⟩;rw[r2] at HE;obtain⟨y3,r3⟩:∃ y,IntKind.u64.wrap (bits .xor .u64 y2 (shR y2 s2)*m2)=y:=⟨_,rfl⟩;rw[r3] at HE;have i0:∀ w,(Instr.index 301 (.agg #[.int .u64 s0,.int .u64 m0,.int .u64 s1,.int .u64 m1,.int .u64 s2,.int .u64 m2]) (.int .i64 0)).run Tryz.prog w=.ok (.agg #[.int .u64 s0,.int .u64 m0]) w:=fun w=>by kernel_rfl
 have i1:∀ w,(Instr.index 301 (.agg #[.int .u64 s0,.int .u64 m0,.int .u64 s1,.int .u64 m1,.int .u64 s2,.int .u64 m2]) (.int .i64 1)).run Tryz.prog w=.ok (.agg #[.int .u64 s1,.int .u64 m1]) w:=fun w=>by kernel_rfl
 have i2:∀ w,(Instr.index 301 (.agg #[.int .u64 s0,.int .u64 m0,.int .u64 s1,.int .u64 m1,.int .u64 s2,.int .u64 m2]) (.int .i64 2)).run Tryz.prog w=.ok (.agg #[.int .u64 s2,.int .u64 m2]) w:=fun w=>by kernel_rfl
 have m:=mmR h;have k:=m.out.k;clear h;go_enter Tryz.func145,Tryz.ntmps145
 go_wp2_with fail
 refine wp_loop_rounds 4 ?_;iterate 4 (rw[rounds_succ];go_wp2_with (first|((with_reducible refine wU ?_);clear k m;intro w m k)|((with_reducible refine lE (fun w o g k K hK=>⟨rfl,?_⟩));simp[results,Tryz.results145,go_sem];refine hK _ ?_;clear hK K k;exact⟨by rw[HE.out],o⟩)))
end
section
open Go.Lib (hid)
set_option maxRecDepth 100000
set_option maxHeartbeats 4000000
open Go.RowKit Go.Sort
theorem eqO {P:Program} {f:FuncId} {args:Array Value} {w:World} {v:Value} (h:Calls P f args w fun e w'=>e=.returned v/\w=w'):Calls P f args w fun e w'=>e=.returned v/\Only [] w w':=
 h.mono fun _ _ h=>⟨h.1,h.2 ▸ Only.refl _ _⟩
def dlyP (t:Int) (p:Int × Int) (c:Ch):Int × Int:=if c.a<=t then (if c.d=0 then (c.y,p.2) else (p.1,c.y)) else p
def dlyF (l:Lk) (t:Int):Int × Int:=l.ch.foldl (dlyP t) (l.d0,l.d1)
def pik (p:Int × Int) (d:Int):Int:=if d=0 then p.1 else p.2
def noiF (R:List (Int × Int)) (l:Lk) (d n:Int):Int:=mixF R l.sd (4*n+2*d+1) % (pik (l.v0,l.v1) d+1)
def arrF (R:List (Int × Int)) (l:Lk) (d t n:Int):Option Int:=
 if mixF R l.sd (4*n+2*d) % 1000<l.lo then none else some (t+pik (dlyF l t) d+noiF R l d n)
theorem lk_ok {l:Lk} (h:linkE l=0):(0<=l.d0/\l.d0<=10000000000)/\(0<=l.d1/\l.d1<=10000000000)/\(0<=l.v0/\l.v0<=10000000000)/\(0<=l.v1/\l.v1<=10000000000)/\(0<=l.lo/\l.lo<=1000)/\l.ch.all chR=true/\l.ch.length<=16:=by
 unfold linkE at h;split at h
 ·rename_i h1
  split at h
  ·rename_i h2
   split at h
   ·exact absurd h (by decide)
   ·rename_i h3
    unfold lkR at h1;simp only[Bool.and_eq_true,inR_t] at h1;exact⟨h1.1.1,h1.1.2,h1.2.1.1,h1.2.1.2,h1.2.2,h2,by omega⟩
  ·exact absurd h (by decide)
 ·exact absurd h (by decide)
theorem ch_ok {l:List Ch} (h:l.all chR=true) {k:Nat} (hk:k<l.length):(0<=l[k].a/\l[k].a<=1125899906842624)/\(l[k].d=0∨l[k].d=1)/\(0<=l[k].y/\l[k].y<=10000000000):=by
 have:=List.all_eq_true.1 h _ (List.getElem_mem hk);unfold chR at this;simp only[Bool.and_eq_true,inR_t] at this;exact⟨this.1,by omega,this.2.2⟩
theorem dly_bd {t:Int}:∀ {l:List Ch} {p:Int × Int},l.all chR=true->(0<=p.1/\p.1<=10000000000)/\(0<=p.2/\p.2<=10000000000)->(0<=(l.foldl (dlyP t) p).1/\(l.foldl (dlyP t) p).1<=10000000000)/\(0<=(l.foldl (dlyP t) p).2/\(l.foldl (dlyP t) p).2<=10000000000)
 | [],_,_,hp=>hp
 |c::l,p,h,hp=>by
  have hc:=ch_ok h (k:=0) (by simp);rw[List.getElem_cons_zero] at hc;refine dly_bd (l:=l) (by simp only[List.all_cons,Bool.and_eq_true] at h;exact h.2) ?_;unfold dlyP;split
  ·split
   ·exact⟨hc.2.2,hp.2⟩
   ·exact⟨hp.1,hc.2.2⟩
  ·exact hp
theorem pIsNum (n:Int) (w:World) :
  Calls Tryz.prog 155 #[.int .i64 n] w fun e w'=>e=.returned (.bool (inR n 0 1099511627776))/\Only [] w w':=by
 obtain⟨res,HE⟩:∃ zz,Hid (inR n 0 1099511627776=zz):=⟨_,hid rfl⟩;rw[HE.out];unfold inR at HE;by_cases h0:0<=n
 focus
  have dh0:decide (0<=n)=true:=decide_eq_true h0;by_cases h1:n<=1099511627776
  focus
   have dh1:decide (n<=1099511627776)=true:=decide_eq_true h1;rw[decide_eq_true (And.intro h0 h1)] at HE;obtain rfl:=HE.out
  rotate_left 1
  focus
   have dh1:decide (n<=1099511627776)=false:=decide_eq_false h1;rw[decide_eq_false (fun q=>h1 q.2)] at HE;obtain rfl:=HE.out
 rotate_left 2
 focus
  have dh0:decide (0<=n)=false:=decide_eq_false h0;rw[decide_eq_false (fun q=>h0 q.1)] at HE;obtain rfl:=HE.out
 all_goals
  have m:=mm0 w [];have k:=m.out.k;go_enter Tryz.func155,Tryz.ntmps155
  go_wp2_with (first|((with_reducible refine wU ?_);clear k m;intro w m k)|((with_reducible refine lE (fun w o g k K hK=>⟨rfl,?_⟩));simp[results,Tryz.results155,go_sem];refine hK _ ?_;exact⟨rfl,o⟩))
theorem pDelays {w:World} {p:Option Addr} {n cap:Nat} (l:Lk) (t:Int) (hv:VRow chC 3 w p n cap l.ch) (hc:l.ch.all chR=true) (hn:n<=100000) :
  Calls Tryz.prog 160 #[lkV l p n cap,.int .i64 t] w fun e w'=>e=.returned (.agg #[.int .i64 (dlyF l t).1,.int .i64 (dlyF l t).2])/\Only [] w w':=by
 have HV:=hid hv;have hln:=hv.len;have hcap:=Nat.le_trans hv.le hv.cm;subst hln;have HCH:=hid (fun k (hk:k<l.ch.length)=>ch_ok hc hk);obtain⟨res,HE⟩:∃ zz,Hid (dlyF l t=zz):=⟨_,hid rfl⟩;rw[HE.out];unfold dlyF at HE;unfold lkV;obtain⟨A,B,d0,d1,v0,v1,lo,sd,ch⟩:=l;dsimp only at HV HCH HE hcap hn ⊢;clear hv hc;obtain⟨wo,hwo⟩:∃ wo:World,wo=w:=⟨_,rfl⟩;subst hwo;have m:=mm0 wo [];have k:=m.out.k;go_enter Tryz.func160,Tryz.ntmps160
 go_wp2_with ((with_reducible first|refine cU ?_|refine wU ?_);clear k m;intro w m k)
 have hb5:=gB (w:=w) (b:=wo.heap.size+1+1);have hb4:=gB (w:=w) (b:=wo.heap.size+1);have n45:wo.heap.size+1+1≠wo.heap.size+1:=gN w;obtain⟨b5,hB5⟩:∃ b,wo.heap.size+1+1=b:=⟨_,rfl⟩;obtain⟨b4,hB4⟩:∃ b,wo.heap.size+1=b:=⟨_,rfl⟩;have g5:wo.heap.size<=b5:=by omega
 have g4:wo.heap.size<=b4:=by omega
 have OB:=hid m.out.only;clear k m;rw[hB5] at hb5 n45 ⊢;rw[hB4] at hb4 n45 ⊢;have H4:=hid hb4;have H5:=hid hb5;clear hB5 hB4 hb4 hb5;obtain⟨wl,hwl⟩:∃ wl:World,wl=w:=⟨_,rfl⟩;subst hwl;go_loopw [13] (fun vi wr=>∃ (j:Nat) (x y:Int),j<=ch.length/\vi=.int .i64 j/\(ch.take j).foldl (dlyP t) (d0,d1)=(x,y)/\wr.heap[b5]? = some (.cells #[.int .i64 x,.int .i64 y] 76 (0,0))/\Only [b5] wl wr) (fun vi _=>ch.length-(intOf vi).toNat)
 case atStart=>exact⟨0,d0,d1,Nat.zero_le _,rfl,rfl,H5.out,Only.refl _ _⟩
 case round =>
  obtain⟨j,x,y,hj,rfl,hf,hb,ho⟩:=hrel;have OO:=hid ho;have HF:=hid hf;have W2:=hid (OB.out.trans ho (fun q hq=>.inr (by rw[List.mem_singleton.1 hq];exact g5)));have HH5:=hid hb;have H4':=hid (ho.got H4.out (by simpa using fun q:b4=b5=>n45 q.symm))
  have hXX:∀ hlt:j<ch.length,∃ bk off,p=some ⟨bk,off,none⟩/\∀ w',Only [b5] wr w'->bk<w'.heap.size/\w'.cell? ⟨bk,off+j*3,none⟩=some (.int .i64 (ch[j]).a)/\w'.cell? ⟨bk,off+j*3+1,none⟩=some (.int .i64 (ch[j]).d)/\w'.cell? ⟨bk,off+j*3+2,none⟩=some (.int .i64 (ch[j]).y):=by
   intro hlt;obtain⟨bk,off,rfl,-⟩:=HV.out.ch (Only.refl [] wo) hlt;refine⟨bk,off,rfl,fun w' o=>?_⟩;obtain⟨bk',off',e,c1,c2,c3,c4⟩:=HV.out.ch (W2.out.trans o (fun q hq=>.inr (by rw[List.mem_singleton.1 hq];exact g5))) hlt
   cases e
   have hg:ch.getD j ch0=ch[j]:=by rw[List.getD_eq_getElem?_getD,List.getElem?_eq_getElem hlt];rfl
   rw[hg] at c1 c2 c3;exact⟨c4,c1,c2,c3⟩
  have HXX:=hid hXX;clear hf hXX;by_cases hlt:j<ch.length
  ·have hlt2:(j:Int)<(ch.length:Int):=by omega
   obtain⟨bk,off,rfl,hX⟩:=HXX.out hlt;have HX:=hid hX;have hck:=HCH.out j hlt;have HFn:=hid (show (ch.take (j+1)).foldl (dlyP t) (d0,d1)=dlyP t (x,y) ch[j] by rw[List.take_succ_eq_append_getElem hlt,List.foldl_append,HF.out];rfl);have r0:IntKind.i64.wrap ((j:Int)+1)=((j+1:Nat):Int):=by rw[IntKind.wrap_i64];omega
   have HJ:=hid (show j+1<=ch.length by omega);clear HXX hX HF hb ho H4';generalize ch[j]=s at HX hck HFn;obtain⟨ca,cd,cy⟩:=s;dsimp only at HX hck HFn;unfold dlyP at HFn;dsimp only at HFn;by_cases ht:ca<=t
   ·have dt:decide (ca<=t)=true:=decide_eq_true ht
    rw[if_pos ht] at HFn;have hcd:=hck.2.1;clear hck;rcases hcd with rfl|rfl
    ·rw[if_pos rfl] at HFn
     have m:=mm1 HH5.out;have k:=m.out.k;have c:=HX.out wr (Only.refl _ _);go_wp2_with (first|((with_reducible first|refine cU ?_|refine wU ?_);clear k m c;intro w m k;have c:=HX.out w m.out.only)|(go_roundw;(case rel=>exact⟨j+1,cy,y,HJ.out,by go_num,HFn.out,gB,OO.out.trans gO (fun q hq=>.inl hq)⟩);(case measure=>first|(simp[intOf];done)|(simp[intOf];omega))))
    ·rw[if_neg (by decide)] at HFn
     have m:=mm1 HH5.out;have k:=m.out.k;have c:=HX.out wr (Only.refl _ _);go_wp2_with (first|((with_reducible first|refine cU ?_|refine wU ?_);clear k m c;intro w m k;have c:=HX.out w m.out.only)|(go_roundw;(case rel=>exact⟨j+1,x,cy,HJ.out,by go_num,HFn.out,gB,OO.out.trans gO (fun q hq=>.inl hq)⟩);(case measure=>first|(simp[intOf];done)|(simp[intOf];omega))))
   ·have dt:decide (ca<=t)=false:=decide_eq_false ht
    rw[if_neg ht] at HFn;clear hck;have m:=mm1 HH5.out;have k:=m.out.k;have c:=HX.out wr (Only.refl _ _);go_wp2_with (first|((with_reducible first|refine cU ?_|refine wU ?_);clear k m c;intro w m k;have c:=HX.out w m.out.only)|(go_roundw;(case rel=>exact⟨j+1,x,y,HJ.out,by go_num,HFn.out,gB,OO.out.trans gO (fun q hq=>.inl hq)⟩);(case measure=>first|(simp[intOf];done)|(simp[intOf];omega))))
  ·obtain rfl:j=ch.length:=by omega
   have hlt2:decide ((ch.length:Int)<(ch.length:Int))=false:=by simp
   have HFn:=HF.out;rw[List.take_length,HE.out] at HFn;subst HFn;have W3:=W2;have m:Mm wr [b4,b5] wr _:=⟨((Mem.start wr [b4,b5]).ext true H4'.out (by simp) (by simp)).ext true HH5.out (by simpa using n45) (by simp)⟩;have k:=m.out.k;go_wp2_with (first|((with_reducible first|refine cU ?_|refine wU ?_);clear k m;intro w m k)|((with_reducible refine lE (fun w o g k K hK=>⟨rfl,?_⟩));simp[results,Tryz.results160,go_sem,k];refine hK _ ?_;exact⟨rfl,W3.out.trans o (fun q hq=>.inr (by simp only[List.mem_cons,List.not_mem_nil,or_false] at hq;omega))⟩))
theorem pDelay {w:World} {p:Option Addr} {m cap:Nat} (l:Lk) (d t:Int) (hv:VRow chC 3 w p m cap l.ch) (hl:linkE l=0) (hn:m<=100000) (hd:d=0∨d=1) (t0:0<=t) (t1:t<=1125899906842624) :
  Calls Tryz.prog 156 #[lkV l p m cap,.int .i64 d,.int .i64 t] w fun e w'=>e=.returned (.int .i64 (pik (dlyF l t) d))/\Only [] w w':=by
 have HC:=hid (fun w' (o:Only [] w w')=>by have:=pLink l (hv.kept o) hn;rw[hl] at this;exact this);have HD:=hid (fun w'=>by have:=eqO (pDir d w');rw[show inR d 0 1=true from inR_t.2 (by omega)] at this;exact this);have HT:=hid (fun w'=>by have:=eqO (sTime t w');rw[show inR t 0 1125899906842624=true from inR_t.2 ⟨t0,t1⟩] at this;exact this);have hok:=lk_ok hl;have HL:=hid (fun w' (o:Only [] w w')=>pDelays l t (hv.kept o) hok.2.2.2.2.2.1 hn);obtain⟨res,HE⟩:∃ zz,Hid (pik (dlyF l t) d=zz):=⟨_,hid rfl⟩;rw[HE.out];unfold pik at HE;generalize dlyF l t=pp at HL HE;obtain⟨x,y⟩:=pp;dsimp only at HL HE;unfold lkV at HC HL ⊢;obtain⟨A,B,d0,d1,v0,v1,lo,sd,ch⟩:=l;dsimp only at HC HL ⊢;clear hv hl hn t0 t1 hok;rcases hd with rfl|rfl
 focus
  rw[if_pos rfl] at HE;obtain rfl:=HE.out;have ix:∀ w,(Instr.index 76 (.agg #[.int .i64 x,.int .i64 y]) (.int .i64 0)).run Tryz.prog w=.ok (.int .i64 x) w:=fun w=>by kernel_rfl
 rotate_left
 focus
  rw[if_neg (by decide)] at HE;obtain rfl:=HE.out;have ix:∀ w,(Instr.index 76 (.agg #[.int .i64 x,.int .i64 y]) (.int .i64 1)).run Tryz.prog w=.ok (.int .i64 y) w:=fun w=>by kernel_rfl
 rotate_left
 all_goals
  have m:=mm0 w [];have k:=m.out.k;go_enter Tryz.func156,Tryz.ntmps156
  go_wp2_with (first|((with_reducible first|refine cM (HC.out _ gO) ?_|refine cM (HD.out _) ?_|refine cM (HT.out _) ?_|refine cM (HL.out _ gO) ?_|refine wU ?_);clear k m;intro w m k)|((with_reducible refine lE (fun w o g k K hK=>⟨rfl,?_⟩));simp[results,Tryz.results156,go_sem];refine hK _ ?_;exact⟨rfl,o⟩))
theorem pNoise {w:World} {p:Option Addr} {m cap:Nat} (l:Lk) (d n:Int) (hv:VRow chC 3 w p m cap l.ch) (hl:linkE l=0) (hn:m<=100000) (hd:d=0∨d=1) (n0:0<=n) (n1:n<=1099511627776) {R:List (Int × Int)} (hR:Rnds w R) :
  Calls Tryz.prog 157 #[lkV l p m cap,.int .i64 d,.int .i64 n] w fun e w'=>e=.returned (.int .i64 (noiF R l d n))/\Only [] w w':=by
 have HC:=hid (fun w' (o:Only [] w w')=>by have:=pLink l (hv.kept o) hn;rw[hl] at this;exact this);have HD:=hid (fun w'=>by have:=eqO (pDir d w');rw[show inR d 0 1=true from inR_t.2 (by omega)] at this;exact this);have HN:=hid (fun w'=>by have:=pIsNum n w';rw[show inR n 0 1099511627776=true from inR_t.2 ⟨n0,n1⟩] at this;exact this);have hok:=lk_ok hl;have HM:=hid (fun w' (o:Only [] w w')=>pMix l.sd (4*n+2*d+1) (hR.kept o));have hub:=mixF_u (R:=R) l.sd (4*n+2*d+1);obtain⟨res,HE⟩:∃ zz,Hid (noiF R l d n=zz):=⟨_,hid rfl⟩;rw[HE.out];unfold noiF pik at HE;generalize mixF R l.sd (4*n+2*d+1)=x at HM HE hub;unfold lkV at HC ⊢;obtain⟨A,B,d0,d1,v0,v1,lo,sd,ch⟩:=l;dsimp only at HC HM HE hok ⊢;clear hv hl hn;have hv0:=hok.2.2.1;have hv1:=hok.2.2.2.1;clear hok hR;have r1:IntKind.i64.wrap (4*n)=4*n:=by rw[IntKind.wrap_i64];omega
 obtain⟨v,hv,vb⟩:∃ v,(if d=0 then v0 else v1)=v/\0<=v/\v<=10000000000:=⟨_,rfl,by split<;>omega⟩;rw[hv] at HE;have q1:IntKind.i64.wrap (v+1)=v+1:=by rw[IntKind.wrap_i64];omega
 have q2:IntKind.u64.wrap (v+1)=v+1:=by rw[IntKind.wrap_u64];omega
 have q3:x.tmod (v+1)=x % (v+1):=Int.tmod_eq_emod_of_nonneg hub.1;have q4:0<=x % (v+1):=Int.emod_nonneg _ (by omega);have q5:x % (v+1)<v+1:=Int.emod_lt_of_pos _ (by omega);have q6:IntKind.i64.wrap (x % (v+1))=x % (v+1):=by rw[IntKind.wrap_i64];omega
 have q7:(v+1 == 0)=false:=by simp;omega
 have q8:v+1≠0:=by omega
 obtain⟨z,hz⟩:∃ z,x % (v+1)=z:=⟨_,rfl⟩;rw[hz] at q3 q6 HE;obtain rfl:=HE.out;clear HE q4 q5 hz hub vb hv0 hv1;rcases hd with rfl|rfl
 focus
  rw[if_pos rfl] at hv;subst hv;have r4:IntKind.i64.wrap (4*n+1)=4*n+1:=by rw[IntKind.wrap_i64];omega
  have r5:IntKind.u64.wrap (4*n+1)=4*n+1:=by rw[IntKind.wrap_u64];omega
  simp only[Int.mul_zero,Int.add_zero] at HM
 rotate_left
 focus
  rw[if_neg (by decide)] at hv;subst hv;have r3:IntKind.i64.wrap (4*n+2)=4*n+2:=by rw[IntKind.wrap_i64];omega
  have r4:IntKind.i64.wrap (4*n+2+1)=4*n+2+1:=by rw[IntKind.wrap_i64];omega
  have r5:IntKind.u64.wrap (4*n+2+1)=4*n+2+1:=by rw[IntKind.wrap_u64];omega
  simp only[Int.mul_one] at HM
 rotate_left
 all_goals
  clear n0 n1;have m:=mm0 w [];have k:=m.out.k;go_enter Tryz.func157,Tryz.ntmps157
  go_wp2_with (first|((with_reducible first|refine cM (HC.out _ gO) ?_|refine cM (HD.out _) ?_|refine cM (HN.out _) ?_|refine cM (HM.out _ gO) ?_|refine wU ?_);clear k m;intro w m k)|((with_reducible refine lE (fun w o g k K hK=>⟨rfl,?_⟩));simp[results,Tryz.results157,go_sem];refine hK _ ?_;exact⟨rfl,o⟩))
def arrV:Option Int->Value
 | none=>.tuple #[.int .i64 0,.bool false]
 | some t=>.tuple #[.int .i64 t,.bool true]
theorem pArrive {w:World} {p:Option Addr} {m cap:Nat} (l:Lk) (d t n:Int) (hv:VRow chC 3 w p m cap l.ch) (hl:linkE l=0) (hn:m<=100000) (hd:d=0∨d=1) (t0:0<=t) (t1:t<=1125899906842624) (n0:0<=n) (n1:n<=1099511627776) {R:List (Int × Int)} (hR:Rnds w R) :
  Calls Tryz.prog 151 #[lkV l p m cap,.int .i64 d,.int .i64 t,.int .i64 n] w fun e w'=>e=.returned (arrV (arrF R l d t n))/\Only [] w w':=by
 have HC:=hid (fun w' (o:Only [] w w')=>by have:=pLink l (hv.kept o) hn;rw[hl] at this;exact this);have HD:=hid (fun w'=>by have:=eqO (pDir d w');rw[show inR d 0 1=true from inR_t.2 (by omega)] at this;exact this);have HT:=hid (fun w'=>by have:=eqO (sTime t w');rw[show inR t 0 1125899906842624=true from inR_t.2 ⟨t0,t1⟩] at this;exact this);have HN:=hid (fun w'=>by have:=pIsNum n w';rw[show inR n 0 1099511627776=true from inR_t.2 ⟨n0,n1⟩] at this;exact this);have hok:=lk_ok hl;have HM:=hid (fun w' (o:Only [] w w')=>pMix l.sd (4*n+2*d) (hR.kept o));have HY:=hid (fun w' (o:Only [] w w')=>pDelay l d t (hv.kept o) hl hn hd t0 t1);have HZ:=hid (fun w' (o:Only [] w w')=>pNoise l d n (hv.kept o) hl hn hd n0 n1 (hR.kept o));have hub:=mixF_u (R:=R) l.sd (4*n+2*d)
 have hdb:0<=pik (dlyF l t) d/\pik (dlyF l t) d<=10000000000:=by
  have:=dly_bd (t:=t) (p:=(l.d0,l.d1)) hok.2.2.2.2.2.1 ⟨hok.1,hok.2.1⟩;unfold pik dlyF;split
  ·exact this.1
  ·exact this.2
 have hnb:0<=noiF R l d n/\noiF R l d n<=10000000000:=by
  unfold noiF
  have hp:0<=pik (l.v0,l.v1) d/\pik (l.v0,l.v1) d<=10000000000:=by
   unfold pik;split
   ·exact hok.2.2.1
   ·exact hok.2.2.2.1
  have h1:=Int.emod_nonneg (mixF R l.sd (4*n+2*d+1)) (b:=pik (l.v0,l.v1) d+1) (by omega);have h2:=Int.emod_lt_of_pos (mixF R l.sd (4*n+2*d+1)) (b:=pik (l.v0,l.v1) d+1) (by omega);omega
 obtain⟨res,HE⟩:∃ zz,Hid (arrF R l d t n=zz):=⟨_,hid rfl⟩;rw[HE.out];unfold arrF at HE;generalize mixF R l.sd (4*n+2*d)=x at HM HE hub;generalize pik (dlyF l t) d=dl at HY HE hdb;generalize noiF R l d n=no at HZ HE hnb;unfold lkV at HC HY HZ ⊢;obtain⟨A,B,d0,d1,v0,v1,lo,sd,ch⟩:=l;dsimp only at HC HM HY HZ HE ⊢;clear hv hl hn hok hR;have q3:x.tmod 1000=x % 1000:=Int.tmod_eq_emod_of_nonneg hub.1;have q6:IntKind.i64.wrap (x % 1000)=x % 1000:=by rw[IntKind.wrap_i64];omega
 have r1:IntKind.i64.wrap (4*n)=4*n:=by rw[IntKind.wrap_i64];omega
 obtain⟨z,hz⟩:∃ z,x % 1000=z:=⟨_,rfl⟩;rw[hz] at q3 q6 HE;have s1:IntKind.i64.wrap (t+dl)=t+dl:=by rw[IntKind.wrap_i64];omega
 have s2:IntKind.i64.wrap (t+dl+no)=t+dl+no:=by rw[IntKind.wrap_i64];omega
 clear hz hub hdb hnb t0 t1;rcases hd with rfl|rfl
 focus
  have r5:IntKind.u64.wrap (4*n)=4*n:=by rw[IntKind.wrap_u64];omega
  simp only[Int.mul_zero,Int.add_zero] at HM
 rotate_left
 focus
  have r3:IntKind.i64.wrap (4*n+2)=4*n+2:=by rw[IntKind.wrap_i64];omega
  have r5:IntKind.u64.wrap (4*n+2)=4*n+2:=by rw[IntKind.wrap_u64];omega
  simp only[Int.mul_one] at HM
 rotate_left
 all_goals
  clear n0 n1;by_cases hlt:z<lo
  ·have hd1:decide (z<lo)=true:=decide_eq_true hlt
   rw[if_pos hlt] at HE;obtain rfl:=HE.out;clear HY HZ;unfold arrV;have m:=mm0 w [];have k:=m.out.k;go_enter Tryz.func151,Tryz.ntmps151
   go_wp2_with (first|((with_reducible first|refine cM (HC.out _ gO) ?_|refine cM (HD.out _) ?_|refine cM (HT.out _) ?_|refine cM (HN.out _) ?_|refine cM (HM.out _ gO) ?_|refine wU ?_);clear k m;intro w m k)|((with_reducible refine rG (id:=6) [0,1,2,3,4,5,6,7,8,9,10,11,12] [] (by kernel_rfl) (by kernel_rfl) ?_);simp only[pick,List.map_cons,List.map_nil,List.getD_cons_succ,List.getD_cons_zero];(repeat' (first|go_big_quiet_step (fail)|(refine wpQuiet_step (fun K hK=>?_);go_simp;(first|(refine hK _ ?_;clear hK K)|(split<;>(refine hK _ ?_;clear hK K))))));all_goals (refine wpQuiet_nil ?_;clear k m;intro w m k))|((with_reducible refine lE (fun w o g k K hK=>⟨rfl,?_⟩));simp[results,Tryz.results151,go_sem];refine hK _ ?_;exact⟨rfl,o⟩))
  ·have hd1:decide (z<lo)=false:=decide_eq_false hlt
   rw[if_neg hlt] at HE;obtain rfl:=HE.out;unfold arrV;have m:=mm0 w [];have k:=m.out.k;go_enter Tryz.func151,Tryz.ntmps151
   go_wp2_with (first|((with_reducible first|refine cM (HC.out _ gO) ?_|refine cM (HD.out _) ?_|refine cM (HT.out _) ?_|refine cM (HN.out _) ?_|refine cM (HM.out _ gO) ?_|refine wU ?_);clear k m;intro w m k)|((with_reducible refine rG (id:=6) [0,1,2,3,4,5,6,7,8,9,10,11,12] [] (by kernel_rfl) (by kernel_rfl) ?_);simp only[pick,List.map_cons,List.map_nil,List.getD_cons_succ,List.getD_cons_zero];(repeat' (first|go_big_quiet_step (with_reducible first|exact gX (HY.out _ gOP)|exact gX (HZ.out _ gOP))|(refine wpQuiet_step (fun K hK=>?_);go_simp;(first|(refine hK _ ?_;clear hK K)|(split<;>(refine hK _ ?_;clear hK K))))));all_goals (refine wpQuiet_nil ?_;clear k m;intro w m k))|((with_reducible refine lE (fun w o g k K hK=>⟨rfl,?_⟩));simp[results,Tryz.results151,go_sem];refine hK _ ?_;exact⟨rfl,o⟩))
end
end Go.Proofs.YtppjhbjmfkiejaaGreat
