/- Rr4 Rr5 Rr6 -/
import Derived.Test.YtedgpfgccpnjnaaGreatFRr1
import Derived.Test.YtedgpfgccpnjnaaGreatFJb
namespace Go.Proofs.YtedgpfgccpnjnaaGreat
section
open Go.Lib (hid)
set_option maxRecDepth 100000
set_option maxHeartbeats 8000000
open Go.RowKit Go.Sort
theorem qSplit (t:Int) (h0: -9000000000000000000≤t) (h1:t≤9223372036854775807) (w:World) :
  Calls Tryz.prog 278 #[.int .i64 t] w fun e w'=>e=.returned (.tuple #[.int .i64 (t / 1000000000),.int .i64 (t % 1000000000)])∧Only [] w w':=by
 obtain⟨q,hq⟩:∃ q,t / 1000000000=q:=⟨_,rfl⟩;obtain⟨r,hr⟩:∃ r,t % 1000000000=r:=⟨_,rfl⟩;rw[hq,hr];obtain⟨u,hu⟩:∃ u,t.tdiv 1000000000=u:=⟨_,rfl⟩;obtain⟨v,hv⟩:∃ v,t.tmod 1000000000=v:=⟨_,rfl⟩;by_cases hn:0≤t
 focus
  rw[Int.tdiv_eq_ediv_of_nonneg hn] at hu;rw[Int.tmod_eq_emod_of_nonneg hn] at hv;obtain rfl:u=q:=by omega
  obtain rfl:v=r:=by omega
  have hu2:t.tdiv 1000000000=u:=by rw[Int.tdiv_eq_ediv_of_nonneg hn];exact hu
  have hv2:t.tmod 1000000000=v:=by rw[Int.tmod_eq_emod_of_nonneg hn];exact hv
  have d0:decide (v<0)=false:=decide_eq_false (by omega);have r1:IntKind.i64.wrap (u)=u:=by rw[IntKind.wrap_i64];omega
  have r2:IntKind.i64.wrap (v)=v:=by rw[IntKind.wrap_i64];omega
  clear hu hv
 rotate_left 1
 focus
  have e1:u= -((-t) / 1000000000):=by rw[←hu,show t= -(-t) by omega,Int.neg_tdiv,Int.tdiv_eq_ediv_of_nonneg (by omega)];omega
  have e2:v= -((-t) % 1000000000):=by rw[←hv,show t= -(-t) by omega,Int.neg_tmod,Int.tmod_eq_emod_of_nonneg (by omega)];omega
  have r1:IntKind.i64.wrap (u)=u:=by rw[IntKind.wrap_i64];omega
  have r2:IntKind.i64.wrap (v)=v:=by rw[IntKind.wrap_i64];omega
  by_cases hv0:v<0
  focus
   have dhv0:decide (v<0)=true:=decide_eq_true hv0;have r3:IntKind.i64.wrap (u-1)=q:=by rw[IntKind.wrap_i64];omega
   have r4:IntKind.i64.wrap (v+1000000000)=r:=by rw[IntKind.wrap_i64];omega
   clear e1 e2 hv0
  rotate_left 1
  focus
   have dhv0:decide (v<0)=false:=decide_eq_false hv0;obtain rfl:u=q:=by omega
   obtain rfl:v=r:=by omega
   clear e1 e2 hv0
 all_goals
  clear hq hr hn h0 h1;have m:=mm0 w [];have k:=m.out.k;go_enter Tryz.func278,Tryz.ntmps278
  go_wp2_with (first|((with_reducible refine wU ?_);clear k m;intro w m k)|((with_reducible refine lE (fun w o g k K hK=>⟨rfl,?_⟩));simp[results,Tryz.results278,go_sem];refine hK _ ?_;exact⟨rfl,o⟩))
theorem qStampOf (t:Int) (h0: -9000000000000000000≤t) (h1:t≤9223372036854775807) (w:World) :
  Calls Tryz.prog 280 #[.int .i64 t] w fun e w'=>e=.returned (.int .u64 (ofS t))∧Only [] w w':=by
 have HF:=hid (fun w'=>qSplit t h0 h1 w');have HE:Hid (ofS t=(t / 1000000000*4294967296+(t-t / 1000000000*1000000000)*4294967296 / 1000000000) % 18446744073709551616):=hid rfl;rw[show t-t / 1000000000*1000000000=t % 1000000000 by omega] at HE;generalize ofS t=res at HE ⊢;obtain⟨q,hq⟩:∃ q,t / 1000000000=q:=⟨_,rfl⟩;obtain⟨r,hr⟩:∃ r,t % 1000000000=r:=⟨_,rfl⟩;have hrb:0≤r∧r≤999999999:=by omega
 rw[hq,hr] at HF HE;obtain⟨f,hf⟩:∃ f,r*4294967296 / 1000000000=f:=⟨_,rfl⟩;rw[hf] at HE;have r3:IntKind.i64.wrap (r*4294967296)=r*4294967296:=by rw[IntKind.wrap_i64];omega
 have r4:(r*4294967296).tdiv 1000000000=f:=by rw[Int.tdiv_eq_ediv_of_nonneg (by omega)];exact hf
 have r5:IntKind.i64.wrap (f)=f:=by rw[IntKind.wrap_i64];omega
 obtain⟨a,ha⟩:∃ a,IntKind.u64.wrap q=a:=⟨_,rfl⟩;obtain⟨b,hb⟩:∃ b,IntKind.u64.wrap (a*4294967296)=b:=⟨_,rfl⟩;have hfw:IntKind.u64.wrap f=f:=by rw[IntKind.wrap_u64];omega
 have r6:IntKind.u64.wrap (b+f)=res:=by rw[HE.out,←hb,←ha,IntKind.wrap_u64,IntKind.wrap_u64,IntKind.wrap_u64];omega
 clear HE hq hr hrb hf h0 h1;have m:=mm0 w [];have k:=m.out.k;go_enter Tryz.func280,Tryz.ntmps280
 go_wp2_with (first|((with_reducible first|refine cM (HF.out _) ?_|refine wU ?_);clear k m;intro w m k)|((with_reducible refine lE (fun w o g k K hK=>⟨rfl,?_⟩));simp[results,Tryz.results280,go_sem];refine hK _ ?_;exact⟨rfl,o⟩))
theorem qDiff (a b:Int) (w:World) :
  Calls Tryz.prog 279 #[.int .u64 a,.int .u64 b] w fun e w'=>e=.returned (.int .i64 (dfS a b))∧Only [] w w':=by
 have r1:IntKind.i64.wrap (IntKind.u64.wrap (a-b))=dfS a b:=by rw[IntKind.wrap_u64,IntKind.wrap_i64];unfold dfS;omega
 generalize dfS a b=v at r1 ⊢;obtain⟨u,hu⟩:∃ u,IntKind.u64.wrap (a-b)=u:=⟨_,rfl⟩;rw[hu] at r1;have m:=mm0 w [];have k:=m.out.k;go_enter Tryz.func279,Tryz.ntmps279
 go_wp2_with (first|((with_reducible refine wU ?_);clear k m;intro w m k)|((with_reducible refine lE (fun w o g k K hK=>⟨rfl,?_⟩));simp[results,Tryz.results279,go_sem];refine hK _ ?_;exact⟨rfl,o⟩))
theorem qAbove (f:Int) (h0:0≤f) (h1:f≤4294967295) (w:World) :
  Calls Tryz.prog 281 #[.int .i64 f] w fun e w'=>e=.returned (.int .i64 (nnS f))∧Only [] w w':=by
 have HE:Hid (nnS f=(f*1000000000+4294967295) / 4294967296):=hid rfl;generalize nnS f=v at HE ⊢;have r1:IntKind.i64.wrap (f*1000000000)=f*1000000000:=by rw[IntKind.wrap_i64];omega
 have r2:IntKind.i64.wrap (f*1000000000+4294967295)=f*1000000000+4294967295:=by rw[IntKind.wrap_i64];omega
 have r3:(f*1000000000+4294967295).tdiv 4294967296=v:=by rw[Int.tdiv_eq_ediv_of_nonneg (by omega),HE.out]
 have r4:IntKind.i64.wrap v=v:=by rw[IntKind.wrap_i64,HE.out];omega
 clear HE h0 h1;have m:=mm0 w [];have k:=m.out.k;go_enter Tryz.func281,Tryz.ntmps281
 go_wp2_with (first|((with_reducible refine wU ?_);clear k m;intro w m k)|((with_reducible refine lE (fun w o g k K hK=>⟨rfl,?_⟩));simp[results,Tryz.results281,go_sem];refine hK _ ?_;exact⟨rfl,o⟩))
theorem qTime (s pivot:Int) (w:World) :
  Calls Tryz.prog 246 #[.int .u64 s,.int .i64 pivot] w fun e w'=>e=.returned (.tuple #[.int .i64 (tmS s pivot).1,.int .i64 (tmS s pivot).2])∧Only [] w w':=by
 have HE:Hid (tmS s pivot=tmS s pivot):=hid rfl;obtain⟨res,hres⟩:∃ res,tmS s pivot=res:=⟨_,rfl⟩;replace HE:Hid (res=tmS s pivot):=hid hres.symm;rw[hres];clear hres;by_cases p1:pivot < -8000000000000000000
 focus
  have dp1:decide (pivot < -8000000000000000000)=true:=decide_eq_true p1;obtain rfl:res=(0,2):=by rw[HE.out];unfold tmS;rw[if_pos (.inl p1)]
  clear HE
 rotate_left 1
 focus
  have dp1:decide (pivot < -8000000000000000000)=false:=decide_eq_false p1;by_cases p2:8000000000000000000<pivot
  focus
   have dp2:decide (8000000000000000000<pivot)=true:=decide_eq_true p2;obtain rfl:res=(0,2):=by rw[HE.out];unfold tmS;rw[if_pos (.inr p2)]
   clear HE
  rotate_left 1
  focus
   have dp2:decide (8000000000000000000<pivot)=false:=decide_eq_false p2;have HS:=hid (fun w'=>qSplit pivot (by omega) (by omega) w');have HO:=hid (fun w'=>qStampOf pivot (by omega) (by omega) w');have HD:=hid (fun w'=>qDiff s (ofS pivot) w');replace HE:Hid (res=if tmR s pivot < -8000000000000000000∨8000000000000000000<tmR s pivot then (0,3) else (tmR s pivot,0)):=hid (by rw[HE.out];unfold tmS;rw[if_neg (by omega)]);have HT:Hid (tmR s pivot=(pivot / 1000000000+(dfS s (ofS pivot) / 4294967296+(fS pivot+dfS s (ofS pivot) % 4294967296) / 4294967296))*1000000000+nnS ((fS pivot+dfS s (ofS pivot) % 4294967296) % 4294967296)):=hid rfl;have HF:Hid (fS pivot=pivot % 1000000000*4294967296 / 1000000000):=hid (by unfold fS;rw[show pivot-pivot / 1000000000*1000000000=pivot % 1000000000 by omega]);generalize tmR s pivot=tr at HE HT;have hfb:=fS_bd pivot;have hdb:=dfS_bd s (ofS pivot);generalize dfS s (ofS pivot)=d at HT HD hdb;generalize ofS pivot=op at HO HD;generalize fS pivot=f at HT HF hfb;obtain⟨q,hq⟩:∃ q,pivot / 1000000000=q:=⟨_,rfl⟩;obtain⟨r,hr⟩:∃ r,pivot % 1000000000=r:=⟨_,rfl⟩;have hrb:0≤r∧r≤999999999:=by omega
   rw[hr] at HS HF;rw[hq] at HT HS;have hqb: -8000000000≤q∧q≤8000000000:=by omega
   have s1:IntKind.i64.wrap (r*4294967296)=r*4294967296:=by rw[IntKind.wrap_i64];omega
   have s2:(r*4294967296).tdiv 1000000000=f:=by rw[Int.tdiv_eq_ediv_of_nonneg (by omega),HF.out]
   have s3:IntKind.i64.wrap (f)=f:=by rw[IntKind.wrap_i64];omega
   have b1:=i64_and32 d;obtain⟨d0,hd0⟩:∃ d0,d % 4294967296=d0:=⟨_,rfl⟩;obtain⟨d1',hd1⟩:∃ d1,d / 4294967296=d1:=⟨_,rfl⟩;rw[hd0] at b1 HT;rw[hd1] at HT;have hd0b:0≤d0∧d0≤4294967295:=by omega
   have hd1b: -2147483648≤d1'∧d1'≤2147483647:=by omega
   obtain⟨lo,hlo⟩:∃ lo,f+d0=lo:=⟨_,rfl⟩;have r1:IntKind.i64.wrap (f+d0)=lo:=by rw[IntKind.wrap_i64];omega
   rw[hlo] at HT;obtain⟨c,hc⟩:∃ c,lo / 4294967296=c:=⟨_,rfl⟩;have b2:=i64_and32 lo;obtain⟨l0,hl0⟩:∃ l0,lo % 4294967296=l0:=⟨_,rfl⟩;rw[hl0] at b2 HT;rw[hc] at HT;have hl0b:0≤l0∧l0≤4294967295:=by omega
   have hcb:0≤c∧c≤1:=by omega
   obtain⟨g,hg⟩:∃ g,q+d1'=g:=⟨_,rfl⟩;have r2:IntKind.i64.wrap (q+d1')=g:=by rw[IntKind.wrap_i64];omega
   obtain⟨sec,hsec⟩:∃ sec,g+c=sec:=⟨_,rfl⟩;have r3:IntKind.i64.wrap (g+c)=sec:=by rw[IntKind.wrap_i64];omega
   rw[show q+(d1'+c)=sec by omega] at HT;have HN:=hid (fun w'=>qAbove l0 hl0b.1 hl0b.2 w');have hnb:=nnS_bd hl0b.1 hl0b.2;generalize nnS l0=nn at HT HN hnb;have ht:=HT.out;clear HT HF hq hr hrb hlo hl0 hd0 hsec p1 p2 hfb hdb hg;by_cases h8:8000000000<sec
   focus
    have dh8:decide (8000000000<sec)=true:=decide_eq_true h8;obtain rfl:res=(0,3):=by rw[HE.out,if_pos (.inr (by omega))]
    clear HE ht hqb hd0b hd1b hl0b hcb hnb
   rotate_left 1
   focus
    have dh8:decide (8000000000<sec)=false:=decide_eq_false h8;by_cases h9:sec < -8000000001
    focus
     have dh9:decide (sec < -8000000001)=true:=decide_eq_true h9;obtain rfl:res=(0,3):=by rw[HE.out,if_pos (.inl (by omega))]
     clear HE ht hqb hd0b hd1b hl0b hcb hnb
    rotate_left 1
    focus
     have dh9:decide (sec < -8000000001)=false:=decide_eq_false h9;have r5:IntKind.i64.wrap (sec*1000000000)=sec*1000000000:=by rw[IntKind.wrap_i64];omega
     have r6:IntKind.i64.wrap (sec*1000000000+nn)=tr:=by rw[IntKind.wrap_i64];omega
     clear ht hqb hd0b hd1b hl0b hcb hnb;by_cases v1:tr < -8000000000000000000
     focus
      have dv1:decide (tr < -8000000000000000000)=true:=decide_eq_true v1;obtain rfl:res=(0,3):=by rw[HE.out,if_pos (.inl v1)]
      clear HE
     rotate_left 1
     focus
      have dv1:decide (tr < -8000000000000000000)=false:=decide_eq_false v1;by_cases v2:8000000000000000000<tr
      focus
       have dv2:decide (8000000000000000000<tr)=true:=decide_eq_true v2;obtain rfl:res=(0,3):=by rw[HE.out,if_pos (.inr v2)]
       clear HE
      rotate_left 1
      focus
       have dv2:decide (8000000000000000000<tr)=false:=decide_eq_false v2;obtain rfl:res=(tr,0):=by rw[HE.out,if_neg (by omega)]
       clear HE
 all_goals
  have m:=mm0 w [];have k:=m.out.k;go_enter Tryz.func246,Tryz.ntmps246
  go_wp2_with (first|((with_reducible first|refine cM (HS.out _) ?_|refine cM (HO.out _) ?_|refine cM (HD.out _) ?_|refine cM (HN.out _) ?_|refine wU ?_);clear k m;intro w m k)|((with_reducible refine lE (fun w o g k K hK=>⟨rfl,?_⟩));simp[results,Tryz.results246,go_sem];refine hK _ ?_;exact⟨rfl,o⟩))
theorem qRdg (n:Int) (w:World) :
  Calls Tryz.prog 100 #[.int .i64 n] w fun e w'=>e=.returned (.bool (isT n))∧Only [] w w':=by
 obtain⟨res,HE⟩:∃ zz,Hid (isT n=zz):=⟨_,hid rfl⟩;rw[HE.out];unfold isT wth at HE;have m:=mm0 w [];have k:=m.out.k;go_enter Tryz.func100,Tryz.ntmps100
 go_wp2_with (first|((with_reducible refine wU ?_);clear k m;intro w m k)|((with_reducible refine lE (fun w o g k K hK=>⟨rfl,?_⟩));simp[results,Tryz.results100,go_sem];refine hK _ ?_;clear hK K k;rw[←HE.out];(go_tidy;grind)))
theorem qInstant (s now:Int) (hn:isT now=true) (w:World) :
  Calls Tryz.prog 180 #[.int .u64 s,.int .i64 now] w fun e w'=>e=.returned (.tuple #[.int .i64 (instS s now).1,.bool (instS s now).2])∧Only [] w w':=by
 have hb:=wth_iff.1 (show wth now (-4503599627370496) 4503599627370496=true from hn);obtain⟨res,HE⟩:∃ zz,Hid (instS s now=zz):=⟨_,hid rfl⟩;rw[HE.out];unfold instS at HE;obtain⟨pv,hpv⟩:∃ pv,3900000000000000000+now=pv:=⟨_,rfl⟩;have r1:IntKind.i64.wrap (3900000000000000000+now)=pv:=by rw[IntKind.wrap_i64];omega
 rw[hpv] at HE;have HT:=hid (fun w'=>qTime s pv w')
 have htb:(tmS s pv).2=0→ -8000000000000000000≤(tmS s pv).1∧(tmS s pv).1≤8000000000000000000:=fun h=>by
  unfold tmS at h ⊢;split at h
  ·exact absurd h (by decide)
  ·rename_i g
   rw[if_neg g];split at h
   ·exact absurd h (by decide)
   ·rename_i g2;rw[if_neg g2];dsimp only;omega
 generalize tmS s pv=tv at HT HE htb;obtain⟨t,te⟩:=tv;dsimp only at HT HE htb;clear hn hb hpv;by_cases hz:te=0
 focus
  subst hz;obtain⟨t0,t1⟩:=htb rfl;obtain⟨v,hv⟩:∃ v,t-3900000000000000000=v:=⟨_,rfl⟩;rw[hv] at HE;obtain⟨u,hu⟩:∃ u,IntKind.i64.wrap (t-3900000000000000000)=u:=⟨_,rfl⟩;have HI:=hid (fun w'=>qRdg u w')
  have h2:(u=v∧isT v=isT u)∨(isT v=false∧isT u=false):=by
   have hu2:=hu;rw[IntKind.wrap_i64] at hu2;by_cases hlow:v < -9223372036854775808
   ·exact .inr ⟨by unfold isT;rw[wth_no];omega,by unfold isT;rw[wth_no];omega⟩
   ·have:u=v:=by omega
    exact .inl ⟨this,by rw[this]⟩
  clear htb t0 t1 hv;rcases h2 with ⟨rfl,-⟩|⟨h3,h4⟩
  focus
   generalize isT u=iu at HI HE
  rotate_left 1
  focus
   rw[h4] at HI;rw[h3] at HE
 rotate_left 2
 focus
  have d0:(te != 0)=true:=by simpa using hz
  rw[if_neg (fun h=>hz h.1)] at HE;clear htb hz
 all_goals
  have m:=mm0 w [];have k:=m.out.k;go_enter Tryz.func180,Tryz.ntmps180
  go_wp2_with (first|((with_reducible first|refine cM (HT.out _) ?_|refine cM (HI.out _) ?_|refine wU ?_);clear k m;intro w m k)|((with_reducible refine lE (fun w o g k K hK=>⟨rfl,?_⟩));simp[results,Tryz.results180,go_sem];refine hK _ ?_;clear hK K k;rw[←HE.out];(go_tidy;grind)))
def QAsAt (w:World) (b:Nat) (a:As):Prop:=(a.nonce=0→a.t1=0)∧∃ c0 c1 c2 c3 c4 c5 c6 c7:Int,w.heap[b]? = some (.cells #[.int .i64 a.ver,.bool (!decide (a.nonce=0)),.bool a.pend,.int .i64 a.t1,.int .u64 a.nonce,.int .u64 a.xmt,.int .i64 c0,.int .i64 c1,.int .i64 c2,.int .i64 c3,.int .i64 c4,.int .i64 c5,.int .i64 c6,.int .i64 c7] 132 (0,0))
theorem QAsAt.kept {w w':World} {b:Nat} {a:As} {S:List Nat} (h:QAsAt w b a) (ho:Only S w w') (hS:b ∉ S):QAsAt w' b a:=by
 obtain⟨h1,c0,c1,c2,c3,c4,c5,c6,c7,h⟩:=h;exact⟨h1,c0,c1,c2,c3,c4,c5,c6,c7,ho.got h hS⟩
theorem QAsAt.lt {w:World} {b:Nat} {a:As} (h:QAsAt w b a):b<w.heap.size:=by
 obtain⟨h1,c0,c1,c2,c3,c4,c5,c6,c7,h⟩:=h;exact got_lt h
theorem qANew  (w:World) :
  Calls Tryz.prog 28 #[.int .i64 4] w fun e w'=>(∃ b,e=.returned (.pointer (some ⟨b,0,none⟩))∧w.heap.size≤b∧QAsAt w' b as4)∧Only [] w w':=by
 unfold QAsAt as4;dsimp only;obtain⟨wo,hwo⟩:∃ wo:World,wo=w:=⟨_,rfl⟩;subst hwo;have m:=mm0 wo [];have k:=m.out.k;go_enter Tryz.func28,Tryz.ntmps28
 go_wp2_with (first|((with_reducible refine wU ?_);clear k m;intro w m k)|((with_reducible refine lE (fun w o g k K hK=>⟨rfl,?_⟩));simp[results,Tryz.results28,go_sem];refine hK _ ?_;exact⟨⟨_,rfl,by omega,by simp,0,0,0,0,0,0,0,0,Has.h w g⟩,o⟩))
theorem qASend {w:World} {b:Nat} {a:As} (ha:QAsAt w b a) (now n:Int) :
  Calls Tryz.prog 58 #[.pointer (some ⟨b,0,none⟩),.int .i64 now,.int .u64 n] w fun e w'=>e=.returned (.tuple #[npV (aSend a now n).1,.int .i64 (aSend a now n).2.1])∧QAsAt w' b (aSend a now n).2.2∧Only [b] w w':=by
 obtain⟨h1,c0,c1,c2,c3,c4,c5,c6,c7,hA⟩:=ha;obtain⟨ver,t1,nonce,pend,xmt⟩:=a;dsimp only at hA h1;have HI:=hid (fun w'=>qRdg now w');obtain⟨res,HE⟩:∃ zz,Hid (aSend ⟨ver,t1,nonce,pend,xmt⟩ now n=zz):=⟨_,hid rfl⟩;rw[HE.out];unfold aSend at HE;unfold QAsAt npV;dsimp only at HE ⊢;generalize isT now=it at HI HE;have H1:=hid h1;clear h1
 cases it
 focus
  rw[if_neg (by decide)] at HE;obtain rfl:=HE.out;have H3:=H1
 rotate_left 1
 focus
  rw[if_pos rfl] at HE;by_cases hz:n=0
  focus
   subst hz;rw[if_pos rfl] at HE;obtain rfl:=HE.out;have H3:=H1
  rotate_left 1
  focus
   rw[if_neg hz] at HE;have d0:(n == 0)=false:=by simpa using hz
   by_cases hq:n=nonce
   focus
    subst hq;rw[if_pos rfl] at HE;obtain rfl:=HE.out;have H3:=H1;have d1:decide (n=0)=false:=decide_eq_false hz;rw[d1,Bool.not_false] at hA;rw[d1,Bool.not_false]
   rotate_left 1
   focus
    rw[if_neg hq] at HE;obtain rfl:=HE.out;have d1:(n == nonce)=false:=by simpa using hq
    have d2:decide (n=0)=false:=decide_eq_false hz;have H3:=hid (fun h=>absurd h hz:n=0→now=0);rw[d2,Bool.not_false];clear d2;generalize decide (nonce=0)=sn at hA
    cases sn
    focus
     simp only[Bool.not_false] at hA
    rotate_left 1
    focus
     simp only[Bool.not_true] at hA
 all_goals
  clear HE;have m:=mm1 hA;have k:=m.out.k;clear hA;go_enter Tryz.func58,Tryz.ntmps58
  go_wp2_with (first|((with_reducible first|refine cM (HI.out _) ?_|refine wU ?_);clear k m;intro w m k)|((with_reducible refine lE (fun w o g k K hK=>⟨rfl,?_⟩));simp[results,Tryz.results58,go_sem,k];refine hK _ ?_;exact⟨rfl,⟨by first|exact H3.out|trivial|simp,_,_,_,_,_,_,_,_,Has.h w g⟩,o⟩))
end
section
open Go.Lib (hid)
set_option maxRecDepth 100000
set_option maxHeartbeats 8000000
open Go.RowKit Go.Sort
theorem qKiss (p:Np) (hp:0≤p.rid∧p.rid≤4294967295) (w:World) :
  Calls Tryz.prog 179 #[npV p] w fun e w'=>e=.returned (.tuple #[.string (kissP p).1,.bool (kissP p).2])∧Only [] w w':=by
 obtain⟨res,HE⟩:∃ zz,Hid (kissP p=zz):=⟨_,hid rfl⟩;rw[HE.out];unfold kissP at HE;obtain⟨p1,p2,p3,p4,p5,p6,p7,p8,p9,pa,pb,pc,pd⟩:=p;dsimp only at hp HE;unfold npV;dsimp only;by_cases hz:p4=0
 rotate_left
 ·have q1:(p4 != 0)=true:=by simpa using hz
  rw[if_neg hz] at HE;obtain rfl:=HE.out;have m:=mm0 w [];have k:=m.out.k;go_enter Tryz.func179,Tryz.ntmps179
  go_wp2_with (first|((with_reducible refine wU ?_);clear k m;intro w m k)|((with_reducible refine lE (fun w o g k K hK=>⟨rfl,?_⟩));simp[results,Tryz.results179,go_sem];refine hK _ ?_;exact⟨rfl,o⟩))
 ·subst hz
  rw[if_pos rfl] at HE;obtain⟨x,rfl⟩:∃ x:Nat,p9=(x:Int):=⟨p9.toNat,by omega⟩;rw[Int.toNat_natCast] at HE;unfold kissS at HE;obtain⟨b0,b1,b2,b3,hb,e0,e1,e2,e3⟩:∃ b0 b1 b2 b3:Int,be x 4=[b0,b1,b2,b3]∧IntKind.u8.wrap ((x:Int) / 16777216)=b0∧IntKind.u8.wrap ((x:Int) / 65536)=b1∧IntKind.u8.wrap ((x:Int) / 256)=b2∧IntKind.u8.wrap (x:Int)=b3:=⟨beAt x 4 0,beAt x 4 1,beAt x 4 2,beAt x 4 3,rfl,by simp[beAt,IntKind.wrap_u8],by simp[beAt,IntKind.wrap_u8],by simp[beAt,IntKind.wrap_u8],by simp[beAt,IntKind.wrap_u8]⟩;rw[hb] at HE;have HW:=hid (And.intro (wth_iff (n:=b0) (lo:=65) (hi:=90)) (And.intro (wth_iff (n:=b1) (lo:=65) (hi:=90)) (And.intro (wth_iff (n:=b2) (lo:=65) (hi:=90)) (wth_iff (n:=b3) (lo:=65) (hi:=90)))));have HB8:Hid ((be x 4).length=4∧be x 4=[b0,b1,b2,b3]):=hid ⟨be_length x 4,hb⟩;clear hb hp;obtain⟨wo,hwo⟩:∃ wo:World,wo=w:=⟨_,rfl⟩;subst hwo;have m:=mm0 wo [];have k:=m.out.k;go_enter Tryz.func179,Tryz.ntmps179
  go_wp2_with ((with_reducible refine wU ?_);clear k m;intro w m k)
  have hbx:=gB (w:=w) (b:=wo.heap.size);have OB:=hid m.out.only;have HBX:=hid hbx;obtain⟨bx,hbe⟩:∃ b,wo.heap.size=b:=⟨_,rfl⟩;rw[hbe] at HBX ⊢;clear k m hbx hbe;obtain⟨wl,hwl⟩:∃ wl:World,wl=w:=⟨_,rfl⟩;subst hwl;go_loopw [4,5] (fun vb vi wr=>∃ k:Nat,k≤4∧vi=.int .i64 k∧Own bE 5 1 wl.heap.size wr vb ([b0,b1,b2,b3].take k)∧([b0,b1,b2,b3].take k).all upI=true∧Only [] wl wr) (fun _ vi _=>4-(intOf vi).toNat)
  case atStart=>exact⟨0,by omega,rfl,own_nil _ _,rfl,Only.refl _ _⟩
  case round =>
   obtain⟨kk,hk,rfl,hown,hall,ho⟩:=hrel;have OO:=hid ho;have OW:=hid hown;have HA:=hid hall;have hq:=ho.got HBX.out (by simp);clear ho hown hall;by_cases h4:kk=4
   ·subst h4
    rcases OW.out with ⟨-,h⟩|⟨g,cap,rfl,-,hr⟩
    ·simp at h
    ·have CV:=run_convert_bytes_arg (P:=Tryz.prog) wr 246 5 Tryz.underlying246 Tryz.underlying5 g 0 4 cap [b0,b1,b2,b3] rfl (fun i hi=>by
      obtain⟨b',off,hp',_,hc⟩:=(RowAt.vrow (enc:=bE) (s:=1) (fun _=>rfl) hr rfl).cell i _ (List.getElem?_eq_getElem hi);simp only[Option.some.injEq,Addr.mk.injEq,and_true] at hp';obtain⟨rfl,rfl⟩:=hp';have:=hc 0 _ rfl;simp only[Nat.mul_one,Nat.add_zero] at this;rw[this,List.getD_eq_getElem?_getD,List.getElem?_eq_getElem hi];rfl) 9 Tryz.underlying9
     have ha:[b0,b1,b2,b3].all upI=true:=HA.out;rw[ha,if_pos rfl] at HE;generalize strOfNums [b0,b1,b2,b3]=S at HE CV;obtain rfl:=HE.out;have m:=mmR hq;have k:=m.out.k;clear hq HE;go_wp2_with (first|((with_reducible refine wU ?_);clear k m;intro w m k)|((with_reducible refine lE (fun w o g k K hK=>⟨rfl,?_⟩));simp[results,Tryz.results179,go_sem];refine hK _ ?_;exact⟨rfl,(OB.out.nil_trans OO.out).nil_trans o⟩))
   ·rcases (by omega:kk=0∨kk=1∨kk=2∨kk=3) with rfl|rfl|rfl|rfl
    all_goals
     have m:=mmR hq;have k:=m.out.k;clear hq;go_wp2_with (first|((with_reducible refine wU ?_);clear k m;intro w m k)|((with_reducible refine lE (fun w o g k K hK=>⟨rfl,?_⟩));simp[results,Tryz.results179,go_sem];refine hK _ ?_;clear hK K k;skip;(have h:=HE.out;have hw:=HW.out;refine⟨?_,(OB.out.nil_trans OO.out).nil_trans o⟩;rw[←h];simp[upI];grind))|(at_builtin;refine stop_here ?_))
    all_goals
     refine alloc_abs (G:=fun w0=>Stop (wpList _ _ _ _ _ w0)) ?_;intro w5 hb5 ho5 hs5;have B5:=hid hb5;have O5:=hid (OO.out.nil_trans ho5);have R5:=hid (OW.out.kept ho5);clear hb5 ho5 hs5;refine stop_go ?_
    focus
     refine wpList_append_one (w0:=wl) rfl _ _ 246 rfl 5 (.int .u8 0) 1 1 Tryz.underlying246 info_u8 rfl (by decide) bE (fun _=>rfl) (fun _ u hu=>by simp at hu;subst hu;rfl) _ _ rfl R5.out wr.heap.size b0 rfl (fun j u hj=>by rw[cell_got B5.out,←hj];simp) (by simp[maxLen]) (by simp) O5.out ?_;intro v6 w6 hown6 ho6 _;have W6:=hid hown6;have O6:=hid ho6;have ha:upI b0=true:=by unfold upI;rw[wth_iff];omega
     have hall:([b0,b1,b2,b3].take 1).all upI=true:=by have h:=HA.out;simp_all
     clear hown6 ho6 ha;go_wp2;go_roundw
     case rel=>exact⟨1,by omega,by go_num,W6.out,hall,O6.out⟩
     case measure=>first|(simp[intOf];done)|(simp[intOf];omega)
    focus
     refine wpList_append_one (w0:=wl) rfl _ _ 246 rfl 5 (.int .u8 0) 1 1 Tryz.underlying246 info_u8 rfl (by decide) bE (fun _=>rfl) (fun _ u hu=>by simp at hu;subst hu;rfl) _ _ rfl R5.out wr.heap.size b1 rfl (fun j u hj=>by rw[cell_got B5.out,←hj];simp) (by simp[maxLen]) (by simp) O5.out ?_;intro v6 w6 hown6 ho6 _;have W6:=hid hown6;have O6:=hid ho6;have ha:upI b1=true:=by unfold upI;rw[wth_iff];omega
     have hall:([b0,b1,b2,b3].take 2).all upI=true:=by have h:=HA.out;simp_all
     clear hown6 ho6 ha;go_wp2;go_roundw
     case rel=>exact⟨2,by omega,by go_num,W6.out,hall,O6.out⟩
     case measure=>first|(simp[intOf];done)|(simp[intOf];omega)
    focus
     refine wpList_append_one (w0:=wl) rfl _ _ 246 rfl 5 (.int .u8 0) 1 1 Tryz.underlying246 info_u8 rfl (by decide) bE (fun _=>rfl) (fun _ u hu=>by simp at hu;subst hu;rfl) _ _ rfl R5.out wr.heap.size b2 rfl (fun j u hj=>by rw[cell_got B5.out,←hj];simp) (by simp[maxLen]) (by simp) O5.out ?_;intro v6 w6 hown6 ho6 _;have W6:=hid hown6;have O6:=hid ho6;have ha:upI b2=true:=by unfold upI;rw[wth_iff];omega
     have hall:([b0,b1,b2,b3].take 3).all upI=true:=by have h:=HA.out;simp_all
     clear hown6 ho6 ha;go_wp2;go_roundw
     case rel=>exact⟨3,by omega,by go_num,W6.out,hall,O6.out⟩
     case measure=>first|(simp[intOf];done)|(simp[intOf];omega)
    focus
     refine wpList_append_one (w0:=wl) rfl _ _ 246 rfl 5 (.int .u8 0) 1 1 Tryz.underlying246 info_u8 rfl (by decide) bE (fun _=>rfl) (fun _ u hu=>by simp at hu;subst hu;rfl) _ _ rfl R5.out wr.heap.size b3 rfl (fun j u hj=>by rw[cell_got B5.out,←hj];simp) (by simp[maxLen]) (by simp) O5.out ?_;intro v6 w6 hown6 ho6 _;have W6:=hid hown6;have O6:=hid ho6;have ha:upI b3=true:=by unfold upI;rw[wth_iff];omega
     have hall:([b0,b1,b2,b3].take 4).all upI=true:=by have h:=HA.out;simp_all
     clear hown6 ho6 ha;go_wp2;go_roundw
     case rel=>exact⟨4,by omega,by go_num,W6.out,hall,O6.out⟩
     case measure=>first|(simp[intOf];done)|(simp[intOf];omega)
theorem qHeard {w:World} {b:Nat} {ver t1 nonce xmt c0 c1 c2 c3 c4 c5 c6 c7:Int} {se pend:Bool} (hA:w.heap[b]? = some (.cells #[.int .i64 ver,.bool se,.bool pend,.int .i64 t1,.int .u64 nonce,.int .u64 xmt,.int .i64 c0,.int .i64 c1,.int .i64 c2,.int .i64 c3,.int .i64 c4,.int .i64 c5,.int .i64 c6,.int .i64 c7] 132 (0,0))) (p:Np) (now:Int) (hp:npOk p) (hn:isT now=true) :
  Calls Tryz.prog 103 #[.pointer (some ⟨b,0,none⟩),npV p,.int .i64 now] w fun e w'=>e=.returned (hdV (aAcc ⟨ver,t1,nonce,pend,xmt⟩ p now))∧Only [] w w':=by
 have HK:=hid (fun w'=>qKiss p ⟨hp.2.2.1.1,hp.2.2.1.2⟩ w');have HY:=hid (fun w'=>qNSync p w');have H1:=hid (fun w'=>qInstant p.rcv now hn w');have H2:=hid (fun w'=>qInstant p.xmt now hn w');obtain⟨res,HE⟩:∃ zz,Hid (aAcc ⟨ver,t1,nonce,pend,xmt⟩ p now=zz):=⟨_,hid rfl⟩;rw[HE.out];unfold aAcc hdK at HE;generalize kissP p=kv at HK HE;generalize nsync p=sy at HY HE;generalize instS p.rcv now=i1 at H1 HE;generalize instS p.xmt now=i2 at H2 HE;obtain⟨p1,p2,p3,p4,p5,p6,p7,p8,p9,pa,pb,pc,pd⟩:=p;obtain⟨ks,kb⟩:=kv;obtain⟨i1t,i1b⟩:=i1;obtain⟨i2t,i2b⟩:=i2;unfold npV at HK HY ⊢;unfold hdV;dsimp only at *;clear hp hn
 cases kb
 focus
  cases sy
  focus
   obtain rfl:=HE.out
  rotate_left 1
  focus
   cases i1b
   focus
    obtain rfl:=HE.out
   rotate_left 1
   focus
    cases i2b
    focus
     obtain rfl:=HE.out
    rotate_left 1
    focus
     by_cases hlt:i2t<i1t
     focus
      have dhlt:decide (i2t<i1t)=true:=decide_eq_true hlt;obtain rfl:=HE.out;simp only[hlt]
     rotate_left 1
     focus
      have dhlt:decide (i2t<i1t)=false:=decide_eq_false hlt;obtain rfl:=HE.out;simp only[hlt]
 rotate_left 5
 focus
  obtain rfl:=HE.out
 all_goals
  clear HE;simp only[Bool.false_eq_true,if_false,if_true,false_and,true_and,not_true,not_false_eq_true];have m:=mmR hA;have k:=m.out.k;clear hA;go_enter Tryz.func103,Tryz.ntmps103
  go_wp2_with (first|((with_reducible first|refine cM (HK.out _) ?_|refine cM (HY.out _) ?_|refine cM (H1.out _) ?_|refine cM (H2.out _) ?_|refine wU ?_);clear k m;intro w m k)|((with_reducible refine lE (fun w o g k K hK=>⟨rfl,?_⟩));simp[results,Tryz.results103,go_sem,k];refine hK _ ?_;exact⟨rfl,o⟩))
end
section
open Go.Lib (hid)
set_option maxRecDepth 100000
set_option maxHeartbeats 16000000
open Go.RowKit Go.Sort
theorem qSGrow (s:Smp) (now tol:Int) (w:World) :
  Calls Tryz.prog 237 #[smV s,.int .i64 now,.int .i64 tol] w fun e w'=>e=.returned (.tuple #[smV (sgrow s now tol).1,.int .i64 (sgrow s now tol).2])∧Only [] w w':=by
 obtain⟨a,b,c,d⟩:=s;have HK:=hid (fun w'=>qSChk ⟨a,b,c,d⟩ w');have HT:=hid (fun w'=>qIsTime now w');have HL:=hid (fun w'=>qIsTol tol w');have hb:=fun h=>schk_ok.1 (show schk ⟨a,b,c,d⟩=0 from h);have hor:=schk_or ⟨a,b,c,d⟩;have hbn:=fun h=>wth_iff.1 (show isT now=true from h);have hbt:=fun h=>wth_iff.1 (show isTl tol=true from h);obtain⟨res,HE⟩:∃ zz,Hid (sgrow ⟨a,b,c,d⟩ now tol=zz):=⟨_,hid rfl⟩;rw[HE.out];unfold sgrow at HE;dsimp only at HE hb;generalize schk ⟨a,b,c,d⟩=er at HK HE hb hor;generalize isT now=tn at HT HE hbn;generalize isTl tol=tt at HL HE hbt;unfold smV at HK ⊢;dsimp only at HK ⊢;rcases hor with rfl|rfl
 focus
  cases tn
  focus
   obtain rfl:res=(sm0,3):=by have:=HE.out;simpa using this.symm
  rotate_left 1
  focus
   cases tt
   focus
    obtain rfl:res=(sm0,3):=by have:=HE.out;simpa using this.symm
   rotate_left 1
   focus
    by_cases hlt:now<d
    focus
     have dhlt:decide (now<d)=true:=decide_eq_true hlt;obtain rfl:res=(sm0,12):=by have:=HE.out;simpa [hlt] using this.symm
    rotate_left 1
    focus
     have dhlt:decide (now<d)=false:=decide_eq_false hlt;obtain⟨-,-,b3,b4⟩:=hb rfl;have c1:=hbn rfl;have c2:=hbt rfl;have HG:=hid (fun w'=>qGrowth (now-d) tol (by omega) (by omega) c2.1 c2.2 w');have gb:=grw_bd (d:=now-d) (tol:=tol) (by omega) (by omega) c2.1 c2.2;have HC2:=hid (fun w'=>qSChk ⟨a,b,c+grwS (now-d) tol,now⟩ w');have r1:IntKind.i64.wrap (now-d)=now-d:=by rw[IntKind.wrap_i64];omega
     have r2:IntKind.i64.wrap (c+grwS (now-d) tol)=c+grwS (now-d) tol:=by rw[IntKind.wrap_i64];omega
     rw[if_pos rfl,if_pos (by decide),if_neg hlt] at HE;have ho2:=schk_or ⟨a,b,c+grwS (now-d) tol,now⟩;generalize schk ⟨a,b,c+grwS (now-d) tol,now⟩=e2 at HC2 HE ho2;unfold smV at HC2;dsimp only at HC2;generalize grwS (now-d) tol=gg at HG HC2 HE r2;clear b3 b4 c1 c2 gb hlt;rcases ho2 with rfl|rfl
     focus
      rw[if_pos rfl] at HE;obtain rfl:=HE.out
     rotate_left 1
     focus
      rw[if_neg (by decide)] at HE;obtain rfl:=HE.out
 rotate_left 5
 focus
  obtain rfl:res=(sm0,3):=by have:=HE.out;simpa using this.symm
 all_goals
  clear hb hbn hbt HE;try unfold sm0
  have m:=mm0 w [];have k:=m.out.k;go_enter Tryz.func237,Tryz.ntmps237
  go_wp2_with (first|((with_reducible first|refine cM (HK.out _) ?_|refine cM (HT.out _) ?_|refine cM (HL.out _) ?_|refine cM (HG.out _) ?_|refine cM (HC2.out _) ?_|refine wU ?_);clear k m;intro w m k)|((with_reducible refine rG (id:=5) [0,1,2,3,4,5,6,7,8,9] [10] (by kernel_rfl) (by kernel_rfl) ?_);simp only[pick,List.map_cons,List.map_nil,List.getD_cons_succ,List.getD_cons_zero];(repeat' (first|go_big_quiet_step (with_reducible first|exact gX (HK.out _)|exact gX (HT.out _)|exact gX (HL.out _)|exact gX (HG.out _)|exact gX (HC2.out _))|(refine wpQuiet_step (fun K hK=>?_);go_simp;(first|(refine hK _ ?_;clear hK K)|(split<;>(refine hK _ ?_;clear hK K))))));all_goals (refine wpQuiet_nil ?_;clear k m;intro w m k))|((with_reducible refine lE (fun w o g k K hK=>⟨rfl,?_⟩));simp[results,Tryz.results237,go_sem,k];refine hK _ ?_;exact⟨rfl,o⟩))
theorem qSOf (q:Qd) (prec tol:Int) (w:World) :
  Calls Tryz.prog 63 #[.agg #[.int .i64 q.t1,.int .i64 q.t2,.int .i64 q.t3,.int .i64 q.t4],.int .i64 prec,.int .i64 tol] w fun e w'=>e=.returned (.tuple #[smV (sof q prec tol).1,.int .i64 (sof q prec tol).2])∧Only [] w w':=by
 obtain⟨t1,t2,t3,t4⟩:=q;obtain⟨res,HE⟩:∃ zz,Hid (sof ⟨t1,t2,t3,t4⟩ prec tol=zz):=⟨_,hid rfl⟩;rw[HE.out];unfold sof sofR at HE;dsimp only at HE;have H1:=hid (fun w'=>qIsTime t1 w');have hb1:=fun h=>wth_iff.1 (show isT t1=true from h);generalize isT t1=x1 at H1 HE hb1;have H2:=hid (fun w'=>qIsTime t2 w');have hb2:=fun h=>wth_iff.1 (show isT t2=true from h);generalize isT t2=x2 at H2 HE hb2;have H3:=hid (fun w'=>qIsTime t3 w');have hb3:=fun h=>wth_iff.1 (show isT t3=true from h);generalize isT t3=x3 at H3 HE hb3;have H4:=hid (fun w'=>qIsTime t4 w');have hb4:=fun h=>wth_iff.1 (show isT t4=true from h);generalize isT t4=x4 at H4 HE hb4;have H5:=hid (fun w'=>qIsTol tol w');have hb5:=fun h=>wth_iff.1 (show isTl tol=true from h);generalize isTl tol=x5 at H5 HE hb5;unfold smV;by_cases ht:(x1 && (x2 && (x3 && x4)))=true
 focus
  rw[if_pos ht] at HE;simp only[Bool.and_eq_true] at ht;obtain⟨rfl,rfl,rfl,rfl⟩:=ht;obtain⟨a1,a2⟩:=hb1 rfl;obtain⟨a3,a4⟩:=hb2 rfl;obtain⟨a5,a6⟩:=hb3 rfl;obtain⟨a7,a8⟩:=hb4 rfl;by_cases p1:prec<1
  focus
   have dp1:decide (prec<1)=true:=decide_eq_true p1;have hw:wth prec 1 1000000000=false:=by rw[wth_no];omega
   obtain rfl:res=(sm0,3):=by have:=HE.out;simpa [hw] using this.symm
  rotate_left 1
  focus
   have dp1:decide (prec<1)=false:=decide_eq_false p1;by_cases p2:1000000000<prec
   focus
    have dp2:decide (1000000000<prec)=true:=decide_eq_true p2;have hw:wth prec 1 1000000000=false:=by rw[wth_no];omega
    obtain rfl:res=(sm0,3):=by have:=HE.out;simpa [hw] using this.symm
   rotate_left 1
   focus
    have dp2:decide (1000000000<prec)=false:=decide_eq_false p2;have hw:wth prec 1 1000000000=true:=by rw[wth_iff];omega
    cases x5
    focus
     obtain rfl:res=(sm0,3):=by have:=HE.out;simpa [hw] using this.symm
    rotate_left 1
    focus
     obtain⟨l0,l1'⟩:=hb5 rfl;by_cases o1:t4<t1
     focus
      have do1:decide (t4<t1)=true:=decide_eq_true o1;obtain rfl:res=(sm0,12):=by have:=HE.out;simpa [hw,o1] using this.symm
     rotate_left 1
     focus
      have do1:decide (t4<t1)=false:=decide_eq_false o1;by_cases o2:t3<t2
      focus
       have do2:decide (t3<t2)=true:=decide_eq_true o2;obtain rfl:res=(sm0,12):=by have:=HE.out;simpa [hw,o2] using this.symm
      rotate_left 1
      focus
       have do2:decide (t3<t2)=false:=decide_eq_false o2;have hspn:0≤t4-t1:=by omega
       replace HE:Hid (res=(if schk ⟨((t2-t1)+(t3-t4)) / 2,max prec (t4-t1-(t3-t2)),prec+grwS (t4-t1) tol,t4⟩=0 then (⟨((t2-t1)+(t3-t4)) / 2,max prec (t4-t1-(t3-t2)),prec+grwS (t4-t1) tol,t4⟩,0) else (sm0,3))):=hid (by have:=HE.out;simpa [hw,o1,o2] using this.symm);obtain⟨sp,hsp⟩:∃ x,t4-t1=x:=⟨_,rfl⟩;obtain⟨u1,hu1⟩:∃ x,t2-t1=x:=⟨_,rfl⟩;obtain⟨u2,hu2⟩:∃ x,t3-t4=x:=⟨_,rfl⟩;obtain⟨u3,hu3⟩:∃ x,t3-t2=x:=⟨_,rfl⟩;obtain⟨u4,hu4⟩:∃ x,u1+u2=x:=⟨_,rfl⟩;obtain⟨u5,hu5⟩:∃ x,sp-u3=x:=⟨_,rfl⟩;obtain⟨dl,hdl⟩:∃ x,max prec u5=x:=⟨_,rfl⟩;rw[hsp,hu1,hu2,hu3,hu4,hu5,hdl] at HE;have hgb:=grw_bd (d:=sp) (tol:=tol) (by omega) (by omega) l0 l1';have HG:=hid (fun w'=>qGrowth sp tol (by omega) (by omega) l0 l1' w');generalize grwS sp tol=g at HE HG hgb;obtain⟨ds,hds⟩:∃ ds,prec+g=ds:=⟨_,rfl⟩;obtain⟨of,hof⟩:∃ of,u4 / 2=of:=⟨_,rfl⟩;have HF:=hid (fun w'=>o_same (rfloor u4 2 w' (by omega) (by omega) (by omega) (by omega)));rw[hof] at HE HF;rw[hds] at HE;have r1:IntKind.i64.wrap (t4-t1)=sp:=by rw[IntKind.wrap_i64];omega
       have r2:IntKind.i64.wrap (t2-t1)=u1:=by rw[IntKind.wrap_i64];omega
       have r3:IntKind.i64.wrap (t3-t4)=u2:=by rw[IntKind.wrap_i64];omega
       have r4:IntKind.i64.wrap (t3-t2)=u3:=by rw[IntKind.wrap_i64];omega
       have r5:IntKind.i64.wrap (u1+u2)=u4:=by rw[IntKind.wrap_i64];omega
       have r6:IntKind.i64.wrap (sp-u3)=u5:=by rw[IntKind.wrap_i64];omega
       have r7:IntKind.i64.wrap (prec+g)=ds:=by rw[IntKind.wrap_i64];omega
       have HC:=hid (fun w'=>qSChk ⟨of,dl,ds,t4⟩ w');have hor:=schk_or ⟨of,dl,ds,t4⟩;generalize schk ⟨of,dl,ds,t4⟩=er at HC HE hor;unfold smV at HC;dsimp only at HC;have hdl2:(u5<prec∧dl=prec)∨(¬ u5<prec∧dl=u5):=by omega
       clear hsp hu1 hu2 hu3 hu4 hu5 hgb hds hof l0 l1' hspn hdl p1 p2 o1 o2 hw a1 a2 a3 a4 a5 a6 a7 a8;rcases hdl2 with ⟨hx,rfl⟩|⟨hx,rfl⟩
       focus
        have dx:=decide_eq_true hx;clear hx;rcases hor with rfl|rfl
        focus
         obtain rfl:=HE.out;simp only[reduceIte]
        rotate_left 1
        focus
         obtain rfl:res=(sm0,3):=by have:=HE.out;simpa using this
       rotate_left 2
       focus
        have dx:=decide_eq_false hx;clear hx;rcases hor with rfl|rfl
        focus
         obtain rfl:=HE.out;simp only[reduceIte]
        rotate_left 1
        focus
         obtain rfl:res=(sm0,3):=by have:=HE.out;simpa using this
 rotate_left 9
 focus
  obtain rfl:res=(sm0,3):=by rw[if_neg ht] at HE;exact HE.out.symm
  cases x1<;>cases x2<;>cases x3<;>cases x4
  all_goals first|(exfalso;exact ht rfl)|clear ht
 all_goals
  try unfold sm0
  try clear hb1 hb2 hb3 hb4 hb5
  try clear HE
  have m:=mm0 w [];have k:=m.out.k;go_enter Tryz.func63,Tryz.ntmps63
  go_wp2_with (first|((with_reducible first|refine cM (H1.out _) ?_|refine cM (H2.out _) ?_|refine cM (H3.out _) ?_|refine cM (H4.out _) ?_|refine cM (H5.out _) ?_|refine cM (HF.out _) ?_|refine cM (HC.out _) ?_|refine wU ?_);clear k m;intro w m k)|((with_reducible refine rA (id:=9) [0,1,2,3,4,5,6,7,8,9,10,11,12,13] [] 14 [15] (by kernel_rfl) (by kernel_rfl) ?_);simp only[pick,List.map_cons,List.map_nil,List.getD_cons_succ,List.getD_cons_zero];(repeat (first|(refine wpCalmG_step (fun K hK=>?_);go_simp;refine hK _ ?_;clear hK K)|(refine cG (by kernel_rfl) ⟨_,_,_,?_,fun w' o=>HG.out w',?_⟩;(focus (intro w;go_simp;done)))));refine wpCalmG_nil ?_;(repeat (refine wpCalm_step (fun K hK=>?_);go_simp;refine hK _ ?_;clear hK K));refine wpCalm_nil ?_;clear k m;intro w o m k;refine wpOp_one rfl ?_;go_wp2;simp only[nrm];refine⟨o.alloc _,tW ?_⟩;clear o;clear k m;intro w m k;unfold wpTail;refine wpOp_one rfl ?_;go_wp2;simp only[nrm];refine tW ?_;clear k m;intro w m k;unfold wpTail)|((with_reducible refine lE (fun w o g k K hK=>⟨rfl,?_⟩));simp[results,Tryz.results63,go_sem,k];refine hK _ ?_;exact⟨rfl,o⟩))
theorem qJoin (p:Np) (s:Smp) (id:Int) (hp:npOk p) (w:World) :
  Calls Tryz.prog 65 #[npV p,smV s,.int .u32 id] w fun e w'=>e=.returned (.tuple #[roV (ojoin p s id).1,.int .i64 (ojoin p s id).2])∧Only [] w w':=by
 obtain⟨⟨n1,n2⟩,⟨n3,n4⟩,-⟩:=hp;obtain⟨p1,p2,p3,p4,p5,p6,p7,p8,p9,pa,pb,pc,pd⟩:=p;obtain⟨a,b,c,d⟩:=s;dsimp only at n1 n2 n3 n4;have HN:=hid (fun w'=>qNChk ⟨p1,p2,p3,p4,p5,p6,p7,p8,p9,pa,pb,pc,pd⟩ w');have HY:=hid (fun w'=>qNSync ⟨p1,p2,p3,p4,p5,p6,p7,p8,p9,pa,pb,pc,pd⟩ w');have HS:=hid (fun w'=>qSChk ⟨a,b,c,d⟩ w');have hsb:=fun h=>schk_ok.1 (show schk ⟨a,b,c,d⟩=0 from h)
 have hnb:nchk ⟨p1,p2,p3,p4,p5,p6,p7,p8,p9,pa,pb,pc,pd⟩=0→0≤p4∧p4≤255:=fun h=>by
  unfold nchk at h;split at h
  ·rename_i g;simp only[Bool.and_eq_true,wth_iff] at g;omega
  ·exact absurd h (by decide)
 have HL7:=hid (fun w'=>qLong p7 n1 n2 w');have HL8:=hid (fun w'=>qLong p8 n3 n4 w');have l7:=lng_bd n1 n2;have l8:=lng_bd n3 n4;obtain⟨res,HE⟩:∃ zz,Hid (ojoin ⟨p1,p2,p3,p4,p5,p6,p7,p8,p9,pa,pb,pc,pd⟩ ⟨a,b,c,d⟩ id=zz):=⟨_,hid rfl⟩;rw[HE.out];unfold ojoin joinR at HE;dsimp only at HE hsb;have HO:=hid (fun w'=>qRight ⟨p4+1,lngS p7+b,lngS p8+c+max a (-a),id⟩ w');generalize hoe:ochk ⟨p4+1,lngS p7+b,lngS p8+c+max a (-a),id⟩=eo at HO HE;have hoo:eo=0∨eo=3:=by rw[←hoe];unfold ochk;split<;>simp
 clear hoe;have hno:nchk ⟨p1,p2,p3,p4,p5,p6,p7,p8,p9,pa,pb,pc,pd⟩=0∨nchk ⟨p1,p2,p3,p4,p5,p6,p7,p8,p9,pa,pb,pc,pd⟩=3:=by unfold nchk;split<;>simp
 have hso:=schk_or ⟨a,b,c,d⟩;generalize nchk ⟨p1,p2,p3,p4,p5,p6,p7,p8,p9,pa,pb,pc,pd⟩=en at HN HE hnb hno;generalize nsync ⟨p1,p2,p3,p4,p5,p6,p7,p8,p9,pa,pb,pc,pd⟩=sy at HY HE;generalize schk ⟨a,b,c,d⟩=es at HS HE hsb hso;unfold npV at HN HY ⊢;unfold smV at HS ⊢;unfold roV at HO ⊢;dsimp only at HN HY HS HE ⊢;by_cases hok:en=0∧es=0∧sy=true
 focus
  obtain⟨rfl,rfl,rfl⟩:=hok;obtain⟨s1,s2,s3,s4⟩:=hsb rfl;have s0:=hnb rfl;rw[if_pos ⟨rfl,rfl⟩,if_pos rfl] at HE;have r1:IntKind.i64.wrap (p4+1)=p4+1:=by rw[IntKind.wrap_i64];omega
  have r2:IntKind.i64.wrap (lngS p7+b)=lngS p7+b:=by rw[IntKind.wrap_i64];omega
  have r3:IntKind.i64.wrap (lngS p8+c)=lngS p8+c:=by rw[IntKind.wrap_i64];omega
  have r4:IntKind.i64.wrap (-a)= -a:=by rw[IntKind.wrap_i64];omega
  have r5:IntKind.i64.wrap (lngS p8+c+max a (-a))=lngS p8+c+max a (-a):=by rw[IntKind.wrap_i64];omega
  clear hnb hsb hno hso s0 s1 s2 s3 s4 l7 l8 n1 n2 n3 n4;generalize lngS p7=g7 at *;generalize lngS p8=g8 at *;rcases hoo with rfl|rfl
  focus
   rw[if_pos rfl] at HE;simp only[reduceIte] at HO;obtain rfl:=HE.out
  rotate_left 1
  focus
   rw[if_neg (by decide)] at HE;simp only[Int.reduceEq,if_false] at HO;obtain rfl:=HE.out
 rotate_left 2
 focus
  rcases hno with rfl|rfl<;>rcases hso with rfl|rfl<;>cases sy
  all_goals first|(exfalso;exact hok ⟨rfl,rfl,rfl⟩)|clear hok
  all_goals
   have he:=HE.out;simp at he;subst he
 all_goals
  try clear hnb hsb l7 l8 hoo HO n1 n2 n3 n4 HL7 HL8
  clear HE;try unfold ro0
  try unfold ro0 at HO
  try dsimp only
  have m:=mm0 w [];have k:=m.out.k;go_enter Tryz.func65,Tryz.ntmps65
  go_wp2_with (first|((with_reducible first|refine cM (HN.out _) ?_|refine cM (HS.out _) ?_|refine cM (HY.out _) ?_|refine cM (HL7.out _) ?_|refine cM (HL8.out _) ?_|refine cM (HO.out _) ?_|refine wU ?_);clear k m;intro w m k)|((with_reducible refine rG (id:=5) [0,1,2,3,4,5,6,7,8,9,10,11,12,13,14,15,16,17,18,19,20,21,22,23,24,25,26] [27,28] (by kernel_rfl) (by kernel_rfl) ?_);simp only[pick,List.map_cons,List.map_nil,List.getD_cons_succ,List.getD_cons_zero];(repeat' (first|go_big_quiet_step (with_reducible first|exact gX (HN.out _)|exact gX (HS.out _)|exact gX (HY.out _)|exact gX (HL7.out _)|exact gX (HL8.out _)|exact gX (HO.out _))|(refine wpQuiet_step (fun K hK=>?_);go_simp;(first|(refine hK _ ?_;clear hK K)|(split<;>(refine hK _ ?_;clear hK K))))));all_goals (refine wpQuiet_nil ?_;clear k m;intro w m k))|((with_reducible refine lE (fun w o g k K hK=>⟨rfl,?_⟩));simp[results,Tryz.results65,go_sem,k];refine hK _ ?_;exact⟨rfl,o⟩))
end
end Go.Proofs.YtedgpfgccpnjnaaGreat
