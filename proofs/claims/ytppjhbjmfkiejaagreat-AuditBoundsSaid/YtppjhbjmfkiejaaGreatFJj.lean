/- Texts of one chain: E1, E3. Conditions: those named in each theorem. -/
import Derived.Test.YtppjhbjmfkiejaaGreatFJa
import Derived.Test.YtppjhbjmfkiejaaGreatFV6
import Derived.Test.YtppjhbjmfkiejaaGreatFJc
namespace Go.Proofs.YtppjhbjmfkiejaaGreat
open List (getD_cons_succ getD_cons_zero map_cons map_nil)
open IntKind (wrap_i64)
open Go.Lib (hid)
set_option maxRecDepth 100000
set_option maxHeartbeats 4000000
section
open Go.RowKit
theorem YB (raw time ppb steps r:Int) (hr:raw<=r) (h1:r-raw<=9007199254740992) (h2: -500000<=ppb) (h3:ppb<=500000) (h4: -4503599627370496<=time) (h5:time<=4503599627370496) (w:World) :
  Calls Tryz.prog 307 #[.agg #[.int .i64 raw,.int .i64 time,.int .i64 ppb,.int .i64 0,.int .i64 0,.int .i64 steps],.int .i64 r] w fun e w'=>e=.returned (.agg #[.int .i64 r,.int .i64 (time+(r-raw)+(r-raw)*ppb / 1000000000),.int .i64 ppb,.int .i64 0,.int .i64 0,.int .i64 steps])/\Only [] w w':=by
 obtain⟨d,hd⟩:∃ d,r-raw=d:=⟨_,rfl⟩;have r1:IntKind.i64.wrap (r-raw)=d:=by rw[wrap_i64];omega
 rw[hd];have H1:=hid (X0 raw time ppb steps d (by omega) (by omega) h2 h3 h4 h5);have H2:=hid (pPart d 0 (by omega) (by omega) (by omega) (by omega));rw[Int.mul_zero,Int.zero_ediv] at H2;generalize time+d+d*ppb / 1000000000=t at H1 |-;clear hr h1 h2 h3 h4 h5 hd;have m:=bJ w [];have k:=m.out.k;go_enter Tryz.func307,Tryz.ntmps307
 go_wp2_with (first|((with_reducible first|refine cM (H1.out _) ?_|refine cM (H2.out _) ?_|refine wU ?_);clear k m;intro w m k)|((with_reducible refine lF (fun w k=>⟨rfl,?_⟩));simp[results,Tryz.results307,go_sem,k]))
theorem pFreq1 {w:World} {bs bp:Nat} {raw time ppb p steps:Int} (hs:w.heap[bs]? = some (.cells #[.int .i64 raw,.int .i64 time,.int .i64 ppb,.int .i64 0,.int .i64 0,.int .i64 steps] 213 (0,0))) (hp:w.heap[bp]? = some (.cells #[.int .i64 p] 3 (0,0))) (hn:bs≠bp)  :
  Calls Tryz.prog 294 #[.pointer (some ⟨bs,0,none⟩),.pointer (some ⟨bp,0,none⟩)] w fun e w'=>e=.returned (.int .i64 0)/\w'.heap[bs]? = some (.cells #[.int .i64 raw,.int .i64 time,.int .i64 p,.int .i64 0,.int .i64 0,.int .i64 steps] 213 (0,0))/\Only [bs] w w':=by
 have m:Mm w [bs] w _:=⟨((Mem.start w [bs]).ext false hp (by simp) (by simp)).ext true hs (by simpa using hn) (by simp)⟩;have k:=m.out.k;clear hs hp hn;go_enter Tryz.func294,Tryz.ntmps294
 go_wp2_with (first|((with_reducible refine wU ?_);clear k m;intro w m k)|((with_reducible refine lE (fun w o g k K hK=>⟨rfl,?_⟩));simp[results,Tryz.results294,go_sem];refine hK _ ?_;exact⟨rfl,Has.h w g,o⟩))
def st1 (time delta steps:Int):Int × Int × Int:=if fI (time+delta)=true then (if steps=9223372036854775807 then (4,time,steps) else (0,time+delta,steps+1)) else (3,time,steps)
theorem pStep1 {w:World} {bs bp:Nat} {raw time ppb d steps:Int} (hs:w.heap[bs]? = some (.cells #[.int .i64 raw,.int .i64 time,.int .i64 ppb,.int .i64 0,.int .i64 0,.int .i64 steps] 213 (0,0))) (hp:w.heap[bp]? = some (.cells #[.int .i64 d] 3 (0,0))) (hn:bs≠bp) (h0: -9007199254740992<=time+d) (h1:time+d<=9007199254740992) (h2:0<=steps) (h3:steps<=9223372036854775807)  :
  Calls Tryz.prog 293 #[.pointer (some ⟨bs,0,none⟩),.pointer (some ⟨bp,0,none⟩)] w fun e w'=>e=.returned (.int .i64 (st1 time d steps).1)/\w'.heap[bs]? = some (.cells #[.int .i64 raw,.int .i64 (st1 time d steps).2.1,.int .i64 ppb,.int .i64 0,.int .i64 0,.int .i64 (st1 time d steps).2.2] 213 (0,0))/\Only [bs] w w':=by
 obtain⟨t,ht⟩:∃ t,time+d=t:=⟨_,rfl⟩;have r1:IntKind.i64.wrap (time+d)=t:=by rw[wrap_i64];omega
 have HW:=hid (jK t 4503599627370496 (by omega) (by omega));obtain⟨res,HE⟩:∃ q,Hid (st1 time d steps=q):=⟨_,hid rfl⟩;rw[HE.out];unfold st1 fI at HE;rw[ht] at HE;generalize bT t (-4503599627370496) 4503599627370496=x at HW HE;clear h0 h1 ht;have go:x=true->steps≠9223372036854775807->IntKind.i64.wrap (steps+1)=steps+1:=fun _ _=>by rw[wrap_i64];omega
 cases x
 rotate_left
 by_cases hz:steps=9223372036854775807
 rotate_left
 have r2:=go rfl hz;all_goals clear go h2 h3
 all_goals have m:Mm w [bs] w _:=⟨((Mem.start w [bs]).ext false hp (by simp) (by simp)).ext true hs (by simpa using hn) (by simp)⟩;have k:=m.out.k;clear hs hp hn
 all_goals go_enter Tryz.func293,Tryz.ntmps293
 all_goals go_wp2_with (first|((with_reducible first|refine cM (HW.out _) ?_|refine wU ?_);clear k m;intro w m k)|((with_reducible refine rG (id:=1) [0,1,2,3,4,5,6,7] [] (by kernel_rfl) (by kernel_rfl) ?_);simp only[pick,map_cons,map_nil,getD_cons_succ,getD_cons_zero];(repeat' (first|go_big_quiet_step (with_reducible first|exact gX (HW.out _))|(refine wpQuiet_step (fun K hK=>?_);go_simp;(first|(refine hK _ ?_;clear hK K)|(split<;>(refine hK _ ?_;clear hK K))))));all_goals (refine wpQuiet_nil ?_;clear k m;intro w m k))|((with_reducible refine rG (id:=5) [0,1,2,3,4,5,6,7] [8] (by kernel_rfl) (by kernel_rfl) ?_);simp only[pick,map_cons,map_nil,getD_cons_succ,getD_cons_zero];(repeat' (first|go_big_quiet_step (with_reducible first|exact gX (HW.out _))|(refine wpQuiet_step (fun K hK=>?_);go_simp;(first|(refine hK _ ?_;clear hK K)|(split<;>(refine hK _ ?_;clear hK K))))));all_goals (refine wpQuiet_nil ?_;clear k m;intro w m k))|((with_reducible refine lE (fun w o g k K hK=>⟨rfl,?_⟩));simp[results,Tryz.results293,go_sem];refine hK _ ?_;clear hK K k;rw[<-HE.out];(go_tidy;grind)))
theorem qJ {c:Ck} {r:Int} (h:(eB c r).2=0):c.raw<=r/\r<=4503599627370496/\fI (fT c r)=true/\eB c r=(fT c r,0):=by
 unfold eB at h |-;split at h
 ·exact absurd h (by decide)
 ·split at h
  ·exact absurd h (by decide)
  ·split at h
   ·rename_i h1 h2 h3
    exact⟨by omega,by omega,h3,by rw[if_neg h1,if_neg h2,if_pos h3]⟩
   ·exact absurd h (by decide)
def lC (c:Ck) (r ppb:Int):Int × Ck:=if (eB c r).2=0 then (0,⟨r,fT c r,ppb,c.steps⟩) else ((eB c r).2,c)
def iY (c:Ck) (r d:Int):Int × Ck:=if (eB c r).2=0 then (if (st1 (fT c r) d c.steps).1=0 then (0,⟨r,(st1 (fT c r) d c.steps).2.1,c.ppb,(st1 (fT c r) d c.steps).2.2⟩) else ((st1 (fT c r) d c.steps).1,c)) else ((eB c r).2,c)
theorem YV {w:World} {b bp:Nat} {c:Ck} {x:Int} (hc:kI w b c) (hok:iX c) (r:Int) (h0: -9223372036854775808<=r) (h1:r<=9223372036854775807) (hp:w.heap[bp]? = some (.cells #[.int .i64 x] 3 (0,0))) (hn:b≠bp)  :
  Calls Tryz.prog 292 #[.pointer (some ⟨b,0,none⟩),.int .i64 r,.bool true,.func (.func 294) #[] #[.pointer (some ⟨bp,0,none⟩)]] w fun e w'=>e=.returned (.int .i64 (lC c r x).1)/\kI w' b (lC c r x).2/\Only [b] w w':=by
 have H1:=hid (fun (w':World) (h:kI w' b c)=>YW h hok r h0 h1);have HK:=hid hok;obtain⟨res,HE⟩:∃ q,Hid (lC c r x=q):=⟨_,hid rfl⟩;rw[HE.out];unfold lC at HE;unfold kI at hc H1 |-;clear hok;have hx:=qJ (c:=c) (r:=r);obtain⟨raw,time,ppb,steps⟩:=c;dsimp only at hc H1 HE |-;have m:Mm w [b] w _:=⟨((Mem.start w [b]).ext false hp (by simp) (by simp)).ext true hc (by simpa using hn) (by simp)⟩;have k:=m.out.k;clear hc hp hn;obtain⟨q1,q2⟩:∃ a,eB ⟨raw,time,ppb,steps⟩ r=a:=⟨_,rfl⟩;rw[q2] at H1 HE hx;obtain⟨nv,ne⟩:=q1;dsimp only at H1 HE hx;clear q2;by_cases hz:ne=0
 ·subst hz
  obtain⟨q1,q2,q3,q4⟩:=hx rfl;obtain rfl:nv=fT ⟨raw,time,ppb,steps⟩ r:=by simpa using q4
  have HT:=hid (aW.1 (show bT (fT ⟨raw,time,ppb,steps⟩ r) (-4503599627370496) 4503599627370496=true from q3));have HM:=hid (YB raw time ppb steps r q1 (by have:=HK.out.r0;dsimp only at this;omega) HK.out.p0 HK.out.p1 HK.out.t0 HK.out.t1);rw[show time+(r-raw)+(r-raw)*ppb / 1000000000=fT ⟨raw,time,ppb,steps⟩ r from rfl] at HM;generalize fT ⟨raw,time,ppb,steps⟩ r=t at HE HM HT H1;clear q1 q2 q3 q4 h0 h1 hx;have HF:=hid (fun (w2:World) (bs:Nat) hs hp hn=>pFreq1 (w:=w2) (bs:=bs) (bp:=bp) (raw:=r) (time:=t) (ppb:=ppb) (p:=x) (steps:=steps) hs hp hn);go_enter Tryz.func292,Tryz.ntmps292
  go_wp2_with (first|((with_reducible first|refine cU ?_|refine cM (H1.out _ gB) ?_|refine cM (HM.out _) ?_|refine cP (HF.out w _ gB gB (gN w)) ?_|refine wU ?_);clear k m;intro w m k)|((with_reducible refine lE (fun w o g k K hK=>⟨rfl,?_⟩));simp[results,Tryz.results292,go_sem];refine hK _ ?_;clear hK K k;rw[<-HE.out];(go_tidy;grind)))
 ·clear hx h0 h1
  go_enter Tryz.func292,Tryz.ntmps292
  go_wp2_with (first|((with_reducible first|refine cM (H1.out _ gB) ?_|refine wU ?_);clear k m;intro w m k)|((with_reducible refine lE (fun w o g k K hK=>⟨rfl,?_⟩));simp[results,Tryz.results292,go_sem];refine hK _ ?_;clear hK K k;rw[<-HE.out];(go_tidy;grind)))
theorem YU {w:World} {b bp:Nat} {c:Ck} {x:Int} (hc:kI w b c) (hok:iX c) (r:Int) (h0: -9223372036854775808<=r) (h1:r<=9223372036854775807) (hp:w.heap[bp]? = some (.cells #[.int .i64 x] 3 (0,0))) (hn:b≠bp) (x0: -4503599627370496<=x) (x1:x<=4503599627370496)  :
  Calls Tryz.prog 292 #[.pointer (some ⟨b,0,none⟩),.int .i64 r,.bool true,.func (.func 293) #[] #[.pointer (some ⟨bp,0,none⟩)]] w fun e w'=>e=.returned (.int .i64 (iY c r x).1)/\kI w' b (iY c r x).2/\Only [b] w w':=by
 have H1:=hid (fun (w':World) (h:kI w' b c)=>YW h hok r h0 h1);have HK:=hid hok;obtain⟨res,HE⟩:∃ q,Hid (iY c r x=q):=⟨_,hid rfl⟩;rw[HE.out];unfold iY at HE;unfold kI at hc H1 |-;clear hok;have hx:=qJ (c:=c) (r:=r);obtain⟨raw,time,ppb,steps⟩:=c;dsimp only at hc H1 HE |-;have m:Mm w [b] w _:=⟨((Mem.start w [b]).ext false hp (by simp) (by simp)).ext true hc (by simpa using hn) (by simp)⟩;have k:=m.out.k;clear hc hp hn;obtain⟨q1,q2⟩:∃ a,eB ⟨raw,time,ppb,steps⟩ r=a:=⟨_,rfl⟩;rw[q2] at H1 HE hx;obtain⟨nv,ne⟩:=q1;dsimp only at H1 HE hx;clear q2;by_cases hz:ne=0
 ·subst hz
  obtain⟨q1,q2,q3,q4⟩:=hx rfl;obtain rfl:nv=fT ⟨raw,time,ppb,steps⟩ r:=by simpa using q4
  have HT:=hid (aW.1 (show bT (fT ⟨raw,time,ppb,steps⟩ r) (-4503599627370496) 4503599627370496=true from q3));have HM:=hid (YB raw time ppb steps r q1 (by have:=HK.out.r0;dsimp only at this;omega) HK.out.p0 HK.out.p1 HK.out.t0 HK.out.t1);rw[show time+(r-raw)+(r-raw)*ppb / 1000000000=fT ⟨raw,time,ppb,steps⟩ r from rfl] at HM;generalize fT ⟨raw,time,ppb,steps⟩ r=t at HE HM HT H1;clear q1 q2 q3 q4 h0 h1 hx;have HF:=hid (fun (w2:World) (bs:Nat) hs hp hn=>pStep1 (w:=w2) (bs:=bs) (bp:=bp) (raw:=r) (time:=t) (ppb:=ppb) (d:=x) (steps:=steps) hs hp hn (by have:=HT.out;omega) (by have:=HT.out;omega) HK.out.s0 HK.out.s1);generalize st1 t x steps=so at HE HF;obtain⟨s1,s2,s3⟩:=so;dsimp only at HE HF;clear x0 x1;go_enter Tryz.func292,Tryz.ntmps292
  go_wp2_with (first|((with_reducible first|refine cU ?_|refine cM (H1.out _ gB) ?_|refine cM (HM.out _) ?_|refine cP (HF.out w _ gB gB (gN w)) ?_|refine wU ?_);clear k m;intro w m k)|((with_reducible refine lE (fun w o g k K hK=>⟨rfl,?_⟩));simp[results,Tryz.results292,go_sem];refine hK _ ?_;clear hK K k;rw[<-HE.out];(go_tidy;grind)))
 ·clear hx h0 h1
  go_enter Tryz.func292,Tryz.ntmps292
  go_wp2_with (first|((with_reducible first|refine cM (H1.out _ gB) ?_|refine wU ?_);clear k m;intro w m k)|((with_reducible refine lE (fun w o g k K hK=>⟨rfl,?_⟩));simp[results,Tryz.results292,go_sem];refine hK _ ?_;clear hK K k;rw[<-HE.out];(go_tidy;grind)))
theorem YS {w:World} {b:Nat} {c:Ck} (hc:kI w b c) (hok:iX c) (r:Int) (h0: -9223372036854775808<=r) (h1:r<=9223372036854775807) (x:Int) (x0: -500000<=x) (x1:x<=500000)  :
  Calls Tryz.prog 265 #[.pointer (some ⟨b,0,none⟩),.int .i64 r,.int .i64 x] w fun e w'=>e=.returned (.int .i64 (lC c r x).1)/\kI w' b (lC c r x).2/\Only [b] w w':=by
 have HW:=hid (jK x 500000 (by decide) (by decide));rw[show bT x (-500000) 500000=true from aW.2 ⟨x0,x1⟩] at HW;have HF:=hid (fun (w2:World) (bp:Nat) (hc:kI w2 b c) hp hn=>YV (bp:=bp) (x:=x) hc hok r h0 h1 hp hn);generalize lC c r x=q at HF |-;unfold kI at hc HF |-;obtain⟨raw,time,ppb,steps⟩:=c;obtain⟨q1,⟨q2,q3,q4,q5⟩⟩:=q;dsimp only at hc HF |-;clear hok h0 h1 x0 x1;have m:=kD hc;have k:=m.out.k;clear hc;go_enter Tryz.func265,Tryz.ntmps265
 go_wp2_with (first|((with_reducible first|refine cU ?_|refine cM (HW.out _) ?_|refine cP (HF.out w _ gB gB (gN w)) ?_|refine wU ?_);clear k m;intro w m k)|((with_reducible refine lE (fun w o g k K hK=>⟨rfl,?_⟩));simp[results,Tryz.results265,go_sem];refine hK _ ?_;exact⟨rfl,Has.h w g,o⟩))
theorem YR {w:World} {b:Nat} {c:Ck} (hc:kI w b c) (hok:iX c) (r:Int) (h0: -9223372036854775808<=r) (h1:r<=9223372036854775807) (x:Int) (x0: -4503599627370496<=x) (x1:x<=4503599627370496)  :
  Calls Tryz.prog 264 #[.pointer (some ⟨b,0,none⟩),.int .i64 r,.int .i64 x] w fun e w'=>e=.returned (.int .i64 (iY c r x).1)/\kI w' b (iY c r x).2/\Only [b] w w':=by
 have HW:=hid (jK x 4503599627370496 (by decide) (by decide));rw[show bT x (-4503599627370496) 4503599627370496=true from aW.2 ⟨x0,x1⟩] at HW;have HF:=hid (fun (w2:World) (bp:Nat) (hc:kI w2 b c) hp hn=>YU (bp:=bp) (x:=x) hc hok r h0 h1 hp hn x0 x1);generalize iY c r x=q at HF |-;unfold kI at hc HF |-;obtain⟨raw,time,ppb,steps⟩:=c;obtain⟨q1,⟨q2,q3,q4,q5⟩⟩:=q;dsimp only at hc HF |-;clear hok h0 h1 x0 x1;have m:=kD hc;have k:=m.out.k;clear hc;go_enter Tryz.func264,Tryz.ntmps264
 go_wp2_with (first|((with_reducible first|refine cU ?_|refine cM (HW.out _) ?_|refine cP (HF.out w _ gB gB (gN w)) ?_|refine wU ?_);clear k m;intro w m k)|((with_reducible refine lE (fun w o g k K hK=>⟨rfl,?_⟩));simp[results,Tryz.results264,go_sem];refine hK _ ?_;exact⟨rfl,Has.h w g,o⟩))
theorem TP {w:World} {b:Nat} {c:Ck} (hc:kI w b c)  :
  Calls Tryz.prog 232 #[.pointer (some ⟨b,0,none⟩)] w fun e w'=>e=.returned (.agg #[.int .i64 c.raw,.int .i64 c.time,.int .i64 c.ppb,.int .i64 0,.int .i64 0,.int .i64 c.steps])/\Only [] w w':=by
 unfold kI at hc;have m:=jZ hc;have k:=m.out.k;clear hc;go_enter Tryz.func232,Tryz.ntmps232
 go_wp2_with (first|((with_reducible refine wU ?_);clear k m;intro w m k)|((with_reducible refine lE (fun w o g k K hK=>⟨rfl,?_⟩));simp[results,Tryz.results232,go_sem,k];refine hK _ ?_;exact⟨rfl,o⟩))
end
section
open Go.RowKit
structure Ac where
 kind:Int
 val:Int
deriving DecidableEq,Inhabited
def U2 (a:Ac):Value:=.agg #[.int .i64 a.kind,.int .i64 a.val]
def ZU (k e:Int):Int:=QN (k*e / 65536)
def MB (off span:Int):Int:=if NH (off*1000000000 / span)=true then bX (QN (off*1000000000 / span)) (-1000000000) 1000000000 else if 0<off then 1000000000 else -1000000000
def thS (s:Sv):Int:=if s.smp=0 then s.c.sf else s.c.sl
def itS (s:Sv) (e:Int):Int:=bX (s.itg+ZU s.c.ki e) (-s.c.lim) s.c.lim
def frS (s:Sv) (e i:Int):Int:=bX (ZU s.c.kp e+i) (-s.c.lim) s.c.lim
def JH (s:Sv) (off span:Int):Ac × Sv:=
 if 0<thS s/\thS s<max off (-off) then (⟨2,off⟩,{ s with smp:=wrap64 (s.smp+1) })
 else (⟨1,frS s (MB off span) (itS s (MB off span))⟩,⟨s.c,itS s (MB off span),wrap64 (s.smp+1),frS s (MB off span) (itS s (MB off span))⟩)
def fQ (s:Sv) (off span:Int):Ac × Int × Sv:=if bT off (-1125899906842624) 1125899906842624=true/\bT span 1 1125899906842624=true then ((JH s off span).1,0,(JH s off span).2) else (⟨0,0⟩,3,s)
structure IY (s:Sv):Prop where
 kp0:0<=s.c.kp
 kp1:s.c.kp<=1048576
 ki0:0<=s.c.ki
 ki1:s.c.ki<=1048576
 l0:1<=s.c.lim
 l1:s.c.lim<=500000
 sf:0<=s.c.sf/\s.c.sf<=1125899906842624
 sl:0<=s.c.sl/\s.c.sl<=1125899906842624
 i0: -s.c.lim<=s.itg
 i1:s.itg<=s.c.lim
theorem rH {n lo hi:Int} (h:lo<=hi):lo<=bX n lo hi/\bX n lo hi<=hi:=by unfold bX;split<;>(try split)<;>omega
theorem slS_bd (off span:Int): -1000000000<=MB off span/\MB off span<=1000000000:=by
 unfold MB;split
 ·exact rH (by decide)
 ·split<;>decide
theorem gn_bd {k e:Int} (h0:0<=k) (h1:k<=1048576) (h2: -1000000000<=e) (h3:e<=1000000000): -16000000001<=ZU k e/\ZU k e<=16000000001:=by
 have a:=Int.mul_le_mul_of_nonneg_left (c:=k) h3 h0;have b:=Int.mul_le_mul_of_nonneg_left (c:=k) h2 h0;have c:=Int.mul_le_mul_of_nonneg_right (c:=(1000000000:Int)) h1 (by omega);rw[show k* -1000000000= -(k*1000000000) by omega] at b;have d: -16000000001<=k*e / 65536:=by rw[Int.le_ediv_iff_mul_le (by omega)];omega
 have f:k*e / 65536<=16000000001:=Int.ediv_le_of_le_mul (by omega) (by omega);unfold ZU QN;split<;>omega
theorem pSlope (off span:Int) (a0: -1125899906842624<=off) (a1:off<=1125899906842624) (b0:1<=span) (b1:span<=1125899906842624) (w:World) :
  Calls Tryz.prog 305 #[.int .i64 off,.int .i64 span] w fun e w'=>e=.returned (.int .i64 (MB off span))/\Only [] w w':=by
 have HM:=hid (fun w=>jS (l9 off 1000000000 span w (by omega) (by omega) (by omega) (by omega) (by omega) (by omega)));obtain⟨res,HE⟩:∃ r,Hid (MB off span=r):=⟨_,hid rfl⟩;rw[HE.out];unfold MB at HE;generalize NH (off*1000000000 / span)=b at HM HE;generalize QN (off*1000000000 / span)=v at HM HE;have HC:=hid (y9 v (-1000000000) 1000000000 (by decide));have m:=bJ w [];have k:=m.out.k;go_enter Tryz.func305,Tryz.ntmps305
 go_wp2_with (first|((with_reducible first|refine cM (HM.out _) ?_|refine cM (HC.out _) ?_|refine wU ?_);clear k m;intro w m k)|((with_reducible refine lF (fun w _=>⟨rfl,?_⟩));rw[<-HE.out];simp[results,Tryz.results305,go_sem]))
 all_goals first|rfl|(clear k m;go_tidy;grind)|trace_state
theorem pGain (k0 z:Int) (a0:0<=k0) (a1:k0<=1048576) (b0: -1000000000<=z) (b1:z<=1000000000) (w:World) :
  Calls Tryz.prog 306 #[.int .i64 k0,.int .i64 z] w fun e w'=>e=.returned (.int .i64 (ZU k0 z))/\Only [] w w':=by
 have HM:=hid (fun w=>jS (l9 k0 z 65536 w (by omega) (by omega) (by omega) (by omega) (by omega) (by omega)));unfold ZU;generalize NH (k0*z / 65536)=b at HM;generalize QN (k0*z / 65536)=v at HM |-;have m:=bJ w [];have k:=m.out.k;go_enter Tryz.func306,Tryz.ntmps306
 go_wp2_with (first|((with_reducible first|refine cM (HM.out _) ?_|refine wU ?_);clear k m;intro w m k)|((with_reducible refine lF (fun w _=>⟨rfl,?_⟩));simp[results,Tryz.results306,go_sem]))
 all_goals first|rfl|(clear k m;go_tidy;grind)|trace_state
theorem X4 {w:World} {b:Nat} {s:Sv} (hs:lS w b s) (hok:IY s) (off span:Int) (a0: -1125899906842624<=off) (a1:off<=1125899906842624) (b0:1<=span) (b1:span<=1125899906842624)  :
  Calls Tryz.prog 288 #[.pointer (some ⟨b,0,none⟩),.int .i64 off,.int .i64 span] w fun e w'=>e=.returned (U2 (JH s off span).1)/\lS w' b (JH s off span).2/\Only [b] w w':=by
 obtain⟨⟨kp,ki,lim,sf,sl⟩,itg,smp,frq⟩:=s;obtain⟨q1,q2,q3,q4,q5,q6,q7,q8,q9,qa⟩:=hok;dsimp only at q1 q2 q3 q4 q5 q6 q7 q8 q9 qa;unfold lS at hs |-;dsimp only at hs;have HL:=hid (pSlope off span a0 a1 b0 b1);have hb:=slS_bd off span;obtain⟨res,HE⟩:∃ r,Hid (JH ⟨⟨kp,ki,lim,sf,sl⟩,itg,smp,frq⟩ off span=r):=⟨_,hid rfl⟩;rw[HE.out];unfold JH frS itS thS at HE;dsimp only at HE;generalize MB off span=e at HL HE hb;have HG1:=hid (pGain ki e q3 q4 hb.1 hb.2);have HG2:=hid (pGain kp e q1 q2 hb.1 hb.2);have g1:=gn_bd q3 q4 hb.1 hb.2;have g2:=gn_bd q1 q2 hb.1 hb.2;generalize ZU ki e=x1 at HG1 HE g1;generalize ZU kp e=x2 at HG2 HE g2;have HC1:=hid (y9 (itg+x1) (-lim) lim (by omega));have c1:=rH (n:=itg+x1) (lo:=-lim) (hi:=lim) (by omega);have r1:IntKind.i64.wrap (itg+x1)=itg+x1:=by rw[wrap_i64];omega
 have r2:IntKind.i64.wrap (-lim)= -lim:=by rw[wrap_i64];omega
 have r3:IntKind.i64.wrap (-off)= -off:=by rw[wrap_i64];omega
 generalize bX (itg+x1) (-lim) lim=y1 at HC1 HE c1;have HC2:=hid (y9 (x2+y1) (-lim) lim (by omega));have r4:IntKind.i64.wrap (x2+y1)=x2+y1:=by rw[wrap_i64];omega
 generalize bX (x2+y1) (-lim) lim=y2 at HC2 HE;clear hb g1 g2 c1 q1 q2 q3 q4 q5 q6 q7 q8 q9 qa a0 a1 b0 b1;have m:=kD hs;have k:=m.out.k;clear hs;go_enter Tryz.func288,Tryz.ntmps288
 go_wp2_with (first|((with_reducible first|refine cM (HL.out _) ?_|refine cM (HC1.out _) ?_|refine cM (HC2.out _) ?_|refine cM (HG1.out _) ?_|refine cM (HG2.out _) ?_|refine wU ?_);clear k m;intro w m k)|((with_reducible refine rG (id:=9) [0,1,2,3,4,5,6,7,8,9,10,11,12,13,14,15,16,17,18] [19] (by kernel_rfl) (by kernel_rfl) ?_);simp only[pick,map_cons,map_nil,getD_cons_succ,getD_cons_zero];(repeat' (first|go_big_quiet_step (with_reducible first|exact gX (HL.out _)|exact gX (HC1.out _)|exact gX (HC2.out _)|exact gX (HG1.out _)|exact gX (HG2.out _))|(refine wpQuiet_step (fun K hK=>?_);go_simp;(first|(refine hK _ ?_;clear hK K)|(split<;>(refine hK _ ?_;clear hK K))))));all_goals (refine wpQuiet_nil ?_;clear k m;intro w m k))|((with_reducible refine rG (id:=10) [0,1,2,3,4,5,6,7,8,9,10,11,12,13,14,15,16,17,18] [19] (by kernel_rfl) (by kernel_rfl) ?_);simp only[pick,map_cons,map_nil,getD_cons_succ,getD_cons_zero];(repeat' (first|go_big_quiet_step (with_reducible first|exact gX (HL.out _)|exact gX (HC1.out _)|exact gX (HC2.out _)|exact gX (HG1.out _)|exact gX (HG2.out _))|(refine wpQuiet_step (fun K hK=>?_);go_simp;(first|(refine hK _ ?_;clear hK K)|(split<;>(refine hK _ ?_;clear hK K))))));all_goals (refine wpQuiet_nil ?_;clear k m;intro w m k))|((with_reducible refine lE (fun w o g k K hK=>⟨rfl,?_⟩));simp[results,Tryz.results288,go_sem,k];refine hK _ ?_;clear hK K k;rw[<-HE.out];(go_tidy;grind [U2,lS])))
theorem TH {w:World} {b:Nat} {s:Sv} (hs:lS w b s) (hok:IY s) (off span:Int)  :
  Calls Tryz.prog 287 #[.int .i64 off,.int .i64 span,.func (.func 288) #[.pointer (some ⟨b,0,none⟩)] #[]] w fun e w'=>e=.returned (.tuple #[U2 (fQ s off span).1,.int .i64 (fQ s off span).2.1])/\lS w' b (fQ s off span).2.2/\Only [b] w w':=by
 have HW1:=hid (kR off (-1125899906842624) 1125899906842624 (by decide));have HW2:=hid (kR span 1 1125899906842624 (by decide));have HS:=hid (fun (w':World) (h:lS w' b s)=>X4 h hok off span);have HX:=hid (And.intro (aW (n:=off) (lo:=-1125899906842624) (hi:=1125899906842624)) (aW (n:=span) (lo:=1) (hi:=1125899906842624)));obtain⟨res,HE⟩:∃ r,Hid (fQ s off span=r):=⟨_,hid rfl⟩;rw[HE.out];unfold fQ at HE;generalize bT off (-1125899906842624) 1125899906842624=b1 at HW1 HX HE;generalize bT span 1 1125899906842624=b2 at HW2 HX HE;generalize JH s off span=rs at HS HE;obtain⟨⟨kp,ki,lim,sf,sl⟩,itg,smp,frq⟩:=s;unfold lS at hs HS |-;dsimp only at hs HS HE |-;obtain⟨ra,⟨⟨rkp,rki,rlim,rsf,rsl⟩,ritg,rsmp,rfrq⟩⟩:=rs;obtain⟨rk,rv⟩:=ra;unfold U2 at HS |-;dsimp only at HS HE |-;clear hok
 cases b1
 rotate_left
 cases b2
 rotate_left
 have HT:=hid (fun (w':World) h=>HS.out w' h (HX.out.1.1 rfl).1 (HX.out.1.1 rfl).2 (HX.out.2.1 rfl).1 (HX.out.2.1 rfl).2);all_goals clear HX HS
 all_goals (have m:=kD hs;have k:=m.out.k;clear hs)
 all_goals go_enter Tryz.func287,Tryz.ntmps287
 all_goals go_wp2_with (first|((with_reducible first|refine cM (HW1.out _) ?_|refine cM (HW2.out _) ?_|refine cP (HT.out _ gB) ?_|refine wU ?_);clear k m;intro w m k)|((with_reducible refine lE (fun w o g k K hK=>⟨rfl,?_⟩));simp[results,Tryz.results287,go_sem,k];refine hK _ ?_;clear hK K k;rw[<-HE.out];(go_tidy;grind [U2,lS])))
theorem pSample {w:World} {b:Nat} {s:Sv} (hs:lS w b s) (hok:IY s) (off span:Int)  :
  Calls Tryz.prog 260 #[.pointer (some ⟨b,0,none⟩),.int .i64 off,.int .i64 span] w fun e w'=>e=.returned (.tuple #[U2 (fQ s off span).1,.int .i64 (fQ s off span).2.1])/\lS w' b (fQ s off span).2.2/\Only [b] w w':=by
 have HS:=hid (fun (w':World) (h:lS w' b s)=>TH h hok off span);generalize fQ s off span=rs at HS |-;obtain⟨⟨kp,ki,lim,sf,sl⟩,itg,smp,frq⟩:=s;unfold lS at hs HS |-;dsimp only at hs HS |-;obtain⟨⟨rk,rv⟩,re,⟨⟨rkp,rki,rlim,rsf,rsl⟩,ritg,rsmp,rfrq⟩⟩:=rs;unfold U2 at HS |-;dsimp only at HS |-;clear hok;have m:=kD hs;have k:=m.out.k;clear hs;go_enter Tryz.func260,Tryz.ntmps260
 go_wp2_with (first|((with_reducible first|refine cP (HS.out _ gB) ?_|refine wU ?_);clear k m;intro w m k)|((with_reducible refine lE (fun w o g k K hK=>⟨rfl,?_⟩));simp[results,Tryz.results260,go_sem,k];refine hK _ ?_;clear hK K k;skip;(go_tidy;grind [U2,lS])))
end
end Go.Proofs.YtppjhbjmfkiejaaGreat
