/- Texts of one chain: E1, E3. Conditions: those named in each theorem. -/
import Derived.Test.YthbgcpfklmlnjaaGreatFJa
import Derived.Test.YthbgcpfklmlnjaaGreatFV6
import Derived.Test.YthbgcpfklmlnjaaGreatFJc
namespace Go.Proofs.YthbgcpfklmlnjaaGreat
open List (getD_cons_succ getD_cons_zero map_cons map_nil)
open IntKind (wrap_i64)
open Go.Lib (hid)
set_option maxRecDepth 100000
set_option maxHeartbeats 4000000
section
open Go.RowKit
theorem XD (raw time ppb steps r:Int) (hr:raw<=r) (h1:r-raw<=9007199254740992) (h2: -500000<=ppb) (h3:ppb<=500000) (h4: -4503599627370496<=time) (h5:time<=4503599627370496) (w:World) :
  Calls Tryz.prog 292 #[.agg #[.int .i64 raw,.int .i64 time,.int .i64 ppb,.int .i64 0,.int .i64 0,.int .i64 steps],.int .i64 r] w fun e w'=>e=.returned (.agg #[.int .i64 r,.int .i64 (time+(r-raw)+(r-raw)*ppb / 1000000000),.int .i64 ppb,.int .i64 0,.int .i64 0,.int .i64 steps])/\Only [] w w':=by
 obtain⟨d,hd⟩:∃ d,r-raw=d:=⟨_,rfl⟩;have r1:IntKind.i64.wrap (r-raw)=d:=by rw[wrap_i64];omega
 rw[hd];have H1:=hid (WU raw time ppb steps d (by omega) (by omega) h2 h3 h4 h5);have H2:=hid (pPart d 0 (by omega) (by omega) (by omega) (by omega));rw[Int.mul_zero,Int.zero_ediv] at H2;generalize time+d+d*ppb / 1000000000=t at H1 |-;clear hr h1 h2 h3 h4 h5 hd;have m:=dD w [];have k:=m.out.k;go_enter Tryz.func292,Tryz.ntmps292
 go_wp2_with (first|((with_reducible first|refine cM (H1.out _) ?_|refine cM (H2.out _) ?_|refine wU ?_);clear k m;intro w m k)|((with_reducible refine lF (fun w k=>⟨rfl,?_⟩));simp[results,Tryz.results292,go_sem,k]))
theorem pFreq1 {w:World} {bs bp:Nat} {raw time ppb p steps:Int} (hs:w.heap[bs]? = some (.cells #[.int .i64 raw,.int .i64 time,.int .i64 ppb,.int .i64 0,.int .i64 0,.int .i64 steps] 171 (0,0))) (hp:w.heap[bp]? = some (.cells #[.int .i64 p] 3 (0,0))) (hn:bs≠bp)  :
  Calls Tryz.prog 279 #[.pointer (some ⟨bs,0,none⟩),.pointer (some ⟨bp,0,none⟩)] w fun e w'=>e=.returned (.int .i64 0)/\w'.heap[bs]? = some (.cells #[.int .i64 raw,.int .i64 time,.int .i64 p,.int .i64 0,.int .i64 0,.int .i64 steps] 171 (0,0))/\Only [bs] w w':=by
 have m:Mm w [bs] w _:=⟨((Mem.start w [bs]).ext false hp (by simp) (by simp)).ext true hs (by simpa using hn) (by simp)⟩;have k:=m.out.k;clear hs hp hn;go_enter Tryz.func279,Tryz.ntmps279
 go_wp2_with (first|((with_reducible refine wU ?_);clear k m;intro w m k)|((with_reducible refine lE (fun w o g k K hK=>⟨rfl,?_⟩));simp[results,Tryz.results279,go_sem];refine hK _ ?_;exact⟨rfl,Has.h w g,o⟩))
def st1 (time delta steps:Int):Int × Int × Int:=if fI (time+delta)=true then (if steps=9223372036854775807 then (4,time,steps) else (0,time+delta,steps+1)) else (3,time,steps)
theorem pStep1 {w:World} {bs bp:Nat} {raw time ppb d steps:Int} (hs:w.heap[bs]? = some (.cells #[.int .i64 raw,.int .i64 time,.int .i64 ppb,.int .i64 0,.int .i64 0,.int .i64 steps] 171 (0,0))) (hp:w.heap[bp]? = some (.cells #[.int .i64 d] 3 (0,0))) (hn:bs≠bp) (h0: -9007199254740992<=time+d) (h1:time+d<=9007199254740992) (h2:0<=steps) (h3:steps<=9223372036854775807)  :
  Calls Tryz.prog 278 #[.pointer (some ⟨bs,0,none⟩),.pointer (some ⟨bp,0,none⟩)] w fun e w'=>e=.returned (.int .i64 (st1 time d steps).1)/\w'.heap[bs]? = some (.cells #[.int .i64 raw,.int .i64 (st1 time d steps).2.1,.int .i64 ppb,.int .i64 0,.int .i64 0,.int .i64 (st1 time d steps).2.2] 171 (0,0))/\Only [bs] w w':=by
 obtain⟨t,ht⟩:∃ t,time+d=t:=⟨_,rfl⟩;have r1:IntKind.i64.wrap (time+d)=t:=by rw[wrap_i64];omega
 have HW:=hid (jL t 4503599627370496 (by omega) (by omega));obtain⟨res,HE⟩:∃ q,Hid (st1 time d steps=q):=⟨_,hid rfl⟩;rw[HE.out];unfold st1 fI at HE;rw[ht] at HE;generalize bT t (-4503599627370496) 4503599627370496=x at HW HE;clear h0 h1 ht;have go:x=true->steps≠9223372036854775807->IntKind.i64.wrap (steps+1)=steps+1:=fun _ _=>by rw[wrap_i64];omega
 cases x
 rotate_left
 by_cases hz:steps=9223372036854775807
 rotate_left
 have r2:=go rfl hz;all_goals clear go h2 h3
 all_goals have m:Mm w [bs] w _:=⟨((Mem.start w [bs]).ext false hp (by simp) (by simp)).ext true hs (by simpa using hn) (by simp)⟩;have k:=m.out.k;clear hs hp hn
 all_goals go_enter Tryz.func278,Tryz.ntmps278
 all_goals go_wp2_with (first|((with_reducible first|refine cM (HW.out _) ?_|refine wU ?_);clear k m;intro w m k)|((with_reducible refine rG (id:=1) [0,1,2,3,4,5,6,7] [] (by kernel_rfl) (by kernel_rfl) ?_);simp only[pick,map_cons,map_nil,getD_cons_succ,getD_cons_zero];(repeat' (first|go_big_quiet_step (with_reducible first|exact gX (HW.out _))|(refine wpQuiet_step (fun K hK=>?_);go_simp;(first|(refine hK _ ?_;clear hK K)|(split<;>(refine hK _ ?_;clear hK K))))));all_goals (refine wpQuiet_nil ?_;clear k m;intro w m k))|((with_reducible refine rG (id:=5) [0,1,2,3,4,5,6,7] [8] (by kernel_rfl) (by kernel_rfl) ?_);simp only[pick,map_cons,map_nil,getD_cons_succ,getD_cons_zero];(repeat' (first|go_big_quiet_step (with_reducible first|exact gX (HW.out _))|(refine wpQuiet_step (fun K hK=>?_);go_simp;(first|(refine hK _ ?_;clear hK K)|(split<;>(refine hK _ ?_;clear hK K))))));all_goals (refine wpQuiet_nil ?_;clear k m;intro w m k))|((with_reducible refine lE (fun w o g k K hK=>⟨rfl,?_⟩));simp[results,Tryz.results278,go_sem];refine hK _ ?_;clear hK K k;rw[<-HE.out];(go_tidy;grind)))
theorem qL {c:Ck} {r:Int} (h:(eF c r).2=0):c.raw<=r/\r<=4503599627370496/\fI (fP c r)=true/\eF c r=(fP c r,0):=by
 unfold eF at h |-;split at h
 ·exact absurd h (by decide)
 ·split at h
  ·exact absurd h (by decide)
  ·split at h
   ·rename_i h1 h2 h3
    exact⟨by omega,by omega,h3,by rw[if_neg h1,if_neg h2,if_pos h3]⟩
   ·exact absurd h (by decide)
def lI (c:Ck) (r ppb:Int):Int × Ck:=if (eF c r).2=0 then (0,⟨r,fP c r,ppb,c.steps⟩) else ((eF c r).2,c)
def iZ (c:Ck) (r d:Int):Int × Ck:=if (eF c r).2=0 then (if (st1 (fP c r) d c.steps).1=0 then (0,⟨r,(st1 (fP c r) d c.steps).2.1,c.ppb,(st1 (fP c r) d c.steps).2.2⟩) else ((st1 (fP c r) d c.steps).1,c)) else ((eF c r).2,c)
theorem XY {w:World} {b bp:Nat} {c:Ck} {x:Int} (hc:kK w b c) (hok:iY c) (r:Int) (h0: -9223372036854775808<=r) (h1:r<=9223372036854775807) (hp:w.heap[bp]? = some (.cells #[.int .i64 x] 3 (0,0))) (hn:b≠bp)  :
  Calls Tryz.prog 277 #[.pointer (some ⟨b,0,none⟩),.int .i64 r,.bool true,.func (.func 279) #[] #[.pointer (some ⟨bp,0,none⟩)]] w fun e w'=>e=.returned (.int .i64 (lI c r x).1)/\kK w' b (lI c r x).2/\Only [b] w w':=by
 have H1:=hid (fun (w':World) (h:kK w' b c)=>XZ h hok r h0 h1);have HK:=hid hok;obtain⟨res,HE⟩:∃ q,Hid (lI c r x=q):=⟨_,hid rfl⟩;rw[HE.out];unfold lI at HE;unfold kK at hc H1 |-;clear hok;have hx:=qL (c:=c) (r:=r);obtain⟨raw,time,ppb,steps⟩:=c;dsimp only at hc H1 HE |-;have m:Mm w [b] w _:=⟨((Mem.start w [b]).ext false hp (by simp) (by simp)).ext true hc (by simpa using hn) (by simp)⟩;have k:=m.out.k;clear hc hp hn;obtain⟨q1,q2⟩:∃ a,eF ⟨raw,time,ppb,steps⟩ r=a:=⟨_,rfl⟩;rw[q2] at H1 HE hx;obtain⟨nv,ne⟩:=q1;dsimp only at H1 HE hx;clear q2;by_cases hz:ne=0
 ·subst hz
  obtain⟨q1,q2,q3,q4⟩:=hx rfl;obtain rfl:nv=fP ⟨raw,time,ppb,steps⟩ r:=by simpa using q4
  have HT:=hid (aW.1 (show bT (fP ⟨raw,time,ppb,steps⟩ r) (-4503599627370496) 4503599627370496=true from q3));have HM:=hid (XD raw time ppb steps r q1 (by have:=HK.out.r0;dsimp only at this;omega) HK.out.p0 HK.out.p1 HK.out.t0 HK.out.t1);rw[show time+(r-raw)+(r-raw)*ppb / 1000000000=fP ⟨raw,time,ppb,steps⟩ r from rfl] at HM;generalize fP ⟨raw,time,ppb,steps⟩ r=t at HE HM HT H1;clear q1 q2 q3 q4 h0 h1 hx;have HF:=hid (fun (w2:World) (bs:Nat) hs hp hn=>pFreq1 (w:=w2) (bs:=bs) (bp:=bp) (raw:=r) (time:=t) (ppb:=ppb) (p:=x) (steps:=steps) hs hp hn);go_enter Tryz.func277,Tryz.ntmps277
  go_wp2_with (first|((with_reducible first|refine cU ?_|refine cM (H1.out _ gB) ?_|refine cM (HM.out _) ?_|refine cP (HF.out w _ gB gB (gN w)) ?_|refine wU ?_);clear k m;intro w m k)|((with_reducible refine lE (fun w o g k K hK=>⟨rfl,?_⟩));simp[results,Tryz.results277,go_sem];refine hK _ ?_;clear hK K k;rw[<-HE.out];(go_tidy;grind)))
 ·clear hx h0 h1
  go_enter Tryz.func277,Tryz.ntmps277
  go_wp2_with (first|((with_reducible first|refine cM (H1.out _ gB) ?_|refine wU ?_);clear k m;intro w m k)|((with_reducible refine lE (fun w o g k K hK=>⟨rfl,?_⟩));simp[results,Tryz.results277,go_sem];refine hK _ ?_;clear hK K k;rw[<-HE.out];(go_tidy;grind)))
theorem XW {w:World} {b bp:Nat} {c:Ck} {x:Int} (hc:kK w b c) (hok:iY c) (r:Int) (h0: -9223372036854775808<=r) (h1:r<=9223372036854775807) (hp:w.heap[bp]? = some (.cells #[.int .i64 x] 3 (0,0))) (hn:b≠bp) (x0: -4503599627370496<=x) (x1:x<=4503599627370496)  :
  Calls Tryz.prog 277 #[.pointer (some ⟨b,0,none⟩),.int .i64 r,.bool true,.func (.func 278) #[] #[.pointer (some ⟨bp,0,none⟩)]] w fun e w'=>e=.returned (.int .i64 (iZ c r x).1)/\kK w' b (iZ c r x).2/\Only [b] w w':=by
 have H1:=hid (fun (w':World) (h:kK w' b c)=>XZ h hok r h0 h1);have HK:=hid hok;obtain⟨res,HE⟩:∃ q,Hid (iZ c r x=q):=⟨_,hid rfl⟩;rw[HE.out];unfold iZ at HE;unfold kK at hc H1 |-;clear hok;have hx:=qL (c:=c) (r:=r);obtain⟨raw,time,ppb,steps⟩:=c;dsimp only at hc H1 HE |-;have m:Mm w [b] w _:=⟨((Mem.start w [b]).ext false hp (by simp) (by simp)).ext true hc (by simpa using hn) (by simp)⟩;have k:=m.out.k;clear hc hp hn;obtain⟨q1,q2⟩:∃ a,eF ⟨raw,time,ppb,steps⟩ r=a:=⟨_,rfl⟩;rw[q2] at H1 HE hx;obtain⟨nv,ne⟩:=q1;dsimp only at H1 HE hx;clear q2;by_cases hz:ne=0
 ·subst hz
  obtain⟨q1,q2,q3,q4⟩:=hx rfl;obtain rfl:nv=fP ⟨raw,time,ppb,steps⟩ r:=by simpa using q4
  have HT:=hid (aW.1 (show bT (fP ⟨raw,time,ppb,steps⟩ r) (-4503599627370496) 4503599627370496=true from q3));have HM:=hid (XD raw time ppb steps r q1 (by have:=HK.out.r0;dsimp only at this;omega) HK.out.p0 HK.out.p1 HK.out.t0 HK.out.t1);rw[show time+(r-raw)+(r-raw)*ppb / 1000000000=fP ⟨raw,time,ppb,steps⟩ r from rfl] at HM;generalize fP ⟨raw,time,ppb,steps⟩ r=t at HE HM HT H1;clear q1 q2 q3 q4 h0 h1 hx;have HF:=hid (fun (w2:World) (bs:Nat) hs hp hn=>pStep1 (w:=w2) (bs:=bs) (bp:=bp) (raw:=r) (time:=t) (ppb:=ppb) (d:=x) (steps:=steps) hs hp hn (by have:=HT.out;omega) (by have:=HT.out;omega) HK.out.s0 HK.out.s1);generalize st1 t x steps=so at HE HF;obtain⟨s1,s2,s3⟩:=so;dsimp only at HE HF;clear x0 x1;go_enter Tryz.func277,Tryz.ntmps277
  go_wp2_with (first|((with_reducible first|refine cU ?_|refine cM (H1.out _ gB) ?_|refine cM (HM.out _) ?_|refine cP (HF.out w _ gB gB (gN w)) ?_|refine wU ?_);clear k m;intro w m k)|((with_reducible refine lE (fun w o g k K hK=>⟨rfl,?_⟩));simp[results,Tryz.results277,go_sem];refine hK _ ?_;clear hK K k;rw[<-HE.out];(go_tidy;grind)))
 ·clear hx h0 h1
  go_enter Tryz.func277,Tryz.ntmps277
  go_wp2_with (first|((with_reducible first|refine cM (H1.out _ gB) ?_|refine wU ?_);clear k m;intro w m k)|((with_reducible refine lE (fun w o g k K hK=>⟨rfl,?_⟩));simp[results,Tryz.results277,go_sem];refine hK _ ?_;clear hK K k;rw[<-HE.out];(go_tidy;grind)))
theorem XU {w:World} {b:Nat} {c:Ck} (hc:kK w b c) (hok:iY c) (r:Int) (h0: -9223372036854775808<=r) (h1:r<=9223372036854775807) (x:Int) (x0: -500000<=x) (x1:x<=500000)  :
  Calls Tryz.prog 250 #[.pointer (some ⟨b,0,none⟩),.int .i64 r,.int .i64 x] w fun e w'=>e=.returned (.int .i64 (lI c r x).1)/\kK w' b (lI c r x).2/\Only [b] w w':=by
 have HW:=hid (jL x 500000 (by decide) (by decide));rw[show bT x (-500000) 500000=true from aW.2 ⟨x0,x1⟩] at HW;have HF:=hid (fun (w2:World) (bp:Nat) (hc:kK w2 b c) hp hn=>XY (bp:=bp) (x:=x) hc hok r h0 h1 hp hn);generalize lI c r x=q at HF |-;unfold kK at hc HF |-;obtain⟨raw,time,ppb,steps⟩:=c;obtain⟨q1,⟨q2,q3,q4,q5⟩⟩:=q;dsimp only at hc HF |-;clear hok h0 h1 x0 x1;have m:=lQ hc;have k:=m.out.k;clear hc;go_enter Tryz.func250,Tryz.ntmps250
 go_wp2_with (first|((with_reducible first|refine cU ?_|refine cM (HW.out _) ?_|refine cP (HF.out w _ gB gB (gN w)) ?_|refine wU ?_);clear k m;intro w m k)|((with_reducible refine lE (fun w o g k K hK=>⟨rfl,?_⟩));simp[results,Tryz.results250,go_sem];refine hK _ ?_;exact⟨rfl,Has.h w g,o⟩))
theorem XT {w:World} {b:Nat} {c:Ck} (hc:kK w b c) (hok:iY c) (r:Int) (h0: -9223372036854775808<=r) (h1:r<=9223372036854775807) (x:Int) (x0: -4503599627370496<=x) (x1:x<=4503599627370496)  :
  Calls Tryz.prog 249 #[.pointer (some ⟨b,0,none⟩),.int .i64 r,.int .i64 x] w fun e w'=>e=.returned (.int .i64 (iZ c r x).1)/\kK w' b (iZ c r x).2/\Only [b] w w':=by
 have HW:=hid (jL x 4503599627370496 (by decide) (by decide));rw[show bT x (-4503599627370496) 4503599627370496=true from aW.2 ⟨x0,x1⟩] at HW;have HF:=hid (fun (w2:World) (bp:Nat) (hc:kK w2 b c) hp hn=>XW (bp:=bp) (x:=x) hc hok r h0 h1 hp hn x0 x1);generalize iZ c r x=q at HF |-;unfold kK at hc HF |-;obtain⟨raw,time,ppb,steps⟩:=c;obtain⟨q1,⟨q2,q3,q4,q5⟩⟩:=q;dsimp only at hc HF |-;clear hok h0 h1 x0 x1;have m:=lQ hc;have k:=m.out.k;clear hc;go_enter Tryz.func249,Tryz.ntmps249
 go_wp2_with (first|((with_reducible first|refine cU ?_|refine cM (HW.out _) ?_|refine cP (HF.out w _ gB gB (gN w)) ?_|refine wU ?_);clear k m;intro w m k)|((with_reducible refine lE (fun w o g k K hK=>⟨rfl,?_⟩));simp[results,Tryz.results249,go_sem];refine hK _ ?_;exact⟨rfl,Has.h w g,o⟩))
theorem SG {w:World} {b:Nat} {c:Ck} (hc:kK w b c)  :
  Calls Tryz.prog 217 #[.pointer (some ⟨b,0,none⟩)] w fun e w'=>e=.returned (.agg #[.int .i64 c.raw,.int .i64 c.time,.int .i64 c.ppb,.int .i64 0,.int .i64 0,.int .i64 c.steps])/\Only [] w w':=by
 unfold kK at hc;have m:=mY hc;have k:=m.out.k;clear hc;go_enter Tryz.func217,Tryz.ntmps217
 go_wp2_with (first|((with_reducible refine wU ?_);clear k m;intro w m k)|((with_reducible refine lE (fun w o g k K hK=>⟨rfl,?_⟩));simp[results,Tryz.results217,go_sem,k];refine hK _ ?_;exact⟨rfl,o⟩))
end
section
open Go.RowKit
structure Ac where
 kind:Int
 val:Int
deriving DecidableEq,Inhabited
def TV (a:Ac):Value:=.agg #[.int .i64 a.kind,.int .i64 a.val]
def YV (k e:Int):Int:=PY (k*e / 65536)
def LP (off span:Int):Int:=if MO (off*1000000000 / span)=true then bZ (PY (off*1000000000 / span)) (-1000000000) 1000000000 else if 0<off then 1000000000 else -1000000000
def thS (s:Sv):Int:=if s.smp=0 then s.c.sf else s.c.sl
def itS (s:Sv) (e:Int):Int:=bZ (s.itg+YV s.c.ki e) (-s.c.lim) s.c.lim
def frS (s:Sv) (e i:Int):Int:=bZ (YV s.c.kp e+i) (-s.c.lim) s.c.lim
def I6 (s:Sv) (off span:Int):Ac × Sv:=
 if 0<thS s/\thS s<max off (-off) then (⟨2,off⟩,{ s with smp:=wrap64 (s.smp+1) })
 else (⟨1,frS s (LP off span) (itS s (LP off span))⟩,⟨s.c,itS s (LP off span),wrap64 (s.smp+1),frS s (LP off span) (itS s (LP off span))⟩)
def fO (s:Sv) (off span:Int):Ac × Int × Sv:=if bT off (-1125899906842624) 1125899906842624=true/\bT span 1 1125899906842624=true then ((I6 s off span).1,0,(I6 s off span).2) else (⟨0,0⟩,3,s)
structure II (s:Sv):Prop where
 kp0:0<=s.c.kp
 kp1:s.c.kp<=1048576
 ki0:0<=s.c.ki
 ki1:s.c.ki<=1048576
 l0:1<=s.c.lim
 l1:s.c.lim<=500000
 sf:0<=s.c.sf/\s.c.sf<=1125899906842624
 sl:0<=s.c.sl/\s.c.sl<=1125899906842624
 i0: -s.c.lim<=s.itg
 i1:s.itg<=s.c.lim
theorem rJ {n lo hi:Int} (h:lo<=hi):lo<=bZ n lo hi/\bZ n lo hi<=hi:=by unfold bZ;split<;>(try split)<;>omega
theorem slS_bd (off span:Int): -1000000000<=LP off span/\LP off span<=1000000000:=by
 unfold LP;split
 ·exact rJ (by decide)
 ·split<;>decide
theorem gn_bd {k e:Int} (h0:0<=k) (h1:k<=1048576) (h2: -1000000000<=e) (h3:e<=1000000000): -16000000001<=YV k e/\YV k e<=16000000001:=by
 have a:=Int.mul_le_mul_of_nonneg_left (c:=k) h3 h0;have b:=Int.mul_le_mul_of_nonneg_left (c:=k) h2 h0;have c:=Int.mul_le_mul_of_nonneg_right (c:=(1000000000:Int)) h1 (by omega);rw[show k* -1000000000= -(k*1000000000) by omega] at b;have d: -16000000001<=k*e / 65536:=by rw[Int.le_ediv_iff_mul_le (by omega)];omega
 have f:k*e / 65536<=16000000001:=Int.ediv_le_of_le_mul (by omega) (by omega);unfold YV PY;split<;>omega
theorem pSlope (off span:Int) (a0: -1125899906842624<=off) (a1:off<=1125899906842624) (b0:1<=span) (b1:span<=1125899906842624) (w:World) :
  Calls Tryz.prog 290 #[.int .i64 off,.int .i64 span] w fun e w'=>e=.returned (.int .i64 (LP off span))/\Only [] w w':=by
 have HM:=hid (fun w=>jU (mF off 1000000000 span w (by omega) (by omega) (by omega) (by omega) (by omega) (by omega)));obtain⟨res,HE⟩:∃ r,Hid (LP off span=r):=⟨_,hid rfl⟩;rw[HE.out];unfold LP at HE;generalize MO (off*1000000000 / span)=b at HM HE;generalize PY (off*1000000000 / span)=v at HM HE;have HC:=hid (y9 v (-1000000000) 1000000000 (by decide));have m:=dD w [];have k:=m.out.k;go_enter Tryz.func290,Tryz.ntmps290
 go_wp2_with (first|((with_reducible first|refine cM (HM.out _) ?_|refine cM (HC.out _) ?_|refine wU ?_);clear k m;intro w m k)|((with_reducible refine lF (fun w _=>⟨rfl,?_⟩));rw[<-HE.out];simp[results,Tryz.results290,go_sem]))
 all_goals first|rfl|(clear k m;go_tidy;grind)|trace_state
theorem pGain (k0 z:Int) (a0:0<=k0) (a1:k0<=1048576) (b0: -1000000000<=z) (b1:z<=1000000000) (w:World) :
  Calls Tryz.prog 291 #[.int .i64 k0,.int .i64 z] w fun e w'=>e=.returned (.int .i64 (YV k0 z))/\Only [] w w':=by
 have HM:=hid (fun w=>jU (mF k0 z 65536 w (by omega) (by omega) (by omega) (by omega) (by omega) (by omega)));unfold YV;generalize MO (k0*z / 65536)=b at HM;generalize PY (k0*z / 65536)=v at HM |-;have m:=dD w [];have k:=m.out.k;go_enter Tryz.func291,Tryz.ntmps291
 go_wp2_with (first|((with_reducible first|refine cM (HM.out _) ?_|refine wU ?_);clear k m;intro w m k)|((with_reducible refine lF (fun w _=>⟨rfl,?_⟩));simp[results,Tryz.results291,go_sem]))
 all_goals first|rfl|(clear k m;go_tidy;grind)|trace_state
theorem WX {w:World} {b:Nat} {s:Sv} (hs:lW w b s) (hok:II s) (off span:Int) (a0: -1125899906842624<=off) (a1:off<=1125899906842624) (b0:1<=span) (b1:span<=1125899906842624)  :
  Calls Tryz.prog 273 #[.pointer (some ⟨b,0,none⟩),.int .i64 off,.int .i64 span] w fun e w'=>e=.returned (TV (I6 s off span).1)/\lW w' b (I6 s off span).2/\Only [b] w w':=by
 obtain⟨⟨kp,ki,lim,sf,sl⟩,itg,smp,frq⟩:=s;obtain⟨q1,q2,q3,q4,q5,q6,q7,q8,q9,qa⟩:=hok;dsimp only at q1 q2 q3 q4 q5 q6 q7 q8 q9 qa;unfold lW at hs |-;dsimp only at hs;have HL:=hid (pSlope off span a0 a1 b0 b1);have hb:=slS_bd off span;obtain⟨res,HE⟩:∃ r,Hid (I6 ⟨⟨kp,ki,lim,sf,sl⟩,itg,smp,frq⟩ off span=r):=⟨_,hid rfl⟩;rw[HE.out];unfold I6 frS itS thS at HE;dsimp only at HE;generalize LP off span=e at HL HE hb;have HG1:=hid (pGain ki e q3 q4 hb.1 hb.2);have HG2:=hid (pGain kp e q1 q2 hb.1 hb.2);have g1:=gn_bd q3 q4 hb.1 hb.2;have g2:=gn_bd q1 q2 hb.1 hb.2;generalize YV ki e=x1 at HG1 HE g1;generalize YV kp e=x2 at HG2 HE g2;have HC1:=hid (y9 (itg+x1) (-lim) lim (by omega));have c1:=rJ (n:=itg+x1) (lo:=-lim) (hi:=lim) (by omega);have r1:IntKind.i64.wrap (itg+x1)=itg+x1:=by rw[wrap_i64];omega
 have r2:IntKind.i64.wrap (-lim)= -lim:=by rw[wrap_i64];omega
 have r3:IntKind.i64.wrap (-off)= -off:=by rw[wrap_i64];omega
 generalize bZ (itg+x1) (-lim) lim=y1 at HC1 HE c1;have HC2:=hid (y9 (x2+y1) (-lim) lim (by omega));have r4:IntKind.i64.wrap (x2+y1)=x2+y1:=by rw[wrap_i64];omega
 generalize bZ (x2+y1) (-lim) lim=y2 at HC2 HE;clear hb g1 g2 c1 q1 q2 q3 q4 q5 q6 q7 q8 q9 qa a0 a1 b0 b1;have m:=lQ hs;have k:=m.out.k;clear hs;go_enter Tryz.func273,Tryz.ntmps273
 go_wp2_with (first|((with_reducible first|refine cM (HL.out _) ?_|refine cM (HC1.out _) ?_|refine cM (HC2.out _) ?_|refine cM (HG1.out _) ?_|refine cM (HG2.out _) ?_|refine wU ?_);clear k m;intro w m k)|((with_reducible refine rG (id:=9) [0,1,2,3,4,5,6,7,8,9,10,11,12,13,14,15,16,17,18] [19] (by kernel_rfl) (by kernel_rfl) ?_);simp only[pick,map_cons,map_nil,getD_cons_succ,getD_cons_zero];(repeat' (first|go_big_quiet_step (with_reducible first|exact gX (HL.out _)|exact gX (HC1.out _)|exact gX (HC2.out _)|exact gX (HG1.out _)|exact gX (HG2.out _))|(refine wpQuiet_step (fun K hK=>?_);go_simp;(first|(refine hK _ ?_;clear hK K)|(split<;>(refine hK _ ?_;clear hK K))))));all_goals (refine wpQuiet_nil ?_;clear k m;intro w m k))|((with_reducible refine rG (id:=10) [0,1,2,3,4,5,6,7,8,9,10,11,12,13,14,15,16,17,18] [19] (by kernel_rfl) (by kernel_rfl) ?_);simp only[pick,map_cons,map_nil,getD_cons_succ,getD_cons_zero];(repeat' (first|go_big_quiet_step (with_reducible first|exact gX (HL.out _)|exact gX (HC1.out _)|exact gX (HC2.out _)|exact gX (HG1.out _)|exact gX (HG2.out _))|(refine wpQuiet_step (fun K hK=>?_);go_simp;(first|(refine hK _ ?_;clear hK K)|(split<;>(refine hK _ ?_;clear hK K))))));all_goals (refine wpQuiet_nil ?_;clear k m;intro w m k))|((with_reducible refine lE (fun w o g k K hK=>⟨rfl,?_⟩));simp[results,Tryz.results273,go_sem,k];refine hK _ ?_;clear hK K k;rw[<-HE.out];(go_tidy;grind [TV,lW])))
theorem SA {w:World} {b:Nat} {s:Sv} (hs:lW w b s) (hok:II s) (off span:Int)  :
  Calls Tryz.prog 272 #[.int .i64 off,.int .i64 span,.func (.func 273) #[.pointer (some ⟨b,0,none⟩)] #[]] w fun e w'=>e=.returned (.tuple #[TV (fO s off span).1,.int .i64 (fO s off span).2.1])/\lW w' b (fO s off span).2.2/\Only [b] w w':=by
 have HW1:=hid (kT off (-1125899906842624) 1125899906842624 (by decide));have HW2:=hid (kT span 1 1125899906842624 (by decide));have HS:=hid (fun (w':World) (h:lW w' b s)=>WX h hok off span);have HX:=hid (And.intro (aW (n:=off) (lo:=-1125899906842624) (hi:=1125899906842624)) (aW (n:=span) (lo:=1) (hi:=1125899906842624)));obtain⟨res,HE⟩:∃ r,Hid (fO s off span=r):=⟨_,hid rfl⟩;rw[HE.out];unfold fO at HE;generalize bT off (-1125899906842624) 1125899906842624=b1 at HW1 HX HE;generalize bT span 1 1125899906842624=b2 at HW2 HX HE;generalize I6 s off span=rs at HS HE;obtain⟨⟨kp,ki,lim,sf,sl⟩,itg,smp,frq⟩:=s;unfold lW at hs HS |-;dsimp only at hs HS HE |-;obtain⟨ra,⟨⟨rkp,rki,rlim,rsf,rsl⟩,ritg,rsmp,rfrq⟩⟩:=rs;obtain⟨rk,rv⟩:=ra;unfold TV at HS |-;dsimp only at HS HE |-;clear hok
 cases b1
 rotate_left
 cases b2
 rotate_left
 have HT:=hid (fun (w':World) h=>HS.out w' h (HX.out.1.1 rfl).1 (HX.out.1.1 rfl).2 (HX.out.2.1 rfl).1 (HX.out.2.1 rfl).2);all_goals clear HX HS
 all_goals (have m:=lQ hs;have k:=m.out.k;clear hs)
 all_goals go_enter Tryz.func272,Tryz.ntmps272
 all_goals go_wp2_with (first|((with_reducible first|refine cM (HW1.out _) ?_|refine cM (HW2.out _) ?_|refine cP (HT.out _ gB) ?_|refine wU ?_);clear k m;intro w m k)|((with_reducible refine lE (fun w o g k K hK=>⟨rfl,?_⟩));simp[results,Tryz.results272,go_sem,k];refine hK _ ?_;clear hK K k;rw[<-HE.out];(go_tidy;grind [TV,lW])))
theorem pSample {w:World} {b:Nat} {s:Sv} (hs:lW w b s) (hok:II s) (off span:Int)  :
  Calls Tryz.prog 245 #[.pointer (some ⟨b,0,none⟩),.int .i64 off,.int .i64 span] w fun e w'=>e=.returned (.tuple #[TV (fO s off span).1,.int .i64 (fO s off span).2.1])/\lW w' b (fO s off span).2.2/\Only [b] w w':=by
 have HS:=hid (fun (w':World) (h:lW w' b s)=>SA h hok off span);generalize fO s off span=rs at HS |-;obtain⟨⟨kp,ki,lim,sf,sl⟩,itg,smp,frq⟩:=s;unfold lW at hs HS |-;dsimp only at hs HS |-;obtain⟨⟨rk,rv⟩,re,⟨⟨rkp,rki,rlim,rsf,rsl⟩,ritg,rsmp,rfrq⟩⟩:=rs;unfold TV at HS |-;dsimp only at HS |-;clear hok;have m:=lQ hs;have k:=m.out.k;clear hs;go_enter Tryz.func245,Tryz.ntmps245
 go_wp2_with (first|((with_reducible first|refine cP (HS.out _ gB) ?_|refine wU ?_);clear k m;intro w m k)|((with_reducible refine lE (fun w o g k K hK=>⟨rfl,?_⟩));simp[results,Tryz.results245,go_sem,k];refine hK _ ?_;clear hK K k;skip;(go_tidy;grind [TV,lW])))
end
end Go.Proofs.YthbgcpfklmlnjaaGreat
