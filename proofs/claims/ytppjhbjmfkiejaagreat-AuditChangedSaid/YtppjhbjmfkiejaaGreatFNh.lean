/- Nh Ni -/
import Derived.Test.YtppjhbjmfkiejaaGreatFNe
import Derived.Test.YtppjhbjmfkiejaaGreatFF1
import Derived.Laws.EntriesVeiled
import Derived.Defers
import Derived.Recover
import Derived.Lib.ConvBytes
namespace Go.Proofs.YtppjhbjmfkiejaaGreat
open IntKind (wrap_i64)
set_option maxRecDepth 100000
set_option maxHeartbeats 8000000
open Go.RowKit Go.Sort
open IntKind (wrap)
section
theorem tmS_bd (s p:Int): -8000000000000000000<=(oF s p).1/\(oF s p).1<=8000000000000000000:=by
 unfold oF;split
 ·exact⟨by decide,by decide⟩
 ·split
  ·exact⟨by decide,by decide⟩
  ·dsimp only
   omega
theorem EU (s v t:Int) (t0:0<=t) (t1:t<=1125899906842624) (v0: -1125899906842624<=v) (v1:v<=1125899906842624) (h:(oF s (3900000000000000000+t)).2=0) (w:World) :
  Calls Tryz.prog 189 #[.int .u64 s,.int .i64 v,.int .i64 t] w fun e w'=>e=.returned (.int .u64 (mF ((oF s (3900000000000000000+t)).1+v)))/\Oy [] w w':=by
 have hq:wrap .i64 (3900000000000000000+t)=3900000000000000000+t:=by rw[wrap_i64];omega
 have HT:=aA (fun w'=>YC s (3900000000000000000+t) (by omega) (by omega) w');have hb:=tmS_bd s (3900000000000000000+t);generalize oF s (3900000000000000000+t)=r at h HT hb |-;obtain⟨x,y⟩:=r;dsimp only at h HT hb |-;subst h;have hq2:wrap .i64 (x+v)=x+v:=by rw[wrap_i64];omega
 have HO:=aA (fun w'=>nM (x+v) (by omega) (by omega) w');generalize mF (x+v)=res at HO |-;clear hb v0 v1 t0 t1;have m:=bJ w [];have k:=m.zK;go_enter Tryz.func189,Tryz.ntmps189
 go_wp2_with (first|((with_reducible first|refine cM (HT.out _) ?_|refine cM (HO.out _) ?_|refine cM (G9 _) ?_|refine wU ?_);clear k m;intro w m k)|((with_reducible refine lE (fun w o g k K hK=>⟨rfl,?_⟩));simp[results,Tryz.results189,go_sem];refine hK _ ?_;exact⟨rfl,o⟩))
theorem ES (s v t:Int) (t0:0<=t) (t1:t<=1125899906842624) (h:(oF s (3900000000000000000+t)).2≠0) (w:World) :
  Calls Tryz.prog 189 #[.int .u64 s,.int .i64 v,.int .i64 t] w fun e w'=>e=.panicked (pnc (oF s (3900000000000000000+t)).2)/\Oy [] w w':=by
 have hq:wrap .i64 (3900000000000000000+t)=3900000000000000000+t:=by rw[wrap_i64];omega
 have HT:=aA (fun w'=>YC s (3900000000000000000+t) (by omega) (by omega) w');generalize oF s (3900000000000000000+t)=r at h HT |-;obtain⟨x,y⟩:=r;dsimp only at h HT |-;have HP:=aA (fun w'=>ND y h w');clear h t0 t1;have m:=bJ w [];have k:=m.zK;go_enter Tryz.func189,Tryz.ntmps189
 go_wp2_with ((with_reducible first|refine cM (HT.out _) ?_|refine wU ?_);clear k m;intro w m k)
 refine (HP.out _).mono ?_;rintro e w2 ⟨rfl,ho⟩;exact⟨rfl,rfl,(gO (w:=w)).trans ho (by simp)⟩
instance svF {a b c d v:Value} {xs ys:List Value} {j:Nat} [h:PO xs j v ys]:PO (a::b::c::d::xs) (j+4) v (a::b::c::d::ys):=⟨by simp only[List.set_cons_succ,h.h]⟩
def jJ (g:Fg):List Value:=[.bool g.drop,.int .i64 g.hd.leap,.int .i64 g.hd.ver,.int .i64 g.hd.mode,.int .i64 g.hd.strat,.int .i64 g.hd.poll,.int .i64 g.hd.prec,.int .u32 g.hd.rdel,.int .u32 g.hd.rdsp,.int .u32 g.hd.rid,.int .u64 g.hd.ref,.int .u64 g.hd.org,.int .u64 g.hd.rcv,.int .u64 g.hd.xmt,.int .i64 g.iv.lo,.int .i64 g.iv.hi,.int .i64 g.hold]
def ClsR (b:Nat) (g:Fg) (w:World) (e:Ending) (w':World):Prop:=(e=.returned (.tuple #[])\/∃ x,e=.panicked (pnc x))/\(w'.heap[b]? = some (.cells (jJ g).toArray 315 (0,0))/\Oy [b] w w')
theorem pForge1 {w:World} {b0 bf ba bs:Nat} {g:Fg} {f:Ft} {t:Int} (h0:w.heap[b0]? = some (.cells #[.pointer (some ⟨bs,0,none⟩)] 325 (0,0))) (hf:w.heap[bf]? = some (.cells #[.int .i64 f.n,.int .i64 f.f,.int .i64 f.t,.int .i64 f.k,.int .i64 f.v] 44 (0,0))) (ha:w.heap[ba]? = some (.cells #[.int .i64 t] 3 (0,0))) (hs:w.heap[bs]? = some (.cells (jJ g).toArray 315 (0,0)))
  (n1:bf≠b0) (n2:ba≠bf) (n3:ba≠b0) (n4:bs≠ba) (n5:bs≠bf) (n6:bs≠b0) (t0:0<=t) (t1:t<=1125899906842624) (v0: -1125899906842624<=f.v) (v1:f.v<=1125899906842624) :
  Calls Tryz.prog 188 #[.pointer (some ⟨b0,0,none⟩),.pointer (some ⟨bf,0,none⟩),.pointer (some ⟨ba,0,none⟩)] w (ClsR bs (g.wW (jC g.hd.rcv f.v t)) w):=by
 have HE:Hid (jC g.hd.rcv f.v t=if (oF g.hd.rcv (3900000000000000000+t)).2=0 then some (mF ((oF g.hd.rcv (3900000000000000000+t)).1+f.v)) else none):=aA rfl;have H0:=aA (fun h w'=>EU g.hd.rcv f.v t t0 t1 v0 v1 h w');have HP:=aA (fun h w'=>ES g.hd.rcv f.v t t0 t1 h w');generalize jC g.hd.rcv f.v t=o at HE |-;clear t0 t1 v0 v1;have m:Mm w [bs] w _:=⟨((((Mem.start w [bs]).ext false h0 (by simp) (by simp)).ext false hf (by simpa using n1) (by simp)).ext false ha (by simp[n2,n3]) (by simp)).ext true hs (by simp[n4,n5,n6]) (by simp)⟩;have k:=m.zK;clear h0 hf ha;have hsx:=aA hs;clear hs;by_cases hz:(oF g.hd.rcv (3900000000000000000+t)).2=0
 ·have H0:=aA (H0.out hz)
  rw[if_pos hz] at HE;obtain rfl:=HE.out;clear HE HP hz;generalize mF ((oF g.hd.rcv (3900000000000000000+t)).1+f.v)=z at H0 |-;obtain⟨gd,⟨q1,q2,q3,q4,q5,q6,q7,q8,q9,qa,qb,qc,qd⟩,⟨v1,v2⟩,gh⟩:=g;obtain⟨f1,f2,f3,f4,f5⟩:=f;unfold jJ at m k;dsimp only at m k H0;go_enter Tryz.func188,Tryz.ntmps188
  go_wp2_with (first|((with_reducible first|refine cM (H0.out _) ?_|refine cU ?_|refine wU ?_);clear k m;intro w m k)|((with_reducible refine iY (id:=0) [0,1,2,3,4,5,6,7,8,9,10,11,12] [13] ?_);simp only[bV];(repeat' (first|go_big_quiet_step (with_reducible first|exact gX (H0.out _))|(refine wpQuiet_step (fun K hK=>?_);go_simp;(first|(refine hK _ ?_;clear hK K)|(split<;>(refine hK _ ?_;clear hK K))))));all_goals (refine wpQuiet_nil ?_;clear k m;intro w m k))|((with_reducible refine lN ?_ ?_ (fun w o g=>?_));(. rfl);(. rfl);exact⟨.inl rfl,Has.h w g,o⟩))
 ·replace HP:=aA (HP.out hz)
  rw[if_neg hz] at HE;obtain rfl:=HE.out;clear HE H0 hz;generalize (oF g.hd.rcv (3900000000000000000+t)).2=z at HP;obtain⟨gd,⟨q1,q2,q3,q4,q5,q6,q7,q8,q9,qa,qb,qc,qd⟩,⟨v1,v2⟩,gh⟩:=g;obtain⟨f1,f2,f3,f4,f5⟩:=f;unfold jJ at m k;dsimp only at m k HP;obtain⟨wx,rfl⟩:∃ wx:World,wx=w:=⟨_,rfl⟩;go_enter Tryz.func188,Tryz.ntmps188
  go_wp2_with fail
  refine jY [0,1,2,3,4,5,6,7,8] [] (OnlyC [] wx) (fun _ _=>False) (fun c d w'=>c=pnc z/\d=[]/\Oy [] wx w') (by kernel_rfl) (by kernel_rfl) ?_ (fun _ _ q=>q.elim) ?_;simp only[bV];iterate 9 (refine aJ (fun K hK=>?_);go_simp;refine hK _ ?_;clear hK K)
  refine aK ?_;refine qI [9] (by kernel_rfl) (by simp) (.inr (bC (aR [] wx).drew)) ?_;simp only[eD];refine wP rfl ?_;go_wp2_with fail
  refine (HP.out _).mono ?_;rintro e w2 ⟨rfl,ho⟩;exact⟨rfl,rfl,(aR [] wx).drew.aB ho⟩;rintro c a' w' ⟨rfl,hd,ho⟩;exact⟨hd,.inr ⟨_,rfl⟩,ho.got hsx.out (by simp),ho.weak (by simp)⟩
theorem pForge2 {w:World} {b0 bf ba bs:Nat} {g:Fg} {f:Ft} {t:Int} (h0:w.heap[b0]? = some (.cells #[.pointer (some ⟨bs,0,none⟩)] 325 (0,0))) (hf:w.heap[bf]? = some (.cells #[.int .i64 f.n,.int .i64 f.f,.int .i64 f.t,.int .i64 f.k,.int .i64 f.v] 44 (0,0))) (ha:w.heap[ba]? = some (.cells #[.int .i64 t] 3 (0,0))) (hs:w.heap[bs]? = some (.cells (jJ g).toArray 315 (0,0)))
  (n1:bf≠b0) (n2:ba≠bf) (n3:ba≠b0) (n4:bs≠ba) (n5:bs≠bf) (n6:bs≠b0) (t0:0<=t) (t1:t<=1125899906842624) (v0: -1125899906842624<=f.v) (v1:f.v<=1125899906842624) :
  Calls Tryz.prog 190 #[.pointer (some ⟨b0,0,none⟩),.pointer (some ⟨bf,0,none⟩),.pointer (some ⟨ba,0,none⟩)] w (ClsR bs (g.GL (jC g.hd.xmt f.v t)) w):=by
 have HE:Hid (jC g.hd.xmt f.v t=if (oF g.hd.xmt (3900000000000000000+t)).2=0 then some (mF ((oF g.hd.xmt (3900000000000000000+t)).1+f.v)) else none):=aA rfl;have H0:=aA (fun h w'=>EU g.hd.xmt f.v t t0 t1 v0 v1 h w');have HP:=aA (fun h w'=>ES g.hd.xmt f.v t t0 t1 h w');generalize jC g.hd.xmt f.v t=o at HE |-;clear t0 t1 v0 v1;have m:Mm w [bs] w _:=⟨((((Mem.start w [bs]).ext false h0 (by simp) (by simp)).ext false hf (by simpa using n1) (by simp)).ext false ha (by simp[n2,n3]) (by simp)).ext true hs (by simp[n4,n5,n6]) (by simp)⟩;have k:=m.zK;clear h0 hf ha;have hsx:=aA hs;clear hs;by_cases hz:(oF g.hd.xmt (3900000000000000000+t)).2=0
 ·have H0:=aA (H0.out hz)
  rw[if_pos hz] at HE;obtain rfl:=HE.out;clear HE HP hz;generalize mF ((oF g.hd.xmt (3900000000000000000+t)).1+f.v)=z at H0 |-;obtain⟨gd,⟨q1,q2,q3,q4,q5,q6,q7,q8,q9,qa,qb,qc,qd⟩,⟨v1,v2⟩,gh⟩:=g;obtain⟨f1,f2,f3,f4,f5⟩:=f;unfold jJ at m k;dsimp only at m k H0;go_enter Tryz.func190,Tryz.ntmps190
  go_wp2_with (first|((with_reducible first|refine cM (H0.out _) ?_|refine cU ?_|refine wU ?_);clear k m;intro w m k)|((with_reducible refine iY (id:=0) [0,1,2,3,4,5,6,7,8,9,10,11,12] [13] ?_);simp only[bV];(repeat' (first|go_big_quiet_step (with_reducible first|exact gX (H0.out _))|(refine wpQuiet_step (fun K hK=>?_);go_simp;(first|(refine hK _ ?_;clear hK K)|(split<;>(refine hK _ ?_;clear hK K))))));all_goals (refine wpQuiet_nil ?_;clear k m;intro w m k))|((with_reducible refine lN ?_ ?_ (fun w o g=>?_));(. rfl);(. rfl);exact⟨.inl rfl,Has.h w g,o⟩))
 ·replace HP:=aA (HP.out hz)
  rw[if_neg hz] at HE;obtain rfl:=HE.out;clear HE H0 hz;generalize (oF g.hd.xmt (3900000000000000000+t)).2=z at HP;obtain⟨gd,⟨q1,q2,q3,q4,q5,q6,q7,q8,q9,qa,qb,qc,qd⟩,⟨v1,v2⟩,gh⟩:=g;obtain⟨f1,f2,f3,f4,f5⟩:=f;unfold jJ at m k;dsimp only at m k HP;obtain⟨wx,rfl⟩:∃ wx:World,wx=w:=⟨_,rfl⟩;go_enter Tryz.func190,Tryz.ntmps190
  go_wp2_with fail
  refine jY [0,1,2,3,4,5,6,7,8] [] (OnlyC [] wx) (fun _ _=>False) (fun c d w'=>c=pnc z/\d=[]/\Oy [] wx w') (by kernel_rfl) (by kernel_rfl) ?_ (fun _ _ q=>q.elim) ?_;simp only[bV];iterate 9 (refine aJ (fun K hK=>?_);go_simp;refine hK _ ?_;clear hK K)
  refine aK ?_;refine qI [9] (by kernel_rfl) (by simp) (.inr (bC (aR [] wx).drew)) ?_;simp only[eD];refine wP rfl ?_;go_wp2_with fail
  refine (HP.out _).mono ?_;rintro e w2 ⟨rfl,ho⟩;exact⟨rfl,rfl,(aR [] wx).drew.aB ho⟩;rintro c a' w' ⟨rfl,hd,ho⟩;exact⟨hd,.inr ⟨_,rfl⟩,ho.got hsx.out (by simp),ho.weak (by simp)⟩
def LB (x:Iv) (v:Int):Iv × Int:=if bU x=true then U9 (x.lo+v) (x.hi+v) else (⟨0,0⟩,2)
theorem dshF_R (x:Iv) (v:Int):LC x v=if (LB x v).2=0 then some (LB x v).1 else none:=by
 unfold LC LB U9;split
 ·split<;>rfl
 ·rfl
theorem KU (n:Int):bits .and .i64 n 1=n % 2:=by
 have hm:(BitVec.ofInt 64 1).toNat=2 ^ 1-1:=by decide
 have key:(BitVec.ofInt 64 n &&& BitVec.ofInt 64 1).toNat=(n % ((2 ^ 64:Nat):Int)).toNat % 2 ^ 1:=by
  rw[BitVec.toNat_and,BitVec.toNat_ofInt,hm,Nat.and_two_pow_sub_one_eq_mod]
 show wrap .i64 ((BitVec.ofInt 64 n &&& BitVec.ofInt 64 1).toNat:Nat)=n % 2
 rw[key,wrap_i64];omega
theorem pDShift (x:Iv) (v:Int) (v0: -1125899906842624<=v) (v1:v<=1125899906842624) (w:World) :
  Calls Tryz.prog 192 #[dV x,.int .i64 v] w fun e w'=>e=.returned (.tuple #[dV (LB x v).1,.int .i64 (LB x v).2])/\Oy [] w w':=by
 have HC:=aA (fun w'=>dD x w');have hb:=fun h=>nR.1 (show bU x=true from h);obtain⟨res,HE⟩:∃ zz,Hid (LB x v=zz):=⟨_,aA rfl⟩;rw[HE.out];unfold LB at HE;obtain⟨lo,hi⟩:=x;dsimp only at HE hb;generalize bU ⟨lo,hi⟩=b at HC HE hb;unfold dV at HC |-;dsimp only at HC |-
 cases b
 ·simp only[Bool.false_eq_true,if_false] at HC HE
  obtain rfl:=HE.out;clear HE hb;have m:=bJ w [];have k:=m.zK;go_enter Tryz.func192,Tryz.ntmps192
  go_wp2_with (first|((with_reducible first|refine cM (HC.out _) ?_|refine wU ?_);clear k m;intro w m k)|((with_reducible refine lE (fun w o g k K hK=>⟨rfl,?_⟩));simp[results,Tryz.results192,go_sem,k];refine hK _ ?_;exact⟨rfl,o⟩))
 ·simp only[if_true] at HC HE
  obtain⟨a0,a1,a2⟩:=hb rfl;have H1:=aA (fun w'=>eqO (fadd lo v w' (by omega) (by omega) (by omega) (by omega)));have H2:=aA (fun w'=>eqO (fadd hi v w' (by omega) (by omega) (by omega) (by omega)));rw[gH (by omega) (by omega),gV (by omega) (by omega)] at H1 H2;have HK:=aA (fun w'=>CG (lo+v) (hi+v) w');generalize U9 (lo+v) (hi+v)=r at HK HE;obtain rfl:=HE.out;clear HE hb a0 a1 a2 v0 v1;obtain⟨⟨r1,r2⟩,r3⟩:=r;unfold dV at HK;dsimp only at HK |-;generalize lo+v=y1 at H1 HK;generalize hi+v=y2 at H2 HK;have m:=bJ w [];have k:=m.zK;go_enter Tryz.func192,Tryz.ntmps192
  go_wp2_with (first|((with_reducible first|refine cM (HC.out _) ?_|refine cM (H1.out _) ?_|refine cM (H2.out _) ?_|refine cM (HK.out _) ?_|refine wU ?_);clear k m;intro w m k)|((with_reducible refine lE (fun w o g k K hK=>⟨rfl,?_⟩));simp[results,Tryz.results192,go_sem,k];refine hK _ ?_;exact⟨rfl,o⟩))
theorem pForge3 {w:World} {b0 bf bs:Nat} {g:Fg} {f:Ft} (h0:w.heap[b0]? = some (.cells #[.pointer (some ⟨bs,0,none⟩)] 325 (0,0))) (hf:w.heap[bf]? = some (.cells #[.int .i64 f.n,.int .i64 f.f,.int .i64 f.t,.int .i64 f.k,.int .i64 f.v] 44 (0,0))) (hs:w.heap[bs]? = some (.cells (jJ g).toArray 315 (0,0)))
  (n1:bf≠b0) (n5:bs≠bf) (n6:bs≠b0) (v0: -1125899906842624<=f.v) (v1:f.v<=1125899906842624) :
  Calls Tryz.prog 191 #[.pointer (some ⟨b0,0,none⟩),.pointer (some ⟨bf,0,none⟩)] w (ClsR bs (g.yV (LC g.iv f.v)) w):=by
 have HS:=aA (fun w'=>pDShift g.iv f.v v0 v1 w');have HE:=aA (dshF_R g.iv f.v);generalize LC g.iv f.v=o at HE |-;generalize LB g.iv f.v=r at HS HE;obtain⟨⟨r1,r2⟩,r3⟩:=r;dsimp only at HS HE;clear v0 v1;have m:Mm w [bs] w _:=⟨(((Mem.start w [bs]).ext false h0 (by simp) (by simp)).ext false hf (by simpa using n1) (by simp)).ext true hs (by simp[n5,n6]) (by simp)⟩;have k:=m.zK;clear h0 hf;have hsx:=aA hs;clear hs;obtain⟨gd,⟨q1,q2,q3,q4,q5,q6,q7,q8,q9,qa,qb,qc,qd⟩,⟨x1,x2⟩,gh⟩:=g;obtain⟨f1,f2,f3,f4,f5⟩:=f;unfold jJ at m k;unfold dV at HS;dsimp only at HS m k;by_cases hz:r3=0
 ·subst hz
  rw[if_pos rfl] at HE;obtain rfl:=HE.out;clear HE;go_enter Tryz.func191,Tryz.ntmps191
  go_wp2_with (first|((with_reducible first|refine cM (G9 _) ?_|refine cU ?_|refine wU ?_);clear k m;intro w m k)|((with_reducible refine rA (id:=0) [0,1,2,3,4,5,6,7,8] [9] 10 [11,12] (by kernel_rfl) (by kernel_rfl) ?_);simp only[bV];(repeat (first|(refine aQ (fun K hK=>?_);go_simp;refine hK _ ?_;clear hK K)|(refine cG (by kernel_rfl) ⟨_,_,_,?_,fun w' o=>HS.out w',?_⟩;(focus (intro w;go_simp;done)))));refine aS ?_;(repeat (refine aJ (fun K hK=>?_);go_simp;refine hK _ ?_;clear hK K));refine aK ?_;clear k m;intro w o m k;refine aD rfl ?_;go_wp2;simp only[bA];refine⟨o.alloc _,tW ?_⟩;clear o;clear k m;intro w m k;unfold aV;refine aD rfl ?_;go_wp2;simp only[bA];refine tW ?_;clear k m;intro w m k;unfold aV;refine aD rfl ?_;go_wp2;simp only[bA];refine tW ?_;clear k m;intro w m k;unfold aV)|((with_reducible refine lN ?_ ?_ (fun w o g=>?_));(. rfl);(. rfl);exact⟨.inl rfl,Has.h w g,o⟩))
 ·rw[if_neg hz] at HE
  obtain rfl:=HE.out;have HP:=aA (fun w'=>ND r3 hz w');clear HE hz;go_enter Tryz.func191,Tryz.ntmps191
  go_wp2_with (first|((with_reducible refine rA (id:=0) [0,1,2,3,4,5,6,7,8] [9] 10 [11,12] (by kernel_rfl) (by kernel_rfl) ?_);simp only[bV];(repeat (first|(refine aQ (fun K hK=>?_);go_simp;refine hK _ ?_;clear hK K)|(refine cG (by kernel_rfl) ⟨_,_,_,?_,fun w' o=>HS.out w',?_⟩;(focus (intro w;go_simp;done)))));refine aS ?_;(repeat (refine aJ (fun K hK=>?_);go_simp;refine hK _ ?_;clear hK K));refine aK ?_;clear k m;intro w o m k;refine aD rfl ?_;go_wp2;simp only[bA];refine⟨o.alloc _,tW ?_⟩;clear o;clear k m;intro w m k;unfold aV;refine aD rfl ?_;go_wp2;simp only[bA];refine tW ?_;clear k m;intro w m k;unfold aV;refine aD rfl ?_;go_wp2;simp only[bA];refine tW ?_;clear k m;intro w m k;unfold aV)|((with_reducible first|refine cU ?_|refine wU ?_);clear k m;intro w m k))
  refine (HP.out _).mono ?_;rintro e w2 ⟨rfl,ho⟩;exact⟨rfl,.inr ⟨_,rfl⟩,ho.got (gB (w:=w) (b:=bs)) (by simp),(gO (w:=w)).trans ho (by simp)⟩
theorem YM (x:Iv) (v:Int) (v0: -1125899906842624<=v) (v1:v<=1125899906842624) (h1:bU x=true) (h2:bU ⟨iN x+v,iN x+v⟩=true) (w:World) :
  Calls Tryz.prog 195 #[dV x,.int .i64 v] w fun e w'=>e=.returned (dV ⟨iN x+v,iN x+v⟩)/\Oy [] w w':=by
 have HC:=aA (fun w'=>dD x w');have HM:Hid (iN x=x.lo / 2+x.hi / 2+bits .and .i64 (bits .and .i64 x.lo x.hi) 1):=aA rfl;have hb:=nR.1 h1;obtain⟨lo,hi⟩:=x;dsimp only at hb HM;obtain⟨c,hc⟩:∃ c,bits .and .i64 (bits .and .i64 lo hi) 1=c:=⟨_,rfl⟩;have hcb:0<=c/\c<=1:=by rw[<-hc,KU];omega
 rw[hc] at HM;rw[if_pos h1] at HC;have e1:wrap .i64 (lo / 2+hi / 2)=lo / 2+hi / 2:=by rw[wrap_i64];omega
 have e2:wrap .i64 (lo / 2+hi / 2+c)=iN ⟨lo,hi⟩:=by rw[HM.out,wrap_i64];omega
 obtain⟨y,hy⟩:∃ y,iN ⟨lo,hi⟩+v=y:=⟨_,rfl⟩;have hmb: -8000000000000000001<=iN ⟨lo,hi⟩/\iN ⟨lo,hi⟩<=8000000000000000001:=by rw[HM.out];omega
 have e3:wrap .i64 (iN ⟨lo,hi⟩+v)=y:=by rw[wrap_i64];omega
 rw[hy] at h2 |-;have HC2:=aA (fun w'=>dD ⟨y,y⟩ w');rw[if_pos h2] at HC2;unfold dV at HC HC2 |-;dsimp only at HC HC2 |-;generalize iN ⟨lo,hi⟩=mm at e2 e3;clear HM hb hcb h1 h2 v0 v1 hy hmb;have m:=bJ w [];have k:=m.zK;go_enter Tryz.func195,Tryz.ntmps195
 go_wp2_with (first|((with_reducible first|refine cM (HC.out _) ?_|refine cM (HC2.out _) ?_|refine cM (G9 _) ?_|refine wU ?_);clear k m;intro w m k)|((with_reducible refine lE (fun w o g k K hK=>⟨rfl,?_⟩));simp[results,Tryz.results195,go_sem,k];refine hK _ ?_;exact⟨rfl,o⟩))
theorem YL (x:Iv) (v:Int) (v0: -1125899906842624<=v) (v1:v<=1125899906842624) (h:IE x v=none) (w:World) :
  Calls Tryz.prog 195 #[dV x,.int .i64 v] w fun e w'=>e=.panicked (pnc 3)/\Oy [] w w':=by
 have HC:=aA (fun w'=>dD x w');have HM:Hid (iN x=x.lo / 2+x.hi / 2+bits .and .i64 (bits .and .i64 x.lo x.hi) 1):=aA rfl;have HP:=aA (fun w'=>ND 3 (by decide) w');unfold IE at h;by_cases h1:bU x=true
 ·have h2:¬ bU ⟨iN x+v,iN x+v⟩=true:=fun q=>by rw[if_pos h1,if_pos q] at h;cases h
  clear h;have hb:=nR.1 h1;obtain⟨lo,hi⟩:=x;dsimp only at hb HM;obtain⟨c,hc⟩:∃ c,bits .and .i64 (bits .and .i64 lo hi) 1=c:=⟨_,rfl⟩;have hcb:0<=c/\c<=1:=by rw[<-hc,KU];omega
  rw[hc] at HM;rw[if_pos h1] at HC;have e1:wrap .i64 (lo / 2+hi / 2)=lo / 2+hi / 2:=by rw[wrap_i64];omega
  have e2:wrap .i64 (lo / 2+hi / 2+c)=iN ⟨lo,hi⟩:=by rw[HM.out,wrap_i64];omega
  obtain⟨y,hy⟩:∃ y,iN ⟨lo,hi⟩+v=y:=⟨_,rfl⟩;have hmb: -8000000000000000001<=iN ⟨lo,hi⟩/\iN ⟨lo,hi⟩<=8000000000000000001:=by rw[HM.out];omega
  have e3:wrap .i64 (iN ⟨lo,hi⟩+v)=y:=by rw[wrap_i64];omega
  rw[hy] at h2;have HC2:=aA (fun w'=>dD ⟨y,y⟩ w');rw[if_neg h2] at HC2;unfold dV at HC HC2 |-;dsimp only at HC HC2 |-;generalize iN ⟨lo,hi⟩=mm at e2 e3;clear HM hb hcb h1 h2 v0 v1 hy hmb;have m:=bJ w [];have k:=m.zK;go_enter Tryz.func195,Tryz.ntmps195
  go_wp2_with ((with_reducible first|refine cM (HC.out _) ?_|refine cM (HC2.out _) ?_|refine cM (G9 _) ?_|refine wU ?_);clear k m;intro w m k)
  refine (HP.out _).mono ?_;rintro e w2 ⟨rfl,ho⟩;exact⟨rfl,rfl,(gO (w:=w)).trans ho (by simp)⟩
 ·rw[if_neg h1] at HC
  obtain⟨lo,hi⟩:=x;unfold dV at HC |-;dsimp only at HC |-;clear HM h h1 v0 v1;have m:=bJ w [];have k:=m.zK;go_enter Tryz.func195,Tryz.ntmps195
  go_wp2_with ((with_reducible first|refine cM (HC.out _) ?_|refine wU ?_);clear k m;intro w m k)
  refine (HP.out _).mono ?_;rintro e w2 ⟨rfl,ho⟩;exact⟨rfl,rfl,(gO (w:=w)).trans ho (by simp)⟩
theorem pForge4 {w:World} {b0 bf bs:Nat} {g:Fg} {f:Ft} (h0:w.heap[b0]? = some (.cells #[.pointer (some ⟨bs,0,none⟩)] 325 (0,0))) (hf:w.heap[bf]? = some (.cells #[.int .i64 f.n,.int .i64 f.f,.int .i64 f.t,.int .i64 f.k,.int .i64 f.v] 44 (0,0))) (hs:w.heap[bs]? = some (.cells (jJ g).toArray 315 (0,0)))
  (n1:bf≠b0) (n5:bs≠bf) (n6:bs≠b0) (v0: -1125899906842624<=f.v) (v1:f.v<=1125899906842624) :
  Calls Tryz.prog 194 #[.pointer (some ⟨b0,0,none⟩),.pointer (some ⟨bf,0,none⟩)] w (ClsR bs (g.yV (IE g.iv f.v)) w):=by
 have H0:=aA (fun h1 h2 w'=>YM g.iv f.v v0 v1 h1 h2 w');have HP:=aA (fun h w'=>YL g.iv f.v v0 v1 h w');have HE:Hid (IE g.iv f.v=if bU g.iv=true then (if bU ⟨iN g.iv+f.v,iN g.iv+f.v⟩=true then some ⟨iN g.iv+f.v,iN g.iv+f.v⟩ else none) else none):=aA rfl;clear v0 v1;have m:Mm w [bs] w _:=⟨(((Mem.start w [bs]).ext false h0 (by simp) (by simp)).ext false hf (by simpa using n1) (by simp)).ext true hs (by simp[n5,n6]) (by simp)⟩;have k:=m.zK;clear h0 hf;have hsx:=aA hs;clear hs;by_cases hz:bU g.iv=true/\bU ⟨iN g.iv+f.v,iN g.iv+f.v⟩=true
 ·replace H0:=aA (H0.out hz.1 hz.2)
  rw[if_pos hz.1,if_pos hz.2] at HE;rw[HE.out];clear HE HP hz;generalize iN g.iv+f.v=y at H0 |-;obtain⟨gd,⟨q1,q2,q3,q4,q5,q6,q7,q8,q9,qa,qb,qc,qd⟩,⟨x1,x2⟩,gh⟩:=g;obtain⟨f1,f2,f3,f4,f5⟩:=f;unfold jJ at m k;unfold dV at H0;dsimp only at H0 m k;go_enter Tryz.func194,Tryz.ntmps194
  go_wp2_with (first|((with_reducible first|refine cM (H0.out _) ?_|refine cU ?_|refine wU ?_);clear k m;intro w m k)|((with_reducible refine iY (id:=0) [0,1,2,3,4,5,6,7,8,9] [10] ?_);simp only[bV];(repeat' (first|go_big_quiet_step (with_reducible first|exact gX (H0.out _))|(refine wpQuiet_step (fun K hK=>?_);go_simp;(first|(refine hK _ ?_;clear hK K)|(split<;>(refine hK _ ?_;clear hK K))))));all_goals (refine wpQuiet_nil ?_;clear k m;intro w m k))|((with_reducible refine lN ?_ ?_ (fun w o g=>?_));(. rfl);(. rfl);exact⟨.inl rfl,Has.h w g,o⟩))
 ·have hn:IE g.iv f.v=none:=by
   rw[HE.out];by_cases q:bU g.iv=true
   ·rw[if_pos q,if_neg (fun q2=>hz ⟨q,q2⟩)]
   ·rw[if_neg q]
  replace HP:=aA (HP.out hn);rw[hn];clear HE H0 hz hn;obtain⟨z,hz⟩:∃ z:Int,z=3:=⟨_,rfl⟩;rw[<-hz] at HP;clear hz;obtain⟨gd,⟨q1,q2,q3,q4,q5,q6,q7,q8,q9,qa,qb,qc,qd⟩,⟨x1,x2⟩,gh⟩:=g;obtain⟨f1,f2,f3,f4,f5⟩:=f;unfold jJ at m k;unfold dV at HP;dsimp only at HP m k;obtain⟨wx,rfl⟩:∃ wx:World,wx=w:=⟨_,rfl⟩;go_enter Tryz.func194,Tryz.ntmps194
  go_wp2_with fail
  refine jY [0,1,2,3,4,5,6] [] (OnlyC [] wx) (fun _ _=>False) (fun c d w'=>c=pnc z/\d=[]/\Oy [] wx w') (by kernel_rfl) (by kernel_rfl) ?_ (fun _ _ q=>q.elim) ?_;simp only[bV];iterate 7 (refine aJ (fun K hK=>?_);go_simp;refine hK _ ?_;clear hK K)
  refine aK ?_;refine qI [7] (by kernel_rfl) (by simp) (.inr (bC (aR [] wx).drew)) ?_;simp only[eD];refine wP rfl ?_;go_wp2_with fail
  refine (HP.out _).mono ?_;rintro e w2 ⟨rfl,ho⟩;exact⟨rfl,rfl,(aR [] wx).drew.aB ho⟩;rintro c a' w' ⟨rfl,hd,ho⟩;exact⟨hd,.inr ⟨_,rfl⟩,ho.got hsx.out (by simp),ho.weak (by simp)⟩
end
theorem KM (w:World) (e:TypeId) (s:ByteArray):Oy [] w (Lib.bytesWorld w e s):=
 ⟨rfl,rfl,rfl,by rw[Lib.bytesWorld_size];omega,fun k hk _=>Lib.bytesWorld_at_old w e s k hk⟩
def VK (w:World) (b:Nat):Prop:=b<w.heap.size/\w.cell? ⟨b,0,none⟩=some (.int .u8 82)/\w.cell? ⟨b,1,none⟩=some (.int .u8 65)/\w.cell? ⟨b,2,none⟩=some (.int .u8 84)/\w.cell? ⟨b,3,none⟩=some (.int .u8 69)
theorem VK.kept {w w':World} {b:Nat} (h:VK w b) (ho:Oy [] w w'):VK w' b:=
 ⟨Nat.lt_of_lt_of_le h.1 ho.size,(ho.cell h.1 (by simp)).trans h.2.1,(ho.cell h.1 (by simp)).trans h.2.2.1,(ho.cell h.1 (by simp)).trans h.2.2.2.1,(ho.cell h.1 (by simp)).trans h.2.2.2.2⟩
theorem pNum4 {w:World} {b:Nat} (h:VK w b) (n:Nat) :
  Calls Tryz.prog 217 #[.slice (some ⟨b,0,none⟩) 4 n] w fun e w'=>e=.returned (.int .u64 1380013125)/\Oy [] w w':=by
 obtain⟨wo,rfl⟩:∃ wo:World,wo=w:=⟨_,rfl⟩;have HX:=aA (show ∀ w',Oy [] wo w'->b<w'.heap.size/\w'.cell? ⟨b,0,none⟩=some (.int .u8 82)/\w'.cell? ⟨b,1,none⟩=some (.int .u8 65)/\w'.cell? ⟨b,2,none⟩=some (.int .u8 84)/\w'.cell? ⟨b,3,none⟩=some (.int .u8 69) from fun w' o=>h.kept o);clear h;have m:=bJ wo [];have k:=m.zK;have c:=HX.out wo (aR _ _);go_enter Tryz.func217,Tryz.ntmps217
 go_wp2_with fail
 refine wp_loop_rounds 5 ?_;repeat (rw[rounds_succ];go_wp2_with (first|((with_reducible first|refine cU ?_|refine wU ?_);clear k m c;intro w m k;have c:=HX.out w m.zO)|((with_reducible refine lE (fun w o g k K hK=>⟨rfl,?_⟩));simp[results,Tryz.results217,go_sem];refine hK _ ?_;exact⟨rfl,o⟩)))
theorem pSized4  (w:World) :
  Calls Tryz.prog 216 #[.int .i64 4] w fun e w'=>e=.returned (.bool true)/\Oy [] w w':=by
 have m:=bJ w [];have k:=m.zK;go_enter Tryz.func216,Tryz.ntmps216
 go_wp2_with (first|((with_reducible refine wU ?_);clear k m;intro w m k)|((with_reducible refine lE (fun w o g k K hK=>⟨rfl,?_⟩));simp[results,Tryz.results216,go_sem];refine hK _ ?_;exact⟨rfl,o⟩))
theorem pGet4 {w:World} {b:Nat} (h:VK w b) (n:Nat) (hn:4<=n) :
  Calls Tryz.prog 207 #[.slice (some ⟨b,0,none⟩) 4 n,.int .i64 0,.int .i64 4] w fun e w'=>e=.returned (.tuple #[.int .u64 1380013125,.int .i64 0])/\Oy [] w w':=by
 have HN:=aA (fun w' (o:Oy [] w w')=>pNum4 (h.kept o) n);clear h;have m:=bJ w [];have k:=m.zK;go_enter Tryz.func207,Tryz.ntmps207
 go_wp2_with (first|((with_reducible first|refine cM (pSized4 _) ?_|refine cM (HN.out _ gO) ?_|refine wU ?_);clear k m;intro w m k)|((with_reducible refine lE (fun w o g k K hK=>⟨rfl,?_⟩));simp[results,Tryz.results207,go_sem];refine hK _ ?_;exact⟨rfl,o⟩))
theorem pCodeR (w:World) :
  Calls Tryz.prog 196 #[.string ⟨#[82,65,84,69]⟩] w fun e w'=>e=.returned (.tuple #[.int .u32 1380013125,.int .i64 0])/\Oy [] w w':=by
 have HI:=aA (fun w'=>QS [82,65,84,69] rfl (by decide) w');rw[show ([82,65,84,69]:List Int).all D7=true from by decide,show strOfNums [82,65,84,69]=⟨#[82,65,84,69]⟩ from by decide] at HI;have hcv:∀ w:World,(convert 9 347 (.string ⟨#[82,65,84,69]⟩)).run Tryz.prog w=.ok (.slice (some ⟨w.heap.size,0,none⟩) 4 (grownCap w 4 0 5)) (Lib.bytesWorld w 5 ⟨#[82,65,84,69]⟩):=fun w=>Lib.run_convert_string_bytes w _ _ _ _ Tryz.underlying9 Tryz.underlying347 Tryz.underlying5;have hm:wrap .u32 1380013125=1380013125:=by decide
 obtain⟨w0,rfl⟩:∃ w0:World,w0=w:=⟨_,rfl⟩;have m:=bJ w0 [];have k:=m.zK;go_enter Tryz.func196,Tryz.ntmps196
 go_wp2_with ((with_reducible first|refine cM (HI.out _) ?_|refine cU ?_|refine wU ?_);clear k m;intro w m k)
 have hR:VK (Lib.bytesWorld w 5 ⟨#[82,65,84,69]⟩) w.heap.size:=⟨by rw[Lib.bytesWorld_size];omega,Lib.bytesWorld_cell w _ _ 0 (by decide),Lib.bytesWorld_cell w _ _ 1 (by decide),Lib.bytesWorld_cell w _ _ 2 (by decide),Lib.bytesWorld_cell w _ _ 3 (by decide)⟩;have OW:=aA (gO.trans (KM w 5 ⟨#[82,65,84,69]⟩) (by simp):Oy [] w0 _);refine (pGet4 hR _ (grownCap_ge _ _ _ _)).mono ?_;rintro e w2 ⟨rfl,ho⟩;replace OW:=aA (OW.out.trans ho (by simp));clear m k hR ho hcv HI;have m:=bJ w2 [];have k:=m.zK;go_wp2_with (first|((with_reducible first|refine cU ?_|refine wU ?_);clear k m;intro w m k)|((with_reducible refine lE (fun w o g k K hK=>⟨rfl,?_⟩));simp[results,Tryz.results196,go_sem];refine hK _ ?_;exact⟨rfl,OW.out.trans o (by simp)⟩))
end Go.Proofs.YtppjhbjmfkiejaaGreat
