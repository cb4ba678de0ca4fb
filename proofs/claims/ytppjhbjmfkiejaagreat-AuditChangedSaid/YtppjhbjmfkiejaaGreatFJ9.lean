/- The walks of package sample and of root.Join, dense. Conditions: those named in each theorem. -/
import Derived.Test.YtppjhbjmfkiejaaGreatFJ8
namespace Go.Proofs.YtppjhbjmfkiejaaGreat
open List (mem_singleton)
open IntKind (wrap_i64)
open IntKind (wrap)
set_option maxRecDepth 100000
set_option maxHeartbeats 4000000
open Go.RowKit
theorem LY {G:World->Prop} {w:World} {o:Obj} (h:∀ w0,w0.heap[w.heap.size]? = some o->Oy [] w w0->G w0):G (w.drew.alloc o):=
 h _ (bG w.drew o) ((aR [] w).drew.alloc o)
theorem FR {n lo hi:Int} (h:bZ n lo hi=true):dA n lo hi=n:=by
 obtain⟨h0,h1⟩:=aY.1 h;exact (FT (by omega)).2 ⟨h0,h1⟩
theorem LK {n lo hi:Int} (hl:lo<=hi) (h:bZ n lo hi=false):(dA n lo hi == n)=false:=by
 rw[beq_eq_false_iff_ne];intro e;have:=(FT hl).1 e;rw[oG] at h;exact h this
theorem sH {n lo hi:Int} (hl:lo<=hi):(dA n lo hi == n)=bZ n lo hi:=by
 cases h:bZ n lo hi
 ·exact LK hl h
 ·rw[FR h];simp
theorem QT (d tol:Int) (h0:0<=d) (h1:d<=9007199254740992) (h2:0<=tol) (h3:tol<=500000) (w:World) :
  Calls Tryz.prog 271 #[.int .i64 d,.int .i64 tol] w fun e w'=>e=.returned (.int .i64 (oV d tol))/\Oy [] w w':=by
 have hm:=md_bd (a:=tol) (b:=-d) (c:=1000000000) h2 (by omega) (by omega);have HE:Hid (oV d tol= -(-d*tol / 1000000000)):=aA rfl;have HM:=aA (fun w'=>j5 (mU (-d) tol 1000000000 w' (by omega) (by omega) (by omega) (by omega) (by omega) (by omega)));rw[Int.mul_comm tol] at hm
 have hb: -9007199254740992<= -d*tol / 1000000000/\ -d*tol / 1000000000<=0:=by
  by_cases hn: -d<0
  ·have:=hm.2 hn;omega
  ·have:=hm.1 (by omega);omega
 generalize -d*tol / 1000000000=q at HM HE hb;rw[gH (by omega) (by omega),gV (by omega) (by omega)] at HM;have w0':wrap .i64 (-d)= -d:=by rw[wrap_i64];omega
 have w1':wrap .i64 (-q)= -q:=by rw[wrap_i64];omega
 clear hm;go_enter Tryz.func271,Tryz.ntmps271
 have OO:=aA (aR [] w);go_wp2_with fail
 refine (HM.out _).mono ?_;rintro e w2 ⟨rfl,ho⟩;replace OO:=aA (OO.out.aB ho);clear ho;go_wp2;go_ret
 exact⟨by rw[HE.out];rfl,OO.out⟩
theorem EW (s:iU) (w:World) :
  Calls Tryz.prog 272 #[wV s] w fun e w'=>e=.returned (.int .i64 (gJ s))/\Oy [] w w':=by
 obtain⟨a,b,c,d⟩:=s;obtain⟨res,HE⟩:∃ r,Hid (gJ ⟨a,b,c,d⟩=r):=⟨_,aA rfl⟩;rw[HE.out];unfold gJ at HE;dsimp only at HE;have C1:=aA (fun w'=>jH (IV a (-4503599627370496) 4503599627370496 w'));have e1:(dA a (-4503599627370496) 4503599627370496 == a)=fQ a:=sH (by omega);generalize dA a (-4503599627370496) 4503599627370496=v1 at C1 e1;have C2:=aA (fun w'=>jH (IV b 0 9007199254740992 w'));have e2:(dA b 0 9007199254740992 == b)=isSp b:=sH (by omega);generalize dA b 0 9007199254740992=v2 at C2 e2;have C3:=aA (fun w'=>jH (IV c 0 9007199254740992 w'));have e3:(dA c 0 9007199254740992 == c)=isSp c:=sH (by omega);generalize dA c 0 9007199254740992=v3 at C3 e3;have C4:=aA (fun w'=>jH (IV d (-4503599627370496) 4503599627370496 w'));have e4:(dA d (-4503599627370496) 4503599627370496 == d)=fQ d:=sH (by omega);generalize dA d (-4503599627370496) 4503599627370496=v4 at C4 e4;generalize fQ a=t1 at HE e1;generalize isSp b=t2 at HE e2;generalize isSp c=t3 at HE e3;generalize fQ d=t4 at HE e4;unfold wV;dsimp only;have m:=bJ w [];have k:=m.zK;go_enter Tryz.func272,Tryz.ntmps272
 go_wp2_with (first|((with_reducible refine rA (id:=1) [0,1,2,3,4,5,6,7,8,9,10,11,12] [] 13 [14] (by kernel_rfl) (by kernel_rfl) ?_);simp only[bV];(repeat (first|(refine aQ (fun K hK=>?_);go_simp;refine hK _ ?_;clear hK K)|(refine cG (by kernel_rfl) ⟨_,_,_,?_,fun w' o=>C1.out w',?_⟩;(focus (intro w;go_simp;done)))|(refine cG (by kernel_rfl) ⟨_,_,_,?_,fun w' o=>C2.out w',?_⟩;(focus (intro w;go_simp;done)))|(refine cG (by kernel_rfl) ⟨_,_,_,?_,fun w' o=>C3.out w',?_⟩;(focus (intro w;go_simp;done)))|(refine cG (by kernel_rfl) ⟨_,_,_,?_,fun w' o=>C4.out w',?_⟩;(focus (intro w;go_simp;done)))));refine aS ?_;(repeat (refine aJ (fun K hK=>?_);go_simp;refine hK _ ?_;clear hK K));refine aK ?_;clear k m;intro w o m k;refine aD rfl ?_;go_wp2;simp only[bA];refine⟨o.alloc _,tW ?_⟩;clear o;clear k m;intro w m k;unfold aV;refine aD rfl ?_;go_wp2;simp only[bA];refine tW ?_;clear k m;intro w m k;unfold aV)|((with_reducible refine wU ?_);clear k m;intro w m k)|((with_reducible refine lE (fun w o g k K hK=>⟨rfl,?_⟩));simp[results,Tryz.results272,go_sem];refine hK _ ?_;clear hK K k;rw[<-HE.out];(go_tidy;grind)))
theorem pSDist (s:iU) (w:World) :
  Calls Tryz.prog 276 #[wV s] w fun e w'=>e=.returned (.int .i64 (yC s))/\Oy [] w w':=by
 obtain⟨a,b,c,d⟩:=s;have HC:=aA (fun w'=>EW ⟨a,b,c,d⟩ w');have hb:=fun h=>rW.1 (show gJ ⟨a,b,c,d⟩=0 from h);have HE:Hid (yC ⟨a,b,c,d⟩=if gJ ⟨a,b,c,d⟩=0 then (b+1) / 2+c else 0):=aA rfl;generalize yC ⟨a,b,c,d⟩=res at HE |-;generalize gJ ⟨a,b,c,d⟩=er at HC HE hb;unfold wV at HC |-;dsimp only at HC hb |-;by_cases hz:er=0
 focus
  obtain⟨_,⟨b0,b1⟩,⟨c0,c1⟩,_⟩:=hb hz;subst hz;have HX:=aA (fun w'=>j5 (fceil2 b w' b0 (by omega)));obtain⟨q,hq⟩:∃ q,(b+1) / 2=q:=⟨_,rfl⟩;have hqb:0<=q/\q<=4503599627370496:=by omega
  rw[hq] at HE HX;have hwr:wrap .i64 (q+c)=q+c:=by rw[wrap_i64];omega
  obtain rfl:res=q+c:=by rw[HE.out,if_pos rfl]
  clear HE hb hq;go_enter Tryz.func276,Tryz.ntmps276
  go_upto_region 1 with (fail)
  refine aG (G:=fun w0=>Code.wp _ _ _ _ w0) ?_;intro w1 hb1 ho1 hs1;obtain⟨b1,hbe1⟩:∃ b,w.heap.size=b:=⟨_,rfl⟩;rw[hbe1] at hb1;rw[hbe1];have HN:Hid (w.heap.size<=b1):=aA (by omega);have B1:=aA hb1;have OO:=aA ho1;clear hb1 hs1 hbe1;clear ho1;have k1:=uY B1.out;go_wp2_with fail
  refine (HC.out _).mono ?_;rintro e w2 ⟨rfl,ho⟩;clear k1;replace OO:=aA (OO.out.aB ho);replace B1:=aA (ho.got B1.out (by simp));clear ho;have k1:=uY B1.out;go_wp2_with fail
  refine (HX.out _).mono ?_;rintro e w3 ⟨rfl,ho⟩
 rotate_left
 focus
  have q1:(er != 0)=true:=by simpa using hz
  obtain rfl:res=0:=by rw[HE.out,if_neg hz]
  clear HE hb hz;go_enter Tryz.func276,Tryz.ntmps276
  go_upto_region 1 with (fail)
  refine aG (G:=fun w0=>Code.wp _ _ _ _ w0) ?_;intro w1 hb1 ho1 hs1;obtain⟨b1,hbe1⟩:∃ b,w.heap.size=b:=⟨_,rfl⟩;rw[hbe1] at hb1;rw[hbe1];have HN:Hid (w.heap.size<=b1):=aA (by omega);have B1:=aA hb1;have OO:=aA ho1;clear hb1 hs1 hbe1;clear ho1;have k1:=uY B1.out;go_wp2_with fail
  refine (HC.out _).mono ?_;rintro e w2 ⟨rfl,ho⟩
 rotate_left
 all_goals
  clear k1;replace OO:=aA (OO.out.aB ho);replace B1:=aA (ho.got B1.out (by simp));clear ho;have k1:=uY B1.out;go_wp2;go_ret
  exact⟨rfl,OO.out⟩
theorem pSGrow (s:iU) (now tol:Int) (w:World) :
  Calls Tryz.prog 298 #[wV s,.int .i64 now,.int .i64 tol] w fun e w'=>e=.returned (.tuple #[wV (vH s now tol).1,.int .i64 (vH s now tol).2])/\Oy [] w w':=by
 obtain⟨a,b,c,d⟩:=s;have HK:=aA (fun w'=>EW ⟨a,b,c,d⟩ w');have HT:=aA (fun w'=>vR now w');have HL:=aA (fun w'=>YS tol w');have hb:=fun h=>rW.1 (show gJ ⟨a,b,c,d⟩=0 from h);have hor:=vK ⟨a,b,c,d⟩;have hbn:=fun h=>aY.1 (show fQ now=true from h);have hbt:=fun h=>aY.1 (show zB tol=true from h);obtain⟨res,HE⟩:∃ r,Hid (vH ⟨a,b,c,d⟩ now tol=r):=⟨_,aA rfl⟩;rw[HE.out];unfold vH at HE;dsimp only at HE hb;generalize gJ ⟨a,b,c,d⟩=er at HK HE hb hor;generalize fQ now=tn at HT HE hbn;generalize zB tol=tt at HL HE hbt;unfold wV at HK |-;dsimp only at HK |-;by_cases hok:er=0/\tn=true/\tt=true/\¬ now<d
 rotate_left
 ·clear hb hbn hbt
  have m:=bJ w [];have k:=m.zK;go_enter Tryz.func298,Tryz.ntmps298
  go_wp2_with (first|((with_reducible first|refine cM (HK.out _) ?_|refine cM (HT.out _) ?_|refine cM (HL.out _) ?_|refine wU ?_);clear k m;intro w m k)|((with_reducible refine iY (id:=5) [0,1,2,3,4,5,6,7,8,9] [10] ?_);simp only[bV];(repeat' (first|go_big_quiet_step (with_reducible first|exact gX (HT.out _)|exact gX (HL.out _))|(refine wpQuiet_step (fun K hK=>?_);go_simp;(first|(refine hK _ ?_;clear hK K)|(split<;>(refine hK _ ?_;clear hK K))))));all_goals (refine wpQuiet_nil ?_;clear k m;intro w m k))|((with_reducible refine lF (fun w k=>⟨rfl,?_⟩));rw[<-HE.out];simp[results,Tryz.results298,go_sem,k]))
  all_goals first|rfl|(clear k m;go_tidy;grind [vG])|trace_state
 ·obtain⟨rfl,rfl,rfl,hlt⟩:=hok
  obtain⟨-,-,b3,b4⟩:=hb rfl;have c1:=hbn rfl;have c2:=hbt rfl;have HG:=aA (fun w'=>QT (now-d) tol (by omega) (by omega) c2.1 c2.2 w');have gb:=aAb (d:=now-d) (tol:=tol) (by omega) (by omega) c2.1 c2.2;have HC2:=aA (fun w'=>EW ⟨a,b,c+oV (now-d) tol,now⟩ w');have r1:wrap .i64 (now-d)=now-d:=by rw[wrap_i64];omega
  have r2:wrap .i64 (c+oV (now-d) tol)=c+oV (now-d) tol:=by rw[wrap_i64];omega
  have dl:decide (now<d)=false:=dL hlt;have ho2:=vK ⟨a,b,c+oV (now-d) tol,now⟩;generalize gJ ⟨a,b,c+oV (now-d) tol,now⟩=e2 at HC2 HE ho2;unfold wV at HC2;dsimp only at HC2;generalize oV (now-d) tol=gg at HG HC2 HE r2;clear hb hbn hbt b3 b4 c1 c2 gb;have m:=bJ w [];have k:=m.zK;go_enter Tryz.func298,Tryz.ntmps298
  go_wp2_with (first|((with_reducible first|refine cM (HK.out _) ?_|refine cM (HT.out _) ?_|refine cM (HL.out _) ?_|refine cM (HG.out _) ?_|refine cM (HC2.out _) ?_|refine wU ?_);clear k m;intro w m k)|((with_reducible refine iY (id:=5) [0,1,2,3,4,5,6,7,8,9] [10] ?_);simp only[bV];(repeat' (first|go_big_quiet_step (with_reducible first|exact gX (HT.out _)|exact gX (HL.out _)|exact gX (HG.out _)|exact gX (HC2.out _))|(refine wpQuiet_step (fun K hK=>?_);go_simp;(first|(refine hK _ ?_;clear hK K)|(split<;>(refine hK _ ?_;clear hK K))))));all_goals (refine wpQuiet_nil ?_;clear k m;intro w m k))|((with_reducible refine lF (fun w k=>⟨rfl,?_⟩));rw[<-HE.out];simp[results,Tryz.results298,go_sem,k]))
  all_goals first|rfl|(clear k m;go_tidy;grind [vG])|trace_state
@[go_sem] theorem idx4_0 (a b c d:Int) (w:World):(Instr.index 414 (.agg #[.int .i64 a,.int .i64 b,.int .i64 c,.int .i64 d]) (.int .i64 0)).run Tryz.prog w=.ok (.int .i64 a) w:=by
 simp[Instr.index,run_underlying Tryz.underlying414,asIntOf,part,go_sem]
@[go_sem] theorem idx4_1 (a b c d:Int) (w:World):(Instr.index 414 (.agg #[.int .i64 a,.int .i64 b,.int .i64 c,.int .i64 d]) (.int .i64 1)).run Tryz.prog w=.ok (.int .i64 b) w:=by
 simp[Instr.index,run_underlying Tryz.underlying414,asIntOf,part,go_sem]
@[go_sem] theorem idx4_2 (a b c d:Int) (w:World):(Instr.index 414 (.agg #[.int .i64 a,.int .i64 b,.int .i64 c,.int .i64 d]) (.int .i64 2)).run Tryz.prog w=.ok (.int .i64 c) w:=by
 simp[Instr.index,run_underlying Tryz.underlying414,asIntOf,part,go_sem]
@[go_sem] theorem idx4_3 (a b c d:Int) (w:World):(Instr.index 414 (.agg #[.int .i64 a,.int .i64 b,.int .i64 c,.int .i64 d]) (.int .i64 3)).run Tryz.prog w=.ok (.int .i64 d) w:=by
 simp[Instr.index,run_underlying Tryz.underlying414,asIntOf,part,go_sem]
def qdV (q:Qd):Value:=.agg #[.int .i64 q.t1,.int .i64 q.t2,.int .i64 q.t3,.int .i64 q.t4]
theorem pSOf (q:Qd) (prec tol:Int) (w:World) :
  Calls Tryz.prog 246 #[qdV q,.int .i64 prec,.int .i64 tol] w fun e w'=>e=.returned (.tuple #[wV (sof q prec tol).1,.int .i64 (sof q prec tol).2])/\Oy [] w w':=by
 obtain⟨t1,t2,t3,t4⟩:=q;have H1:=aA (fun w'=>vR t1 w');have H2:=aA (fun w'=>vR t2 w');have H3:=aA (fun w'=>vR t3 w');have H4:=aA (fun w'=>vR t4 w');have H5:=aA (fun w'=>YS tol w');have hb1:=fun h=>aY.1 (show fQ t1=true from h);have hb2:=fun h=>aY.1 (show fQ t2=true from h);have hb3:=fun h=>aY.1 (show fQ t3=true from h);have hb4:=fun h=>aY.1 (show fQ t4=true from h);have hb5:=fun h=>aY.1 (show zB tol=true from h);have HE:Hid (sof ⟨t1,t2,t3,t4⟩ prec tol=if fQ t1 && (fQ t2 && (fQ t3 && fQ t4)) then (if bZ prec 1 1000000000 && zB tol then (if t4<t1\/t3<t2 then (vG,12) else (if gJ ⟨((t2-t1)+(t3-t4)) / 2,max prec (t4-t1-(t3-t2)),prec+oV (t4-t1) tol,t4⟩=0 then (⟨((t2-t1)+(t3-t4)) / 2,max prec (t4-t1-(t3-t2)),prec+oV (t4-t1) tol,t4⟩,0) else (vG,3))) else (vG,3)) else (vG,3)):=aA rfl;generalize sof ⟨t1,t2,t3,t4⟩ prec tol=res at HE |-;generalize fQ t1=x1 at H1 HE hb1;generalize fQ t2=x2 at H2 HE hb2;generalize fQ t3=x3 at H3 HE hb3;generalize fQ t4=x4 at H4 HE hb4;generalize zB tol=x5 at H5 HE hb5;unfold qdV wV;dsimp only;obtain⟨wo,rfl⟩:∃ wo:World,wo=w:=⟨_,rfl⟩;have m:=bJ wo [];have k:=m.zK;go_enter Tryz.func246,Tryz.ntmps246
 go_wp2_with ((with_reducible first|refine cU ?_|refine wU ?_);clear k m;intro w m k)
 have OB:=aA m.zO;have hq:=gB (w:=w) (b:=wo.heap.size);have hz:=gB (w:=w) (b:=wo.heap.size+1);obtain⟨bq,hbq⟩:∃ b,wo.heap.size=b:=⟨_,rfl⟩;rw[hbq] at hq hz |-;have HBQ:=aA hbq;have HQ0:=aA hq;have HZ0:=aA hz;clear k m hbq hq hz;obtain⟨wl,rfl⟩:∃ wl:World,wl=w:=⟨_,rfl⟩;go_loopw [24] (fun vi wr=>∃ k:Nat,k<=4/\vi=.int .i64 k/\(1<=k->x1=true)/\(2<=k->x2=true)/\(3<=k->x3=true)/\(4<=k->x4=true)/\Oy [] wl wr) (fun vi _=>4-(intOf vi).toNat)
 case atStart=>exact⟨0,by omega,rfl,fun h=>by omega,fun h=>by omega,fun h=>by omega,fun h=>by omega,aR _ _⟩
 case round =>
  obtain⟨kk,hk,rfl,y1,y2,y3,y4,ho⟩:=hrel;have OL:=aA ho;have OO:=aA (OB.out.aB ho);have hq:=ho.got HQ0.out (by simp);have hz:=ho.got HZ0.out (by simp);clear ho;rcases (by omega:kk=0\/kk=1\/kk=2\/kk=3\/kk=4) with rfl|rfl|rfl|rfl|rfl
  ·cases x1 with
   | false =>
    obtain rfl:res=(vG,3):=by have:=HE.out;simpa using this
    clear HE hb1 hb2 hb3 hb4 hb5 y1 y2 y3 y4;have m:Mm wr [bq+1] wr _:=⟨((Mem.start wr [bq+1]).ext true hz (by simp) (by simp)).ext false hq (by simp) (by simp)⟩;have k:=m.zK;go_wp2_with (first|((with_reducible first|refine cM (H1.out _) ?_|refine wU ?_);clear k m;intro w m k)|((with_reducible refine lE (fun w o g k K hK=>⟨rfl,?_⟩));simp[results,Tryz.results246,go_sem,k];refine hK _ ?_;exact⟨rfl,OO.out.trans o (fun x hx=>.inr (by have:=HBQ.out;rw[mem_singleton.1 hx];omega))⟩))
   | true =>
    have m:Mm wr [] wr _:=⟨((Mem.start wr []).ext false hz (by simp) (by simp)).ext false hq (by simp) (by simp)⟩;have k:=m.zK;go_wp2_with (first|((with_reducible first|refine cM (H1.out _) ?_|refine wU ?_);clear k m;intro w m k)|(go_roundw;(case rel=>exact⟨1,by omega,by go_num,fun _=>by first|rfl|trivial,fun h=>by omega,fun h=>by omega,fun h=>by omega,OL.out.aB gO⟩);(case measure=>first|(simp[intOf];done)|(simp[intOf];omega))))
  ·cases x2 with
   | false =>
    obtain rfl:res=(vG,3):=by have:=HE.out;simpa using this
    clear HE hb1 hb2 hb3 hb4 hb5 y1 y2 y3 y4;have m:Mm wr [bq+1] wr _:=⟨((Mem.start wr [bq+1]).ext true hz (by simp) (by simp)).ext false hq (by simp) (by simp)⟩;have k:=m.zK;go_wp2_with (first|((with_reducible first|refine cM (H2.out _) ?_|refine wU ?_);clear k m;intro w m k)|((with_reducible refine lE (fun w o g k K hK=>⟨rfl,?_⟩));simp[results,Tryz.results246,go_sem,k];refine hK _ ?_;exact⟨rfl,OO.out.trans o (fun x hx=>.inr (by have:=HBQ.out;rw[mem_singleton.1 hx];omega))⟩))
   | true =>
    have m:Mm wr [] wr _:=⟨((Mem.start wr []).ext false hz (by simp) (by simp)).ext false hq (by simp) (by simp)⟩;have k:=m.zK;go_wp2_with (first|((with_reducible first|refine cM (H2.out _) ?_|refine wU ?_);clear k m;intro w m k)|(go_roundw;(case rel=>exact⟨2,by omega,by go_num,fun _=>by first|exact y1 (by omega)|trivial,fun _=>by first|rfl|trivial,fun h=>by omega,fun h=>by omega,OL.out.aB gO⟩);(case measure=>first|(simp[intOf];done)|(simp[intOf];omega))))
  ·cases x3 with
   | false =>
    obtain rfl:res=(vG,3):=by have:=HE.out;simpa using this
    clear HE hb1 hb2 hb3 hb4 hb5 y1 y2 y3 y4;have m:Mm wr [bq+1] wr _:=⟨((Mem.start wr [bq+1]).ext true hz (by simp) (by simp)).ext false hq (by simp) (by simp)⟩;have k:=m.zK;go_wp2_with (first|((with_reducible first|refine cM (H3.out _) ?_|refine wU ?_);clear k m;intro w m k)|((with_reducible refine lE (fun w o g k K hK=>⟨rfl,?_⟩));simp[results,Tryz.results246,go_sem,k];refine hK _ ?_;exact⟨rfl,OO.out.trans o (fun x hx=>.inr (by have:=HBQ.out;rw[mem_singleton.1 hx];omega))⟩))
   | true =>
    have m:Mm wr [] wr _:=⟨((Mem.start wr []).ext false hz (by simp) (by simp)).ext false hq (by simp) (by simp)⟩;have k:=m.zK;go_wp2_with (first|((with_reducible first|refine cM (H3.out _) ?_|refine wU ?_);clear k m;intro w m k)|(go_roundw;(case rel=>exact⟨3,by omega,by go_num,fun _=>by first|exact y1 (by omega)|trivial,fun _=>by first|exact y2 (by omega)|trivial,fun _=>by first|rfl|trivial,fun h=>by omega,OL.out.aB gO⟩);(case measure=>first|(simp[intOf];done)|(simp[intOf];omega))))
  ·cases x4 with
   | false =>
    obtain rfl:res=(vG,3):=by have:=HE.out;simpa using this
    clear HE hb1 hb2 hb3 hb4 hb5 y1 y2 y3 y4;have m:Mm wr [bq+1] wr _:=⟨((Mem.start wr [bq+1]).ext true hz (by simp) (by simp)).ext false hq (by simp) (by simp)⟩;have k:=m.zK;go_wp2_with (first|((with_reducible first|refine cM (H4.out _) ?_|refine wU ?_);clear k m;intro w m k)|((with_reducible refine lE (fun w o g k K hK=>⟨rfl,?_⟩));simp[results,Tryz.results246,go_sem,k];refine hK _ ?_;exact⟨rfl,OO.out.trans o (fun x hx=>.inr (by have:=HBQ.out;rw[mem_singleton.1 hx];omega))⟩))
   | true =>
    have m:Mm wr [] wr _:=⟨((Mem.start wr []).ext false hz (by simp) (by simp)).ext false hq (by simp) (by simp)⟩;have k:=m.zK;go_wp2_with (first|((with_reducible first|refine cM (H4.out _) ?_|refine wU ?_);clear k m;intro w m k)|(go_roundw;(case rel=>exact⟨4,by omega,by go_num,fun _=>by first|exact y1 (by omega)|trivial,fun _=>by first|exact y2 (by omega)|trivial,fun _=>by first|exact y3 (by omega)|trivial,fun _=>by first|rfl|trivial,OL.out.aB gO⟩);(case measure=>first|(simp[intOf];done)|(simp[intOf];omega))))
  ·obtain rfl:=y1 (by omega)
   obtain rfl:=y2 (by omega);obtain rfl:=y3 (by omega);obtain rfl:=y4 (by omega);obtain⟨a1,a2⟩:=hb1 rfl;obtain⟨a3,a4⟩:=hb2 rfl;obtain⟨a5,a6⟩:=hb3 rfl;obtain⟨a7,a8⟩:=hb4 rfl;clear y1 y2 y3 y4 hb1 hb2 hb3 hb4 H1 H2 H3 H4 hk;by_cases p1:prec<1
   ·have d1:decide (prec<1)=true:=decide_eq_true p1
    have hw:bZ prec 1 1000000000=false:=by rw[oG];omega
    obtain rfl:res=(vG,3):=by have:=HE.out;simpa [hw] using this
    clear HE hb5;have m:Mm wr [bq+1] wr _:=⟨((Mem.start wr [bq+1]).ext true hz (by simp) (by simp)).ext false hq (by simp) (by simp)⟩;have k:=m.zK;go_wp2_with (first|((with_reducible refine wU ?_);clear k m;intro w m k)|((with_reducible refine lE (fun w o g k K hK=>⟨rfl,?_⟩));simp[results,Tryz.results246,go_sem,k];refine hK _ ?_;exact⟨rfl,OO.out.trans o (fun x hx=>.inr (by have:=HBQ.out;rw[mem_singleton.1 hx];omega))⟩))
   ·have d1:decide (prec<1)=false:=decide_eq_false p1
    by_cases p2:1000000000<prec
    ·have d2:decide (1000000000<prec)=true:=decide_eq_true p2
     have hw:bZ prec 1 1000000000=false:=by rw[oG];omega
     obtain rfl:res=(vG,3):=by have:=HE.out;simpa [hw] using this
     clear HE hb5;have m:Mm wr [bq+1] wr _:=⟨((Mem.start wr [bq+1]).ext true hz (by simp) (by simp)).ext false hq (by simp) (by simp)⟩;have k:=m.zK;go_wp2_with (first|((with_reducible refine wU ?_);clear k m;intro w m k)|((with_reducible refine lE (fun w o g k K hK=>⟨rfl,?_⟩));simp[results,Tryz.results246,go_sem,k];refine hK _ ?_;exact⟨rfl,OO.out.trans o (fun x hx=>.inr (by have:=HBQ.out;rw[mem_singleton.1 hx];omega))⟩))
    ·have d2:decide (1000000000<prec)=false:=decide_eq_false p2
     have hw:bZ prec 1 1000000000=true:=by rw[aY];omega
     cases x5
     focus
      obtain rfl:res=(vG,3):=by have:=HE.out;simpa [hw] using this
     rotate_left
     focus
      obtain⟨l0,l1'⟩:=hb5 rfl;by_cases o1:t4<t1
      rotate_left
      focus
       have d3:decide (t4<t1)=false:=decide_eq_false o1;by_cases o2:t3<t2
       ·have d4:decide (t3<t2)=true:=decide_eq_true o2
        obtain rfl:res=(vG,12):=by have:=HE.out;simpa [hw,o2] using this
        clear HE hb5;have m:Mm wr [bq+1] wr _:=⟨((Mem.start wr [bq+1]).ext true hz (by simp) (by simp)).ext false hq (by simp) (by simp)⟩;have k:=m.zK;go_wp2_with (first|((with_reducible first|refine cM (H5.out _) ?_|refine wU ?_);clear k m;intro w m k)|((with_reducible refine lE (fun w o g k K hK=>⟨rfl,?_⟩));simp[results,Tryz.results246,go_sem,k];refine hK _ ?_;exact⟨rfl,OO.out.trans o (fun x hx=>.inr (by have:=HBQ.out;rw[mem_singleton.1 hx];omega))⟩))
       ·have d4:decide (t3<t2)=false:=decide_eq_false o2
        clear hb5;have hspn:0<=t4-t1:=by omega
        replace HE:Hid (res=(if gJ ⟨((t2-t1)+(t3-t4)) / 2,max prec (t4-t1-(t3-t2)),prec+oV (t4-t1) tol,t4⟩=0 then (⟨((t2-t1)+(t3-t4)) / 2,max prec (t4-t1-(t3-t2)),prec+oV (t4-t1) tol,t4⟩,0) else (vG,3))):=aA (by have:=HE.out;simpa [hw,o1,o2] using this);obtain⟨sp,hsp⟩:∃ sp,t4-t1=sp:=⟨_,rfl⟩;obtain⟨u1,hu1⟩:∃ u1,t2-t1=u1:=⟨_,rfl⟩;obtain⟨u2,hu2⟩:∃ u2,t3-t4=u2:=⟨_,rfl⟩;obtain⟨u3,hu3⟩:∃ u3,t3-t2=u3:=⟨_,rfl⟩;obtain⟨u4,hu4⟩:∃ u4,u1+u2=u4:=⟨_,rfl⟩;obtain⟨u5,hu5⟩:∃ u5,sp-u3=u5:=⟨_,rfl⟩;obtain⟨dl,hdl⟩:∃ dl,max prec u5=dl:=⟨_,rfl⟩;rw[hsp,hu1,hu2,hu3,hu4,hu5,hdl] at HE;have hgb:=aAb (d:=sp) (tol:=tol) (by omega) (by omega) l0 l1';have HG:=aA (fun w'=>QT sp tol (by omega) (by omega) l0 l1' w');generalize oV sp tol=g at HE HG hgb;obtain⟨ds,hds⟩:∃ ds,prec+g=ds:=⟨_,rfl⟩;obtain⟨of,hof⟩:∃ of,u4 / 2=of:=⟨_,rfl⟩;have HF:=aA (fun w'=>j5 (NY u4 2 w' (by omega) (by omega) (by omega) (by omega)));rw[hof] at HE HF;rw[hds] at HE;have r1:wrap .i64 (t4-t1)=sp:=by rw[wrap_i64];omega
        have r2:wrap .i64 (t2-t1)=u1:=by rw[wrap_i64];omega
        have r3:wrap .i64 (t3-t4)=u2:=by rw[wrap_i64];omega
        have r4:wrap .i64 (t3-t2)=u3:=by rw[wrap_i64];omega
        have r5:wrap .i64 (u1+u2)=u4:=by rw[wrap_i64];omega
        have r6:wrap .i64 (sp-u3)=u5:=by rw[wrap_i64];omega
        have r7:wrap .i64 (prec+g)=ds:=by rw[wrap_i64];omega
        have HC:=aA (fun w'=>EW ⟨of,dl,ds,t4⟩ w');have hor:=vK ⟨of,dl,ds,t4⟩;generalize gJ ⟨of,dl,ds,t4⟩=er at HC HE hor;unfold wV at HC;dsimp only at HC;clear hsp hu1 hu2 hu3 hu4 hu5 hgb hds hof a1 a2 a3 a4 a5 a6 a7 a8 l0 l1' p1 p2 o1 o2 hspn;rcases hor with rfl|rfl
        focus
         obtain rfl:res=(⟨of,dl,ds,t4⟩,0):=by have:=HE.out;simpa using this
        rotate_left
        focus
         obtain rfl:res=(vG,3):=by have:=HE.out;simpa using this
        rotate_left
        all_goals
         clear HE;have m:Mm wr [bq+1] wr _:=⟨((Mem.start wr [bq+1]).ext true hz (by simp) (by simp)).ext false hq (by simp) (by simp)⟩;have k:=m.zK;go_wp2_with (first|((with_reducible first|refine cM (H5.out _) ?_|refine cM (HF.out _) ?_|refine cM (HC.out _) ?_|refine wU ?_);clear k m;intro w m k)|((with_reducible refine rA (id:=13) [0,1,2,3,4,5,6,7,8,9,10,11,12,13,14,15,16,17] [] 18 [19] (by kernel_rfl) (by kernel_rfl) ?_);simp only[bV];(repeat (first|(refine aQ (fun K hK=>?_);go_simp;refine hK _ ?_;clear hK K)|(refine cG (by kernel_rfl) ⟨_,_,_,?_,fun w' o=>HG.out w',?_⟩;(focus (intro w;go_simp;done)))));refine aS ?_;(repeat (refine aJ (fun K hK=>?_);go_simp;refine hK _ ?_;clear hK K));refine aK ?_;clear k m;intro w o m k;refine aD rfl ?_;go_wp2;simp only[bA];refine⟨o.alloc _,tW ?_⟩;clear o;clear k m;intro w m k;unfold aV;refine aD rfl ?_;go_wp2;simp only[bA];refine tW ?_;clear k m;intro w m k;unfold aV)|((with_reducible refine lE (fun w o g k K hK=>⟨rfl,?_⟩));simp[results,Tryz.results246,go_sem,k];refine hK _ ?_;exact⟨rfl,OO.out.trans o (fun x hx=>.inr (by have:=HBQ.out;rw[mem_singleton.1 hx];omega))⟩))
      have d3:decide (t4<t1)=true:=decide_eq_true o1;obtain rfl:res=(vG,12):=by have:=HE.out;simpa [hw,o1] using this
     rotate_left
     all_goals
      clear HE hb5;have m:Mm wr [bq+1] wr _:=⟨((Mem.start wr [bq+1]).ext true hz (by simp) (by simp)).ext false hq (by simp) (by simp)⟩;have k:=m.zK;go_wp2_with (first|((with_reducible first|refine cM (H5.out _) ?_|refine wU ?_);clear k m;intro w m k)|((with_reducible refine lE (fun w o g k K hK=>⟨rfl,?_⟩));simp[results,Tryz.results246,go_sem,k];refine hK _ ?_;exact⟨rfl,OO.out.trans o (fun x hx=>.inr (by have:=HBQ.out;rw[mem_singleton.1 hx];omega))⟩))
theorem pJoin (p:Np) (s:iU) (id:Int) (hp:fA p) (w:World) :
  Calls Tryz.prog 248 #[iR p,wV s,.int .u32 id] w fun e w'=>e=.returned (.tuple #[JK (vU p s id).1,.int .i64 (vU p s id).2])/\Oy [] w w':=by
 obtain⟨p1,p2,p3,p4,p5,p6,p7,p8,p9,pa,pb,pc,pd⟩:=p;obtain⟨a,b,c,d⟩:=s;obtain⟨⟨n1,n2⟩,⟨n3,n4⟩,_⟩:=hp;dsimp only at n1 n2 n3 n4;have HN0:=aA (fun w'=>YO ⟨p1,p2,p3,p4,p5,p6,p7,p8,p9,pa,pb,pc,pd⟩ w');have HS0:=aA (fun w'=>EW ⟨a,b,c,d⟩ w');have HY0:=aA (fun w'=>YN ⟨p1,p2,p3,p4,p5,p6,p7,p8,p9,pa,pb,pc,pd⟩ w');have hno:qX ⟨p1,p2,p3,p4,p5,p6,p7,p8,p9,pa,pb,pc,pd⟩=0\/qX ⟨p1,p2,p3,p4,p5,p6,p7,p8,p9,pa,pb,pc,pd⟩=3:=by unfold qX;split<;>simp
 have hnb:=fun (h:qX ⟨p1,p2,p3,p4,p5,p6,p7,p8,p9,pa,pb,pc,pd⟩=0)=>show 0<=p4/\p4<=255 from (by
  unfold qX at h;split at h
  ·rename_i hh
   simp only[Bool.and_eq_true,aY] at hh;exact hh.2.2.2.1
  ·exact absurd h (by decide))
 have hso:=vK ⟨a,b,c,d⟩;have hsb:=fun h=>rW.1 (show gJ ⟨a,b,c,d⟩=0 from h);have HE:Hid (vU ⟨p1,p2,p3,p4,p5,p6,p7,p8,p9,pa,pb,pc,pd⟩ ⟨a,b,c,d⟩ id=if qX ⟨p1,p2,p3,p4,p5,p6,p7,p8,p9,pa,pb,pc,pd⟩=0/\gJ ⟨a,b,c,d⟩=0 then (if yG ⟨p1,p2,p3,p4,p5,p6,p7,p8,p9,pa,pb,pc,pd⟩=true then (if lQ ⟨p4+1,iO p7+b,iO p8+c+max a (-a),id⟩=0 then (⟨p4+1,iO p7+b,iO p8+c+max a (-a),id⟩,0) else (MH,3)) else (MH,15)) else (MH,2)):=aA rfl;generalize vU ⟨p1,p2,p3,p4,p5,p6,p7,p8,p9,pa,pb,pc,pd⟩ ⟨a,b,c,d⟩ id=res at HE |-;generalize qX ⟨p1,p2,p3,p4,p5,p6,p7,p8,p9,pa,pb,pc,pd⟩=en at HN0 HE hno hnb;generalize yG ⟨p1,p2,p3,p4,p5,p6,p7,p8,p9,pa,pb,pc,pd⟩=sy at HY0 HE;generalize gJ ⟨a,b,c,d⟩=es at HS0 HE hso hsb;have HL7:=aA (fun w'=>QM p7 n1 n2 w');have HL8:=aA (fun w'=>QM p8 n3 n4 w');have l7:=IJ n1 n2;have l8:=IJ n3 n4;have HO0:=aA (fun w'=>EX ⟨p4+1,iO p7+b,iO p8+c+max a (-a),id⟩ w');have hoo:lQ ⟨p4+1,iO p7+b,iO p8+c+max a (-a),id⟩=0\/lQ ⟨p4+1,iO p7+b,iO p8+c+max a (-a),id⟩=3:=by unfold lQ;split<;>simp
 generalize lQ ⟨p4+1,iO p7+b,iO p8+c+max a (-a),id⟩=eo at HO0 HE hoo;unfold iR at HN0 HY0 |-;unfold wV at HS0 |-;unfold JK at HO0 |-;dsimp only at HN0 HY0 HS0 HE hsb |-;by_cases hok:en=0/\es=0/\sy=true
 rotate_left
 ·clear hnb hsb l7 l8 hoo HO0 n1 n2 n3 n4
  rcases hno with rfl|rfl<;>rcases hso with rfl|rfl<;>cases sy
  all_goals first|(exfalso;exact hok ⟨rfl,rfl,rfl⟩)|skip
  all_goals clear hok
  all_goals
   have he:=HE.out;simp at he;subst he;unfold MH;dsimp only
  all_goals
   clear HE;have m:=bJ w [];have k:=m.zK;go_enter Tryz.func248,Tryz.ntmps248
   go_wp2_with (first|((with_reducible first|refine cM (HN0.out _) ?_|refine cM (HS0.out _) ?_|refine cM (HY0.out _) ?_|refine wU ?_);clear k m;intro w m k)|((with_reducible refine lE (fun w o g k K hK=>⟨rfl,?_⟩));simp[results,Tryz.results248,go_sem,k];refine hK _ ?_;exact⟨rfl,o⟩))
 ·obtain⟨rfl,rfl,rfl⟩:=hok
  obtain⟨s1,s2,s3,s4⟩:=hsb rfl;have s0:=hnb rfl;have r1:wrap .i64 (p4+1)=p4+1:=by rw[wrap_i64];omega
  have r2:wrap .i64 (iO p7+b)=iO p7+b:=by rw[wrap_i64];omega
  have r3:wrap .i64 (iO p8+c)=iO p8+c:=by rw[wrap_i64];omega
  have r4:wrap .i64 (-a)= -a:=by rw[wrap_i64];omega
  have r5:wrap .i64 (iO p8+c+max a (-a))=iO p8+c+max a (-a):=by rw[wrap_i64];omega
  clear hnb hsb hno hso s0 s1 s2 s3 s4 l7 l8 n1 n2 n3 n4;generalize iO p7=g7 at *;generalize iO p8=g8 at *;rcases hoo with rfl|rfl
  focus
   obtain rfl:res=(⟨p4+1,g7+b,g8+c+max a (-a),id⟩,0):=by have:=HE.out;simpa using this
   clear HE
  rotate_left
  focus
   obtain rfl:res=(MH,3):=by have:=HE.out;simpa using this
   clear HE;unfold MH;dsimp only
  rotate_left
  all_goals
   have m:=bJ w [];have k:=m.zK;go_enter Tryz.func248,Tryz.ntmps248
   go_wp2_with (first|((with_reducible first|refine cM (HN0.out _) ?_|refine cM (HS0.out _) ?_|refine cM (HY0.out _) ?_|refine wU ?_);clear k m;intro w m k)|((with_reducible refine iY (id:=5) [0,1,2,3,4,5,6,7,8,9,10,11,12,13,14,15,16,17,18,19,20,21,22,23,24,25,26] [27,28] ?_);simp only[bV];(repeat' (first|go_big_quiet_step (with_reducible first|exact gX (HL7.out _)|exact gX (HL8.out _)|exact gX (HO0.out _))|(refine wpQuiet_step (fun K hK=>?_);go_simp;(first|(refine hK _ ?_;clear hK K)|(split<;>(refine hK _ ?_;clear hK K))))));all_goals (refine wpQuiet_nil ?_;clear k m;intro w m k))|((with_reducible refine lE (fun w o g k K hK=>⟨rfl,?_⟩));simp[results,Tryz.results248,go_sem,k];refine hK _ ?_;exact⟨rfl,o⟩))
end Go.Proofs.YtppjhbjmfkiejaaGreat
