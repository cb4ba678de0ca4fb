/- The walks of package sample and of root.Join, dense. Conditions: those named in each theorem. -/
import Derived.Test.YtppjhbjmfkiejaaGreatFJ8
namespace Go.Proofs.YtppjhbjmfkiejaaGreat
open List (getD_cons_succ getD_cons_zero map_cons map_nil)
open Go.Lib (hid)
set_option maxRecDepth 100000
set_option maxHeartbeats 4000000
open Go.RowKit
theorem allocd_abs' {G:World->Prop} {w:World} {o:Obj} (h:∀ w0,w0.heap[w.heap.size]? = some o->Only [] w w0->G w0):G (w.drew.alloc o):=
 h _ (alloc_new w.drew o) ((Only.refl [] w).drew.alloc o)
theorem clamp_yes {n lo hi:Int} (h:wth n lo hi=true):clampI n lo hi=n:=by
 obtain⟨h0,h1⟩:=wth_iff.1 h;exact (clampI_id (by omega)).2 ⟨h0,h1⟩
theorem clamp_no {n lo hi:Int} (hl:lo<=hi) (h:wth n lo hi=false):(clampI n lo hi == n)=false:=by
 rw[beq_eq_false_iff_ne];intro e;have:=(clampI_id hl).1 e;rw[wth_no] at h;exact h this
theorem clamp_beq {n lo hi:Int} (hl:lo<=hi):(clampI n lo hi == n)=wth n lo hi:=by
 cases h:wth n lo hi
 ·exact clamp_no hl h
 ·rw[clamp_yes h];simp
theorem pGrowth (d tol:Int) (h0:0<=d) (h1:d<=9007199254740992) (h2:0<=tol) (h3:tol<=500000) (w:World) :
  Calls Tryz.prog 271 #[.int .i64 d,.int .i64 tol] w fun e w'=>e=.returned (.int .i64 (grwS d tol))/\Only [] w w':=by
 have hm:=md_bd (a:=tol) (b:=-d) (c:=1000000000) h2 (by omega) (by omega);have HE:Hid (grwS d tol= -(-d*tol / 1000000000)):=hid rfl;have HM:=hid (fun w'=>o_drew (fmuldiv (-d) tol 1000000000 w' (by omega) (by omega) (by omega) (by omega) (by omega) (by omega)));rw[Int.mul_comm tol] at hm
 have hb: -9007199254740992<= -d*tol / 1000000000/\ -d*tol / 1000000000<=0:=by
  by_cases hn: -d<0
  ·have:=hm.2 hn;omega
  ·have:=hm.1 (by omega);omega
 generalize -d*tol / 1000000000=q at HM HE hb;rw[orZ_yes (by omega) (by omega),inI_yes (by omega) (by omega)] at HM;have w0':IntKind.i64.wrap (-d)= -d:=by rw[IntKind.wrap_i64];omega
 have w1':IntKind.i64.wrap (-q)= -q:=by rw[IntKind.wrap_i64];omega
 clear hm;go_enter Tryz.func271,Tryz.ntmps271
 have OO:=hid (Only.refl [] w);go_wp2_with fail
 refine (HM.out _).mono ?_;rintro e w2 ⟨rfl,ho⟩;replace OO:=hid (OO.out.nil_trans ho);clear ho;go_wp2;go_ret
 exact⟨by rw[HE.out];rfl,OO.out⟩
theorem pSChk (s:Smp) (w:World) :
  Calls Tryz.prog 272 #[smV s] w fun e w'=>e=.returned (.int .i64 (schk s))/\Only [] w w':=by
 obtain⟨a,b,c,d⟩:=s;obtain⟨res,HE⟩:∃ r,Hid (schk ⟨a,b,c,d⟩=r):=⟨_,hid rfl⟩;rw[HE.out];unfold schk at HE;dsimp only at HE;have C1:=hid (fun w'=>o_same (fclamp a (-4503599627370496) 4503599627370496 w'));have e1:(clampI a (-4503599627370496) 4503599627370496 == a)=isT a:=clamp_beq (by omega);generalize clampI a (-4503599627370496) 4503599627370496=v1 at C1 e1;have C2:=hid (fun w'=>o_same (fclamp b 0 9007199254740992 w'));have e2:(clampI b 0 9007199254740992 == b)=isSp b:=clamp_beq (by omega);generalize clampI b 0 9007199254740992=v2 at C2 e2;have C3:=hid (fun w'=>o_same (fclamp c 0 9007199254740992 w'));have e3:(clampI c 0 9007199254740992 == c)=isSp c:=clamp_beq (by omega);generalize clampI c 0 9007199254740992=v3 at C3 e3;have C4:=hid (fun w'=>o_same (fclamp d (-4503599627370496) 4503599627370496 w'));have e4:(clampI d (-4503599627370496) 4503599627370496 == d)=isT d:=clamp_beq (by omega);generalize clampI d (-4503599627370496) 4503599627370496=v4 at C4 e4;generalize isT a=t1 at HE e1;generalize isSp b=t2 at HE e2;generalize isSp c=t3 at HE e3;generalize isT d=t4 at HE e4;unfold smV;dsimp only;have m:=mm0 w [];have k:=m.out.k;go_enter Tryz.func272,Tryz.ntmps272
 go_wp2_with (first|((with_reducible refine rA (id:=1) [0,1,2,3,4,5,6,7,8,9,10,11,12] [] 13 [14] (by kernel_rfl) (by kernel_rfl) ?_);simp only[pick,map_cons,map_nil,getD_cons_succ,getD_cons_zero];(repeat (first|(refine wpCalmG_step (fun K hK=>?_);go_simp;refine hK _ ?_;clear hK K)|(refine cG (by kernel_rfl) ⟨_,_,_,?_,fun w' o=>C1.out w',?_⟩;(focus (intro w;go_simp;done)))|(refine cG (by kernel_rfl) ⟨_,_,_,?_,fun w' o=>C2.out w',?_⟩;(focus (intro w;go_simp;done)))|(refine cG (by kernel_rfl) ⟨_,_,_,?_,fun w' o=>C3.out w',?_⟩;(focus (intro w;go_simp;done)))|(refine cG (by kernel_rfl) ⟨_,_,_,?_,fun w' o=>C4.out w',?_⟩;(focus (intro w;go_simp;done)))));refine wpCalmG_nil ?_;(repeat (refine wpCalm_step (fun K hK=>?_);go_simp;refine hK _ ?_;clear hK K));refine wpCalm_nil ?_;clear k m;intro w o m k;refine wpOp_one rfl ?_;go_wp2;simp only[nrm];refine⟨o.alloc _,tW ?_⟩;clear o;clear k m;intro w m k;unfold wpTail;refine wpOp_one rfl ?_;go_wp2;simp only[nrm];refine tW ?_;clear k m;intro w m k;unfold wpTail)|((with_reducible refine wU ?_);clear k m;intro w m k)|((with_reducible refine lE (fun w o g k K hK=>⟨rfl,?_⟩));simp[results,Tryz.results272,go_sem];refine hK _ ?_;clear hK K k;rw[<-HE.out];(go_tidy;grind)))
theorem pSDist (s:Smp) (w:World) :
  Calls Tryz.prog 276 #[smV s] w fun e w'=>e=.returned (.int .i64 (sdist s))/\Only [] w w':=by
 obtain⟨a,b,c,d⟩:=s;have HC:=hid (fun w'=>pSChk ⟨a,b,c,d⟩ w');have hb:=fun h=>schk_ok.1 (show schk ⟨a,b,c,d⟩=0 from h);have HE:Hid (sdist ⟨a,b,c,d⟩=if schk ⟨a,b,c,d⟩=0 then (b+1) / 2+c else 0):=hid rfl;generalize sdist ⟨a,b,c,d⟩=res at HE ⊢;generalize schk ⟨a,b,c,d⟩=er at HC HE hb;unfold smV at HC ⊢;dsimp only at HC hb ⊢;by_cases hz:er=0
 focus
  obtain⟨_,⟨b0,b1⟩,⟨c0,c1⟩,_⟩:=hb hz;subst hz;have HX:=hid (fun w'=>o_drew (fceil2 b w' b0 (by omega)));obtain⟨q,hq⟩:∃ q,(b+1) / 2=q:=⟨_,rfl⟩;have hqb:0<=q/\q<=4503599627370496:=by omega
  rw[hq] at HE HX;have hwr:IntKind.i64.wrap (q+c)=q+c:=by rw[IntKind.wrap_i64];omega
  obtain rfl:res=q+c:=by rw[HE.out,if_pos rfl]
  clear HE hb hq;go_enter Tryz.func276,Tryz.ntmps276
  go_upto_region 1 with (fail)
  refine alloc_abs (G:=fun w0=>Code.wp _ _ _ _ w0) ?_;intro w1 hb1 ho1 hs1;obtain⟨b1,hbe1⟩:∃ b,w.heap.size=b:=⟨_,rfl⟩;rw[hbe1] at hb1;rw[hbe1];have HN:Hid (w.heap.size<=b1):=hid (by omega);have B1:=hid hb1;have OO:=hid ho1;clear hb1 hs1 hbe1;clear ho1;have k1:=c_4 B1.out;go_wp2_with fail
  refine (HC.out _).mono ?_;rintro e w2 ⟨rfl,ho⟩;clear k1;replace OO:=hid (OO.out.nil_trans ho);replace B1:=hid (ho.got B1.out (by simp));clear ho;have k1:=c_4 B1.out;go_wp2_with fail
  refine (HX.out _).mono ?_;rintro e w3 ⟨rfl,ho⟩
 rotate_left
 focus
  have q1:(er != 0)=true:=by simpa using hz
  obtain rfl:res=0:=by rw[HE.out,if_neg hz]
  clear HE hb hz;go_enter Tryz.func276,Tryz.ntmps276
  go_upto_region 1 with (fail)
  refine alloc_abs (G:=fun w0=>Code.wp _ _ _ _ w0) ?_;intro w1 hb1 ho1 hs1;obtain⟨b1,hbe1⟩:∃ b,w.heap.size=b:=⟨_,rfl⟩;rw[hbe1] at hb1;rw[hbe1];have HN:Hid (w.heap.size<=b1):=hid (by omega);have B1:=hid hb1;have OO:=hid ho1;clear hb1 hs1 hbe1;clear ho1;have k1:=c_4 B1.out;go_wp2_with fail
  refine (HC.out _).mono ?_;rintro e w2 ⟨rfl,ho⟩
 rotate_left
 all_goals
  clear k1;replace OO:=hid (OO.out.nil_trans ho);replace B1:=hid (ho.got B1.out (by simp));clear ho;have k1:=c_4 B1.out;go_wp2;go_ret
  exact⟨rfl,OO.out⟩
theorem pSGrow (s:Smp) (now tol:Int) (w:World) :
  Calls Tryz.prog 298 #[smV s,.int .i64 now,.int .i64 tol] w fun e w'=>e=.returned (.tuple #[smV (sgrow s now tol).1,.int .i64 (sgrow s now tol).2])/\Only [] w w':=by
 obtain⟨a,b,c,d⟩:=s;have HK:=hid (fun w'=>pSChk ⟨a,b,c,d⟩ w');have HT:=hid (fun w'=>pIsTime now w');have HL:=hid (fun w'=>pIsTol tol w');have hb:=fun h=>schk_ok.1 (show schk ⟨a,b,c,d⟩=0 from h);have hor:=schk_or ⟨a,b,c,d⟩;have hbn:=fun h=>wth_iff.1 (show isT now=true from h);have hbt:=fun h=>wth_iff.1 (show isTl tol=true from h);obtain⟨res,HE⟩:∃ r,Hid (sgrow ⟨a,b,c,d⟩ now tol=r):=⟨_,hid rfl⟩;rw[HE.out];unfold sgrow at HE;dsimp only at HE hb;generalize schk ⟨a,b,c,d⟩=er at HK HE hb hor;generalize isT now=tn at HT HE hbn;generalize isTl tol=tt at HL HE hbt;unfold smV at HK ⊢;dsimp only at HK ⊢;by_cases hok:er=0/\tn=true/\tt=true/\¬ now<d
 rotate_left
 ·clear hb hbn hbt
  have m:=mm0 w [];have k:=m.out.k;go_enter Tryz.func298,Tryz.ntmps298
  go_wp2_with (first|((with_reducible first|refine cM (HK.out _) ?_|refine cM (HT.out _) ?_|refine cM (HL.out _) ?_|refine wU ?_);clear k m;intro w m k)|((with_reducible refine rG (id:=5) [0,1,2,3,4,5,6,7,8,9] [10] (by kernel_rfl) (by kernel_rfl) ?_);simp only[pick,map_cons,map_nil,getD_cons_succ,getD_cons_zero];(repeat' (first|go_big_quiet_step (with_reducible first|exact gX (HT.out _)|exact gX (HL.out _))|(refine wpQuiet_step (fun K hK=>?_);go_simp;(first|(refine hK _ ?_;clear hK K)|(split<;>(refine hK _ ?_;clear hK K))))));all_goals (refine wpQuiet_nil ?_;clear k m;intro w m k))|((with_reducible refine lF (fun w k=>⟨rfl,?_⟩));rw[<-HE.out];simp[results,Tryz.results298,go_sem,k]))
  all_goals first|rfl|(clear k m;go_tidy;grind [sm0])|trace_state
 ·obtain⟨rfl,rfl,rfl,hlt⟩:=hok
  obtain⟨-,-,b3,b4⟩:=hb rfl;have c1:=hbn rfl;have c2:=hbt rfl;have HG:=hid (fun w'=>pGrowth (now-d) tol (by omega) (by omega) c2.1 c2.2 w');have gb:=grw_bd (d:=now-d) (tol:=tol) (by omega) (by omega) c2.1 c2.2;have HC2:=hid (fun w'=>pSChk ⟨a,b,c+grwS (now-d) tol,now⟩ w');have r1:IntKind.i64.wrap (now-d)=now-d:=by rw[IntKind.wrap_i64];omega
  have r2:IntKind.i64.wrap (c+grwS (now-d) tol)=c+grwS (now-d) tol:=by rw[IntKind.wrap_i64];omega
  have dl:decide (now<d)=false:=decide_eq_false hlt;have ho2:=schk_or ⟨a,b,c+grwS (now-d) tol,now⟩;generalize schk ⟨a,b,c+grwS (now-d) tol,now⟩=e2 at HC2 HE ho2;unfold smV at HC2;dsimp only at HC2;generalize grwS (now-d) tol=gg at HG HC2 HE r2;clear hb hbn hbt b3 b4 c1 c2 gb;have m:=mm0 w [];have k:=m.out.k;go_enter Tryz.func298,Tryz.ntmps298
  go_wp2_with (first|((with_reducible first|refine cM (HK.out _) ?_|refine cM (HT.out _) ?_|refine cM (HL.out _) ?_|refine cM (HG.out _) ?_|refine cM (HC2.out _) ?_|refine wU ?_);clear k m;intro w m k)|((with_reducible refine rG (id:=5) [0,1,2,3,4,5,6,7,8,9] [10] (by kernel_rfl) (by kernel_rfl) ?_);simp only[pick,map_cons,map_nil,getD_cons_succ,getD_cons_zero];(repeat' (first|go_big_quiet_step (with_reducible first|exact gX (HT.out _)|exact gX (HL.out _)|exact gX (HG.out _)|exact gX (HC2.out _))|(refine wpQuiet_step (fun K hK=>?_);go_simp;(first|(refine hK _ ?_;clear hK K)|(split<;>(refine hK _ ?_;clear hK K))))));all_goals (refine wpQuiet_nil ?_;clear k m;intro w m k))|((with_reducible refine lF (fun w k=>⟨rfl,?_⟩));rw[<-HE.out];simp[results,Tryz.results298,go_sem,k]))
  all_goals first|rfl|(clear k m;go_tidy;grind [sm0])|trace_state
@[go_sem] theorem idx4_0 (a b c d:Int) (w:World):(Instr.index 414 (.agg #[.int .i64 a,.int .i64 b,.int .i64 c,.int .i64 d]) (.int .i64 0)).run Tryz.prog w=.ok (.int .i64 a) w:=by
 simp[Instr.index,run_underlying Tryz.underlying414,asIntOf,part,go_sem]
@[go_sem] theorem idx4_1 (a b c d:Int) (w:World):(Instr.index 414 (.agg #[.int .i64 a,.int .i64 b,.int .i64 c,.int .i64 d]) (.int .i64 1)).run Tryz.prog w=.ok (.int .i64 b) w:=by
 simp[Instr.index,run_underlying Tryz.underlying414,asIntOf,part,go_sem]
@[go_sem] theorem idx4_2 (a b c d:Int) (w:World):(Instr.index 414 (.agg #[.int .i64 a,.int .i64 b,.int .i64 c,.int .i64 d]) (.int .i64 2)).run Tryz.prog w=.ok (.int .i64 c) w:=by
 simp[Instr.index,run_underlying Tryz.underlying414,asIntOf,part,go_sem]
@[go_sem] theorem idx4_3 (a b c d:Int) (w:World):(Instr.index 414 (.agg #[.int .i64 a,.int .i64 b,.int .i64 c,.int .i64 d]) (.int .i64 3)).run Tryz.prog w=.ok (.int .i64 d) w:=by
 simp[Instr.index,run_underlying Tryz.underlying414,asIntOf,part,go_sem]
def qdV (q:Qd):Value:=.agg #[.int .i64 q.t1,.int .i64 q.t2,.int .i64 q.t3,.int .i64 q.t4]
theorem pSOf (q:Qd) (prec tol:Int) (w:World) :
  Calls Tryz.prog 246 #[qdV q,.int .i64 prec,.int .i64 tol] w fun e w'=>e=.returned (.tuple #[smV (sof q prec tol).1,.int .i64 (sof q prec tol).2])/\Only [] w w':=by
 obtain⟨t1,t2,t3,t4⟩:=q;have H1:=hid (fun w'=>pIsTime t1 w');have H2:=hid (fun w'=>pIsTime t2 w');have H3:=hid (fun w'=>pIsTime t3 w');have H4:=hid (fun w'=>pIsTime t4 w');have H5:=hid (fun w'=>pIsTol tol w');have hb1:=fun h=>wth_iff.1 (show isT t1=true from h);have hb2:=fun h=>wth_iff.1 (show isT t2=true from h);have hb3:=fun h=>wth_iff.1 (show isT t3=true from h);have hb4:=fun h=>wth_iff.1 (show isT t4=true from h);have hb5:=fun h=>wth_iff.1 (show isTl tol=true from h);have HE:Hid (sof ⟨t1,t2,t3,t4⟩ prec tol=if isT t1 && (isT t2 && (isT t3 && isT t4)) then (if wth prec 1 1000000000 && isTl tol then (if t4<t1∨t3<t2 then (sm0,12) else (if schk ⟨((t2-t1)+(t3-t4)) / 2,max prec (t4-t1-(t3-t2)),prec+grwS (t4-t1) tol,t4⟩=0 then (⟨((t2-t1)+(t3-t4)) / 2,max prec (t4-t1-(t3-t2)),prec+grwS (t4-t1) tol,t4⟩,0) else (sm0,3))) else (sm0,3)) else (sm0,3)):=hid rfl;generalize sof ⟨t1,t2,t3,t4⟩ prec tol=res at HE ⊢;generalize isT t1=x1 at H1 HE hb1;generalize isT t2=x2 at H2 HE hb2;generalize isT t3=x3 at H3 HE hb3;generalize isT t4=x4 at H4 HE hb4;generalize isTl tol=x5 at H5 HE hb5;unfold qdV smV;dsimp only;obtain⟨wo,hwo⟩:∃ wo:World,wo=w:=⟨_,rfl⟩;subst hwo;have m:=mm0 wo [];have k:=m.out.k;go_enter Tryz.func246,Tryz.ntmps246
 go_wp2_with ((with_reducible first|refine cU ?_|refine wU ?_);clear k m;intro w m k)
 have OB:=hid m.out.only;have hq:=gB (w:=w) (b:=wo.heap.size);have hz:=gB (w:=w) (b:=wo.heap.size+1);obtain⟨bq,hbq⟩:∃ b,wo.heap.size=b:=⟨_,rfl⟩;rw[hbq] at hq hz ⊢;have HBQ:=hid hbq;have HQ0:=hid hq;have HZ0:=hid hz;clear k m hbq hq hz;obtain⟨wl,hwl⟩:∃ wl:World,wl=w:=⟨_,rfl⟩;subst hwl;go_loopw [24] (fun vi wr=>∃ k:Nat,k<=4/\vi=.int .i64 k/\(1<=k->x1=true)/\(2<=k->x2=true)/\(3<=k->x3=true)/\(4<=k->x4=true)/\Only [] wl wr) (fun vi _=>4-(intOf vi).toNat)
 case atStart=>exact⟨0,by omega,rfl,fun h=>by omega,fun h=>by omega,fun h=>by omega,fun h=>by omega,Only.refl _ _⟩
 case round =>
  obtain⟨kk,hk,rfl,y1,y2,y3,y4,ho⟩:=hrel;have OL:=hid ho;have OO:=hid (OB.out.nil_trans ho);have hq:=ho.got HQ0.out (by simp);have hz:=ho.got HZ0.out (by simp);clear ho;rcases (by omega:kk=0∨kk=1∨kk=2∨kk=3∨kk=4) with rfl|rfl|rfl|rfl|rfl
  ·cases x1 with
   | false =>
    obtain rfl:res=(sm0,3):=by have:=HE.out;simpa using this
    clear HE hb1 hb2 hb3 hb4 hb5 y1 y2 y3 y4;have m:Mm wr [bq+1] wr _:=⟨((Mem.start wr [bq+1]).ext true hz (by simp) (by simp)).ext false hq (by simp) (by simp)⟩;have k:=m.out.k;go_wp2_with (first|((with_reducible first|refine cM (H1.out _) ?_|refine wU ?_);clear k m;intro w m k)|((with_reducible refine lE (fun w o g k K hK=>⟨rfl,?_⟩));simp[results,Tryz.results246,go_sem,k];refine hK _ ?_;exact⟨rfl,OO.out.trans o (fun x hx=>.inr (by have:=HBQ.out;rw[List.mem_singleton.1 hx];omega))⟩))
   | true =>
    have m:Mm wr [] wr _:=⟨((Mem.start wr []).ext false hz (by simp) (by simp)).ext false hq (by simp) (by simp)⟩;have k:=m.out.k;go_wp2_with (first|((with_reducible first|refine cM (H1.out _) ?_|refine wU ?_);clear k m;intro w m k)|(go_roundw;(case rel=>exact⟨1,by omega,by go_num,fun _=>by first|rfl|trivial,fun h=>by omega,fun h=>by omega,fun h=>by omega,OL.out.nil_trans gO⟩);(case measure=>first|(simp[intOf];done)|(simp[intOf];omega))))
  ·cases x2 with
   | false =>
    obtain rfl:res=(sm0,3):=by have:=HE.out;simpa using this
    clear HE hb1 hb2 hb3 hb4 hb5 y1 y2 y3 y4;have m:Mm wr [bq+1] wr _:=⟨((Mem.start wr [bq+1]).ext true hz (by simp) (by simp)).ext false hq (by simp) (by simp)⟩;have k:=m.out.k;go_wp2_with (first|((with_reducible first|refine cM (H2.out _) ?_|refine wU ?_);clear k m;intro w m k)|((with_reducible refine lE (fun w o g k K hK=>⟨rfl,?_⟩));simp[results,Tryz.results246,go_sem,k];refine hK _ ?_;exact⟨rfl,OO.out.trans o (fun x hx=>.inr (by have:=HBQ.out;rw[List.mem_singleton.1 hx];omega))⟩))
   | true =>
    have m:Mm wr [] wr _:=⟨((Mem.start wr []).ext false hz (by simp) (by simp)).ext false hq (by simp) (by simp)⟩;have k:=m.out.k;go_wp2_with (first|((with_reducible first|refine cM (H2.out _) ?_|refine wU ?_);clear k m;intro w m k)|(go_roundw;(case rel=>exact⟨2,by omega,by go_num,fun _=>by first|exact y1 (by omega)|trivial,fun _=>by first|rfl|trivial,fun h=>by omega,fun h=>by omega,OL.out.nil_trans gO⟩);(case measure=>first|(simp[intOf];done)|(simp[intOf];omega))))
  ·cases x3 with
   | false =>
    obtain rfl:res=(sm0,3):=by have:=HE.out;simpa using this
    clear HE hb1 hb2 hb3 hb4 hb5 y1 y2 y3 y4;have m:Mm wr [bq+1] wr _:=⟨((Mem.start wr [bq+1]).ext true hz (by simp) (by simp)).ext false hq (by simp) (by simp)⟩;have k:=m.out.k;go_wp2_with (first|((with_reducible first|refine cM (H3.out _) ?_|refine wU ?_);clear k m;intro w m k)|((with_reducible refine lE (fun w o g k K hK=>⟨rfl,?_⟩));simp[results,Tryz.results246,go_sem,k];refine hK _ ?_;exact⟨rfl,OO.out.trans o (fun x hx=>.inr (by have:=HBQ.out;rw[List.mem_singleton.1 hx];omega))⟩))
   | true =>
    have m:Mm wr [] wr _:=⟨((Mem.start wr []).ext false hz (by simp) (by simp)).ext false hq (by simp) (by simp)⟩;have k:=m.out.k;go_wp2_with (first|((with_reducible first|refine cM (H3.out _) ?_|refine wU ?_);clear k m;intro w m k)|(go_roundw;(case rel=>exact⟨3,by omega,by go_num,fun _=>by first|exact y1 (by omega)|trivial,fun _=>by first|exact y2 (by omega)|trivial,fun _=>by first|rfl|trivial,fun h=>by omega,OL.out.nil_trans gO⟩);(case measure=>first|(simp[intOf];done)|(simp[intOf];omega))))
  ·cases x4 with
   | false =>
    obtain rfl:res=(sm0,3):=by have:=HE.out;simpa using this
    clear HE hb1 hb2 hb3 hb4 hb5 y1 y2 y3 y4;have m:Mm wr [bq+1] wr _:=⟨((Mem.start wr [bq+1]).ext true hz (by simp) (by simp)).ext false hq (by simp) (by simp)⟩;have k:=m.out.k;go_wp2_with (first|((with_reducible first|refine cM (H4.out _) ?_|refine wU ?_);clear k m;intro w m k)|((with_reducible refine lE (fun w o g k K hK=>⟨rfl,?_⟩));simp[results,Tryz.results246,go_sem,k];refine hK _ ?_;exact⟨rfl,OO.out.trans o (fun x hx=>.inr (by have:=HBQ.out;rw[List.mem_singleton.1 hx];omega))⟩))
   | true =>
    have m:Mm wr [] wr _:=⟨((Mem.start wr []).ext false hz (by simp) (by simp)).ext false hq (by simp) (by simp)⟩;have k:=m.out.k;go_wp2_with (first|((with_reducible first|refine cM (H4.out _) ?_|refine wU ?_);clear k m;intro w m k)|(go_roundw;(case rel=>exact⟨4,by omega,by go_num,fun _=>by first|exact y1 (by omega)|trivial,fun _=>by first|exact y2 (by omega)|trivial,fun _=>by first|exact y3 (by omega)|trivial,fun _=>by first|rfl|trivial,OL.out.nil_trans gO⟩);(case measure=>first|(simp[intOf];done)|(simp[intOf];omega))))
  ·obtain rfl:=y1 (by omega)
   obtain rfl:=y2 (by omega);obtain rfl:=y3 (by omega);obtain rfl:=y4 (by omega);obtain⟨a1,a2⟩:=hb1 rfl;obtain⟨a3,a4⟩:=hb2 rfl;obtain⟨a5,a6⟩:=hb3 rfl;obtain⟨a7,a8⟩:=hb4 rfl;clear y1 y2 y3 y4 hb1 hb2 hb3 hb4 H1 H2 H3 H4 hk;by_cases p1:prec<1
   ·have d1:decide (prec<1)=true:=decide_eq_true p1
    have hw:wth prec 1 1000000000=false:=by rw[wth_no];omega
    obtain rfl:res=(sm0,3):=by have:=HE.out;simpa [hw] using this
    clear HE hb5;have m:Mm wr [bq+1] wr _:=⟨((Mem.start wr [bq+1]).ext true hz (by simp) (by simp)).ext false hq (by simp) (by simp)⟩;have k:=m.out.k;go_wp2_with (first|((with_reducible refine wU ?_);clear k m;intro w m k)|((with_reducible refine lE (fun w o g k K hK=>⟨rfl,?_⟩));simp[results,Tryz.results246,go_sem,k];refine hK _ ?_;exact⟨rfl,OO.out.trans o (fun x hx=>.inr (by have:=HBQ.out;rw[List.mem_singleton.1 hx];omega))⟩))
   ·have d1:decide (prec<1)=false:=decide_eq_false p1
    by_cases p2:1000000000<prec
    ·have d2:decide (1000000000<prec)=true:=decide_eq_true p2
     have hw:wth prec 1 1000000000=false:=by rw[wth_no];omega
     obtain rfl:res=(sm0,3):=by have:=HE.out;simpa [hw] using this
     clear HE hb5;have m:Mm wr [bq+1] wr _:=⟨((Mem.start wr [bq+1]).ext true hz (by simp) (by simp)).ext false hq (by simp) (by simp)⟩;have k:=m.out.k;go_wp2_with (first|((with_reducible refine wU ?_);clear k m;intro w m k)|((with_reducible refine lE (fun w o g k K hK=>⟨rfl,?_⟩));simp[results,Tryz.results246,go_sem,k];refine hK _ ?_;exact⟨rfl,OO.out.trans o (fun x hx=>.inr (by have:=HBQ.out;rw[List.mem_singleton.1 hx];omega))⟩))
    ·have d2:decide (1000000000<prec)=false:=decide_eq_false p2
     have hw:wth prec 1 1000000000=true:=by rw[wth_iff];omega
     cases x5
     focus
      obtain rfl:res=(sm0,3):=by have:=HE.out;simpa [hw] using this
     rotate_left
     focus
      obtain⟨l0,l1'⟩:=hb5 rfl;by_cases o1:t4<t1
      rotate_left
      focus
       have d3:decide (t4<t1)=false:=decide_eq_false o1;by_cases o2:t3<t2
       ·have d4:decide (t3<t2)=true:=decide_eq_true o2
        obtain rfl:res=(sm0,12):=by have:=HE.out;simpa [hw,o2] using this
        clear HE hb5;have m:Mm wr [bq+1] wr _:=⟨((Mem.start wr [bq+1]).ext true hz (by simp) (by simp)).ext false hq (by simp) (by simp)⟩;have k:=m.out.k;go_wp2_with (first|((with_reducible first|refine cM (H5.out _) ?_|refine wU ?_);clear k m;intro w m k)|((with_reducible refine lE (fun w o g k K hK=>⟨rfl,?_⟩));simp[results,Tryz.results246,go_sem,k];refine hK _ ?_;exact⟨rfl,OO.out.trans o (fun x hx=>.inr (by have:=HBQ.out;rw[List.mem_singleton.1 hx];omega))⟩))
       ·have d4:decide (t3<t2)=false:=decide_eq_false o2
        clear hb5;have hspn:0<=t4-t1:=by omega
        replace HE:Hid (res=(if schk ⟨((t2-t1)+(t3-t4)) / 2,max prec (t4-t1-(t3-t2)),prec+grwS (t4-t1) tol,t4⟩=0 then (⟨((t2-t1)+(t3-t4)) / 2,max prec (t4-t1-(t3-t2)),prec+grwS (t4-t1) tol,t4⟩,0) else (sm0,3))):=hid (by have:=HE.out;simpa [hw,o1,o2] using this);obtain⟨sp,hsp⟩:∃ sp,t4-t1=sp:=⟨_,rfl⟩;obtain⟨u1,hu1⟩:∃ u1,t2-t1=u1:=⟨_,rfl⟩;obtain⟨u2,hu2⟩:∃ u2,t3-t4=u2:=⟨_,rfl⟩;obtain⟨u3,hu3⟩:∃ u3,t3-t2=u3:=⟨_,rfl⟩;obtain⟨u4,hu4⟩:∃ u4,u1+u2=u4:=⟨_,rfl⟩;obtain⟨u5,hu5⟩:∃ u5,sp-u3=u5:=⟨_,rfl⟩;obtain⟨dl,hdl⟩:∃ dl,max prec u5=dl:=⟨_,rfl⟩;rw[hsp,hu1,hu2,hu3,hu4,hu5,hdl] at HE;have hgb:=grw_bd (d:=sp) (tol:=tol) (by omega) (by omega) l0 l1';have HG:=hid (fun w'=>pGrowth sp tol (by omega) (by omega) l0 l1' w');generalize grwS sp tol=g at HE HG hgb;obtain⟨ds,hds⟩:∃ ds,prec+g=ds:=⟨_,rfl⟩;obtain⟨of,hof⟩:∃ of,u4 / 2=of:=⟨_,rfl⟩;have HF:=hid (fun w'=>o_drew (ffloor u4 2 w' (by omega) (by omega) (by omega) (by omega)));rw[hof] at HE HF;rw[hds] at HE;have r1:IntKind.i64.wrap (t4-t1)=sp:=by rw[IntKind.wrap_i64];omega
        have r2:IntKind.i64.wrap (t2-t1)=u1:=by rw[IntKind.wrap_i64];omega
        have r3:IntKind.i64.wrap (t3-t4)=u2:=by rw[IntKind.wrap_i64];omega
        have r4:IntKind.i64.wrap (t3-t2)=u3:=by rw[IntKind.wrap_i64];omega
        have r5:IntKind.i64.wrap (u1+u2)=u4:=by rw[IntKind.wrap_i64];omega
        have r6:IntKind.i64.wrap (sp-u3)=u5:=by rw[IntKind.wrap_i64];omega
        have r7:IntKind.i64.wrap (prec+g)=ds:=by rw[IntKind.wrap_i64];omega
        have HC:=hid (fun w'=>pSChk ⟨of,dl,ds,t4⟩ w');have hor:=schk_or ⟨of,dl,ds,t4⟩;generalize schk ⟨of,dl,ds,t4⟩=er at HC HE hor;unfold smV at HC;dsimp only at HC;clear hsp hu1 hu2 hu3 hu4 hu5 hgb hds hof a1 a2 a3 a4 a5 a6 a7 a8 l0 l1' p1 p2 o1 o2 hspn;rcases hor with rfl|rfl
        focus
         obtain rfl:res=(⟨of,dl,ds,t4⟩,0):=by have:=HE.out;simpa using this
        rotate_left
        focus
         obtain rfl:res=(sm0,3):=by have:=HE.out;simpa using this
        rotate_left
        all_goals
         clear HE;have m:Mm wr [bq+1] wr _:=⟨((Mem.start wr [bq+1]).ext true hz (by simp) (by simp)).ext false hq (by simp) (by simp)⟩;have k:=m.out.k;go_wp2_with (first|((with_reducible first|refine cM (H5.out _) ?_|refine cM (HF.out _) ?_|refine cM (HC.out _) ?_|refine wU ?_);clear k m;intro w m k)|((with_reducible refine rA (id:=13) [0,1,2,3,4,5,6,7,8,9,10,11,12,13,14,15,16,17] [] 18 [19] (by kernel_rfl) (by kernel_rfl) ?_);simp only[pick,map_cons,map_nil,getD_cons_succ,getD_cons_zero];(repeat (first|(refine wpCalmG_step (fun K hK=>?_);go_simp;refine hK _ ?_;clear hK K)|(refine cG (by kernel_rfl) ⟨_,_,_,?_,fun w' o=>HG.out w',?_⟩;(focus (intro w;go_simp;done)))));refine wpCalmG_nil ?_;(repeat (refine wpCalm_step (fun K hK=>?_);go_simp;refine hK _ ?_;clear hK K));refine wpCalm_nil ?_;clear k m;intro w o m k;refine wpOp_one rfl ?_;go_wp2;simp only[nrm];refine⟨o.alloc _,tW ?_⟩;clear o;clear k m;intro w m k;unfold wpTail;refine wpOp_one rfl ?_;go_wp2;simp only[nrm];refine tW ?_;clear k m;intro w m k;unfold wpTail)|((with_reducible refine lE (fun w o g k K hK=>⟨rfl,?_⟩));simp[results,Tryz.results246,go_sem,k];refine hK _ ?_;exact⟨rfl,OO.out.trans o (fun x hx=>.inr (by have:=HBQ.out;rw[List.mem_singleton.1 hx];omega))⟩))
      have d3:decide (t4<t1)=true:=decide_eq_true o1;obtain rfl:res=(sm0,12):=by have:=HE.out;simpa [hw,o1] using this
     rotate_left
     all_goals
      clear HE hb5;have m:Mm wr [bq+1] wr _:=⟨((Mem.start wr [bq+1]).ext true hz (by simp) (by simp)).ext false hq (by simp) (by simp)⟩;have k:=m.out.k;go_wp2_with (first|((with_reducible first|refine cM (H5.out _) ?_|refine wU ?_);clear k m;intro w m k)|((with_reducible refine lE (fun w o g k K hK=>⟨rfl,?_⟩));simp[results,Tryz.results246,go_sem,k];refine hK _ ?_;exact⟨rfl,OO.out.trans o (fun x hx=>.inr (by have:=HBQ.out;rw[List.mem_singleton.1 hx];omega))⟩))
theorem pJoin (p:Np) (s:Smp) (id:Int) (hp:npOk p) (w:World) :
  Calls Tryz.prog 248 #[npV p,smV s,.int .u32 id] w fun e w'=>e=.returned (.tuple #[roV (ojoin p s id).1,.int .i64 (ojoin p s id).2])/\Only [] w w':=by
 obtain⟨p1,p2,p3,p4,p5,p6,p7,p8,p9,pa,pb,pc,pd⟩:=p;obtain⟨a,b,c,d⟩:=s;obtain⟨⟨n1,n2⟩,⟨n3,n4⟩,_⟩:=hp;dsimp only at n1 n2 n3 n4;have HN0:=hid (fun w'=>pNChk ⟨p1,p2,p3,p4,p5,p6,p7,p8,p9,pa,pb,pc,pd⟩ w');have HS0:=hid (fun w'=>pSChk ⟨a,b,c,d⟩ w');have HY0:=hid (fun w'=>pNSync ⟨p1,p2,p3,p4,p5,p6,p7,p8,p9,pa,pb,pc,pd⟩ w');have hno:nchk ⟨p1,p2,p3,p4,p5,p6,p7,p8,p9,pa,pb,pc,pd⟩=0∨nchk ⟨p1,p2,p3,p4,p5,p6,p7,p8,p9,pa,pb,pc,pd⟩=3:=by unfold nchk;split<;>simp
 have hnb:=fun (h:nchk ⟨p1,p2,p3,p4,p5,p6,p7,p8,p9,pa,pb,pc,pd⟩=0)=>show 0<=p4/\p4<=255 from (by
  unfold nchk at h;split at h
  ·rename_i hh
   simp only[Bool.and_eq_true,wth_iff] at hh;exact hh.2.2.2.1
  ·exact absurd h (by decide))
 have hso:=schk_or ⟨a,b,c,d⟩;have hsb:=fun h=>schk_ok.1 (show schk ⟨a,b,c,d⟩=0 from h);have HE:Hid (ojoin ⟨p1,p2,p3,p4,p5,p6,p7,p8,p9,pa,pb,pc,pd⟩ ⟨a,b,c,d⟩ id=if nchk ⟨p1,p2,p3,p4,p5,p6,p7,p8,p9,pa,pb,pc,pd⟩=0/\schk ⟨a,b,c,d⟩=0 then (if nsync ⟨p1,p2,p3,p4,p5,p6,p7,p8,p9,pa,pb,pc,pd⟩=true then (if ochk ⟨p4+1,lngS p7+b,lngS p8+c+max a (-a),id⟩=0 then (⟨p4+1,lngS p7+b,lngS p8+c+max a (-a),id⟩,0) else (ro0,3)) else (ro0,15)) else (ro0,2)):=hid rfl;generalize ojoin ⟨p1,p2,p3,p4,p5,p6,p7,p8,p9,pa,pb,pc,pd⟩ ⟨a,b,c,d⟩ id=res at HE ⊢;generalize nchk ⟨p1,p2,p3,p4,p5,p6,p7,p8,p9,pa,pb,pc,pd⟩=en at HN0 HE hno hnb;generalize nsync ⟨p1,p2,p3,p4,p5,p6,p7,p8,p9,pa,pb,pc,pd⟩=sy at HY0 HE;generalize schk ⟨a,b,c,d⟩=es at HS0 HE hso hsb;have HL7:=hid (fun w'=>pLong p7 n1 n2 w');have HL8:=hid (fun w'=>pLong p8 n3 n4 w');have l7:=lng_bd n1 n2;have l8:=lng_bd n3 n4;have HO0:=hid (fun w'=>pOChecked ⟨p4+1,lngS p7+b,lngS p8+c+max a (-a),id⟩ w');have hoo:ochk ⟨p4+1,lngS p7+b,lngS p8+c+max a (-a),id⟩=0∨ochk ⟨p4+1,lngS p7+b,lngS p8+c+max a (-a),id⟩=3:=by unfold ochk;split<;>simp
 generalize ochk ⟨p4+1,lngS p7+b,lngS p8+c+max a (-a),id⟩=eo at HO0 HE hoo;unfold npV at HN0 HY0 ⊢;unfold smV at HS0 ⊢;unfold roV at HO0 ⊢;dsimp only at HN0 HY0 HS0 HE hsb ⊢;by_cases hok:en=0/\es=0/\sy=true
 rotate_left
 ·clear hnb hsb l7 l8 hoo HO0 n1 n2 n3 n4
  rcases hno with rfl|rfl<;>rcases hso with rfl|rfl<;>cases sy
  all_goals first|(exfalso;exact hok ⟨rfl,rfl,rfl⟩)|skip
  all_goals clear hok
  all_goals
   have he:=HE.out;simp at he;subst he;unfold ro0;dsimp only
  all_goals
   clear HE;have m:=mm0 w [];have k:=m.out.k;go_enter Tryz.func248,Tryz.ntmps248
   go_wp2_with (first|((with_reducible first|refine cM (HN0.out _) ?_|refine cM (HS0.out _) ?_|refine cM (HY0.out _) ?_|refine wU ?_);clear k m;intro w m k)|((with_reducible refine lE (fun w o g k K hK=>⟨rfl,?_⟩));simp[results,Tryz.results248,go_sem,k];refine hK _ ?_;exact⟨rfl,o⟩))
 ·obtain⟨rfl,rfl,rfl⟩:=hok
  obtain⟨s1,s2,s3,s4⟩:=hsb rfl;have s0:=hnb rfl;have r1:IntKind.i64.wrap (p4+1)=p4+1:=by rw[IntKind.wrap_i64];omega
  have r2:IntKind.i64.wrap (lngS p7+b)=lngS p7+b:=by rw[IntKind.wrap_i64];omega
  have r3:IntKind.i64.wrap (lngS p8+c)=lngS p8+c:=by rw[IntKind.wrap_i64];omega
  have r4:IntKind.i64.wrap (-a)= -a:=by rw[IntKind.wrap_i64];omega
  have r5:IntKind.i64.wrap (lngS p8+c+max a (-a))=lngS p8+c+max a (-a):=by rw[IntKind.wrap_i64];omega
  clear hnb hsb hno hso s0 s1 s2 s3 s4 l7 l8 n1 n2 n3 n4;generalize lngS p7=g7 at *;generalize lngS p8=g8 at *;rcases hoo with rfl|rfl
  focus
   obtain rfl:res=(⟨p4+1,g7+b,g8+c+max a (-a),id⟩,0):=by have:=HE.out;simpa using this
   clear HE
  rotate_left
  focus
   obtain rfl:res=(ro0,3):=by have:=HE.out;simpa using this
   clear HE;unfold ro0;dsimp only
  rotate_left
  all_goals
   have m:=mm0 w [];have k:=m.out.k;go_enter Tryz.func248,Tryz.ntmps248
   go_wp2_with (first|((with_reducible first|refine cM (HN0.out _) ?_|refine cM (HS0.out _) ?_|refine cM (HY0.out _) ?_|refine wU ?_);clear k m;intro w m k)|((with_reducible refine rG (id:=5) [0,1,2,3,4,5,6,7,8,9,10,11,12,13,14,15,16,17,18,19,20,21,22,23,24,25,26] [27,28] (by kernel_rfl) (by kernel_rfl) ?_);simp only[pick,map_cons,map_nil,getD_cons_succ,getD_cons_zero];(repeat' (first|go_big_quiet_step (with_reducible first|exact gX (HL7.out _)|exact gX (HL8.out _)|exact gX (HO0.out _))|(refine wpQuiet_step (fun K hK=>?_);go_simp;(first|(refine hK _ ?_;clear hK K)|(split<;>(refine hK _ ?_;clear hK K))))));all_goals (refine wpQuiet_nil ?_;clear k m;intro w m k))|((with_reducible refine lE (fun w o g k K hK=>⟨rfl,?_⟩));simp[results,Tryz.results248,go_sem,k];refine hK _ ?_;exact⟨rfl,o⟩))
end Go.Proofs.YtppjhbjmfkiejaaGreat
