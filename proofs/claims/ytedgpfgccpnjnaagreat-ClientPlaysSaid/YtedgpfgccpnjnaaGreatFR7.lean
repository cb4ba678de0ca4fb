/- timesyncref27: registers, to the same plain values. Conditions: those named in each theorem. -/
import Derived.Test.YtedgpfgccpnjnaaGreatFRt0
namespace Go.Proofs.YtedgpfgccpnjnaaGreat
open Go.Lib (hid)
set_option maxRecDepth 100000
set_option maxHeartbeats 4000000
open Go.RowKit
theorem qWithin (n lo hi:Int) (w:World) :
  Calls Tryz.prog 178 #[.int .i64 n,.int .i64 lo,.int .i64 hi] w fun e w'=>e=.returned (.bool (wth n lo hi))∧Only [] w w':=by
 obtain⟨res,HE⟩:∃ r,Hid (wth n lo hi=r):=⟨_,hid rfl⟩;rw[HE.out];unfold wth at HE;have m:=mm0 w [];have k:=m.out.k;go_enter Tryz.func178,Tryz.ntmps178
 go_wp2_with (first|((with_reducible refine wU ?_);clear k m;intro w m k)|((with_reducible refine lE (fun w o g k K hK=>⟨rfl,?_⟩));simp[results,Tryz.results178,go_sem];refine hK _ ?_;clear hK K k;rw[←HE.out];(go_tidy;grind)))
theorem qRChk (r:Rch) (w:World) :
  Calls Tryz.prog 101 #[rcV r] w fun e w'=>e=.returned (.int .i64 (rchk r))∧Only [] w w':=by
 obtain⟨bi,po,mn,mx,cn⟩:=r;obtain⟨res,HE⟩:∃ r,Hid (rchk ⟨bi,po,mn,mx,cn⟩=r):=⟨_,hid rfl⟩;rw[HE.out];unfold rchk at HE;dsimp only at HE;have H1:=hid (fun w'=>qWithin bi 0 255 w');generalize wth bi 0 255=b1 at H1 HE;have H2:=hid (fun w'=>qWithin mn 3 17 w');generalize wth mn 3 17=b2 at H2 HE;have H3:=hid (fun w'=>qWithin mx 3 17 w');generalize wth mx 3 17=b3 at H3 HE;have H4:=hid (fun w'=>qWithin po mn mx w');generalize wth po mn mx=b4 at H4 HE;have H5:=hid (fun w'=>qWithin cn (-30) 30 w');generalize wth cn (-30) 30=b5 at H5 HE;unfold rcV;dsimp only;have m:=mm0 w [];have k:=m.out.k;go_enter Tryz.func101,Tryz.ntmps101
 go_wp2_with (first|((with_reducible first|refine cM (H1.out _) ?_|refine cM (H2.out _) ?_|refine cM (H3.out _) ?_|refine cM (H4.out _) ?_|refine cM (H5.out _) ?_|refine wU ?_);clear k m;intro w m k)|((with_reducible refine lE (fun w o g k K hK=>⟨rfl,?_⟩));simp[results,Tryz.results101,go_sem];refine hK _ ?_;clear hK K k;rw[←HE.out];(go_tidy;grind)))
theorem qReach (r:Rch) (w:World) :
  Calls Tryz.prog 77 #[rcV r] w fun e w'=>e=.returned (.bool (rreach r))∧Only [] w w':=by
 obtain⟨bi,po,mn,mx,cn⟩:=r;have HK:=hid (fun w'=>qRChk ⟨bi,po,mn,mx,cn⟩ w');obtain⟨res,HE⟩:∃ r,Hid (rreach ⟨bi,po,mn,mx,cn⟩=r):=⟨_,hid rfl⟩;rw[HE.out];unfold rreach at HE;dsimp only at HE;generalize rchk ⟨bi,po,mn,mx,cn⟩=er at HK HE;unfold rcV at HK ⊢;dsimp only at HK ⊢;have m:=mm0 w [];have k:=m.out.k;go_enter Tryz.func77,Tryz.ntmps77
 go_wp2_with (first|((with_reducible first|refine cM (HK.out _) ?_|refine wU ?_);clear k m;intro w m k)|((with_reducible refine lE (fun w o g k K hK=>⟨rfl,?_⟩));simp[results,Tryz.results77,go_sem];refine hK _ ?_;clear hK K k;rw[←HE.out];(go_tidy;grind)))
theorem qLeast (a b:Int) (w:World) :
  Calls Tryz.prog 104 #[.int .i64 a,.int .i64 b] w fun e w'=>e=.returned (.int .i64 (min a b))∧Only [] w w':=by
 obtain⟨res,HE⟩:∃ r,Hid (min a b=r):=⟨_,hid rfl⟩;rw[HE.out];have m:=mm0 w [];have k:=m.out.k;go_enter Tryz.func104,Tryz.ntmps104
 go_wp2_with (first|((with_reducible refine wU ?_);clear k m;intro w m k)|((with_reducible refine lE (fun w o g k K hK=>⟨rfl,?_⟩));simp[results,Tryz.results104,go_sem];refine hK _ ?_;clear hK K k;rw[←HE.out];(first|(have:=HE.out;simp only[Value.int.injEq,true_and];omega)|(go_tidy;omega)|(go_tidy;grind))))
theorem qShift (r:Rch) (w:World) :
  Calls Tryz.prog 59 #[rcV r,.bool false] w fun e w'=>e=.returned (rcV (rshift r))∧Only [] w w':=by
 obtain⟨bi,po,mn,mx,cn⟩:=r;have HK:=hid (fun w'=>qRChk ⟨bi,po,mn,mx,cn⟩ w')
 have hb:rchk ⟨bi,po,mn,mx,cn⟩=0→(0≤bi∧bi≤255)∧(3≤mn∧mx≤17)∧(mn≤po∧po≤mx)∧(-30≤cn∧cn≤30):=fun h=>by
  unfold rchk at h;dsimp only at h;split at h
  ·rename_i g1
   simp only[Bool.and_eq_true,wth_iff] at g1;split at h
   ·exact absurd h (by decide)
   ·split at h
    ·rename_i g2
     simp only[Bool.and_eq_true,wth_iff] at g2;omega
    ·exact absurd h (by decide)
  ·exact absurd h (by decide)
 obtain⟨res,HE⟩:∃ r,Hid (rshift ⟨bi,po,mn,mx,cn⟩=r):=⟨_,hid rfl⟩;rw[HE.out];unfold rshift at HE;dsimp only at HE;generalize rchk ⟨bi,po,mn,mx,cn⟩=er at HK HE hb;unfold rcV at HK ⊢;dsimp only at HK ⊢;by_cases hz:er=0
 rotate_left
 ·clear hb
  have m:=mm0 w [];have k:=m.out.k;go_enter Tryz.func59,Tryz.ntmps59
  go_wp2_with (first|((with_reducible first|refine cM (HK.out _) ?_|refine wU ?_);clear k m;intro w m k)|((with_reducible refine lE (fun w o g k K hK=>⟨rfl,?_⟩));simp[results,Tryz.results59,go_sem,k];refine hK _ ?_;clear hK K k;rw[←HE.out];(go_tidy;grind [rc0])))
 ·subst hz
  obtain⟨⟨b7,b8⟩,⟨b1,b2⟩,⟨b3,b4⟩,b5,b6⟩:=hb rfl;clear hb;rw[if_pos rfl] at HE;have r1:IntKind.i64.wrap (2*bi)=2*bi:=by rw[IntKind.wrap_i64];omega
  have r2:(2*bi).tmod 256=2*bi % 256:=Int.tmod_eq_emod_of_nonneg (by omega);have r3:IntKind.i64.wrap (2*bi % 256)=2*bi % 256:=by rw[IntKind.wrap_i64];omega
  rw[Int.mul_comm bi 2] at HE;have he:=HE.out;subst he;clear b1 b2 b3 b4 b5 b6 b7 b8 HE;have m:=mm0 w [];have k:=m.out.k;go_enter Tryz.func59,Tryz.ntmps59
  go_wp2_with (first|((with_reducible first|refine cM (HK.out _) ?_|refine wU ?_);clear k m;intro w m k)|((with_reducible refine lE (fun w o g k K hK=>⟨rfl,?_⟩));simp[results,Tryz.results59,go_sem,k];refine hK _ ?_;exact⟨rfl,o⟩))
theorem qBack (r:Rch) (w:World) :
  Calls Tryz.prog 61 #[rcV r] w fun e w'=>e=.returned (rcV (rback r))∧Only [] w w':=by
 obtain⟨bi,po,mn,mx,cn⟩:=r;have HK:=hid (fun w'=>qRChk ⟨bi,po,mn,mx,cn⟩ w');have HL:=hid (fun w'=>qLeast (po+2) mx w')
 have hb:rchk ⟨bi,po,mn,mx,cn⟩=0→(0≤bi∧bi≤255)∧(3≤mn∧mx≤17)∧(mn≤po∧po≤mx)∧(-30≤cn∧cn≤30):=fun h=>by
  unfold rchk at h;dsimp only at h;split at h
  ·rename_i g1
   simp only[Bool.and_eq_true,wth_iff] at g1;split at h
   ·exact absurd h (by decide)
   ·split at h
    ·rename_i g2
     simp only[Bool.and_eq_true,wth_iff] at g2;omega
    ·exact absurd h (by decide)
  ·exact absurd h (by decide)
 obtain⟨res,HE⟩:∃ r,Hid (rback ⟨bi,po,mn,mx,cn⟩=r):=⟨_,hid rfl⟩;rw[HE.out];unfold rback at HE;dsimp only at HE;generalize rchk ⟨bi,po,mn,mx,cn⟩=er at HK HE hb;unfold rcV at HK ⊢;dsimp only at HK ⊢;by_cases hz:er=0
 rotate_left
 ·clear hb
  have m:=mm0 w [];have k:=m.out.k;go_enter Tryz.func61,Tryz.ntmps61
  go_wp2_with (first|((with_reducible first|refine cM (HK.out _) ?_|refine wU ?_);clear k m;intro w m k)|((with_reducible refine lE (fun w o g k K hK=>⟨rfl,?_⟩));simp[results,Tryz.results61,go_sem,k];refine hK _ ?_;clear hK K k;rw[←HE.out];(go_tidy;grind [rc0])))
 ·subst hz
  obtain⟨⟨b7,b8⟩,⟨b1,b2⟩,⟨b3,b4⟩,b5,b6⟩:=hb rfl;clear hb;rw[if_pos rfl] at HE;have r1:IntKind.i64.wrap (po+2)=po+2:=by rw[IntKind.wrap_i64];omega
  have he:=HE.out;subst he;clear b1 b2 b3 b4 b5 b6 b7 b8 HE;have m:=mm0 w [];have k:=m.out.k;go_enter Tryz.func61,Tryz.ntmps61
  go_wp2_with (first|((with_reducible first|refine cM (HK.out _) ?_|refine cM (HL.out _) ?_|refine wU ?_);clear k m;intro w m k)|((with_reducible refine lE (fun w o g k K hK=>⟨rfl,?_⟩));simp[results,Tryz.results61,go_sem,k];refine hK _ ?_;exact⟨rfl,o⟩))
theorem qSmall (off jit:Int) (h0: -9223372036854775807≤off) (h1:off≤9223372036854775807) (h2:jit≤9223372036854775807) (w:World) :
  Calls Tryz.prog 225 #[.int .i64 off,.int .i64 jit] w fun e w'=>e=.returned (.bool (rsmall off jit))∧Only [] w w':=by
 have HE:Hid (rsmall off jit=decide ((off.natAbs:Int) / 4<max jit 0)):=hid rfl;generalize rsmall off jit=res at HE ⊢;by_cases hj:jit≤0
 focus
  have d0:decide (jit≤0)=true:=decide_eq_true hj;have HR:Hid (false=res):=hid (by rw[HE.out];symm;apply decide_eq_false;omega);clear HE hj h0 h1 h2
 rotate_left
 focus
  have d0:decide (jit≤0)=false:=decide_eq_false hj;have hm:max jit 0=jit:=by omega
  rw[hm] at HE;have hjw:IntKind.u64.wrap jit=jit:=by rw[IntKind.wrap_u64];omega
  obtain⟨a,ha⟩:∃ a,off.natAbs=a:=⟨_,rfl⟩;rw[ha] at HE;have haq:IntKind.u64.wrap ((a:Int) / 4)=(a:Int) / 4:=by rw[IntKind.wrap_u64];omega
  have HR:=hid HE.out.symm;by_cases hn:off<0
  focus
   obtain⟨u,hu⟩:∃ u,IntKind.u64.wrap off=u:=⟨_,rfl⟩;have huw:IntKind.u64.wrap (-u)=(a:Int):=by rw[←hu,IntKind.wrap_u64,IntKind.wrap_u64];omega
   have d1:decide (off<0)=true:=decide_eq_true hn
  rotate_left
  focus
   have hu:IntKind.u64.wrap off=(a:Int):=by rw[IntKind.wrap_u64];omega
   have d1:decide (off<0)=false:=decide_eq_false hn
  rotate_left
  all_goals clear ha HE hm hj h0 h1 h2
 rotate_left 2
 all_goals
  have m:=mm0 w [];have k:=m.out.k;go_enter Tryz.func225,Tryz.ntmps225
  go_wp2_with (first|((with_reducible refine wU ?_);clear k m;intro w m k)|((with_reducible refine lE (fun w o g k K hK=>⟨rfl,?_⟩));simp[results,Tryz.results225,go_sem];refine hK _ ?_;exact⟨by rw[←HR.out],o⟩))
theorem qAdapt (r:Rch) (off jit:Int) (h0: -9223372036854775807≤off) (h1:off≤9223372036854775807) (h2:jit≤9223372036854775807) (w:World) :
  Calls Tryz.prog 143 #[rcV r,.int .i64 off,.int .i64 jit] w fun e w'=>e=.returned (rcV (radapt r off jit))∧Only [] w w':=by
 obtain⟨bi,po,mn,mx,cn⟩:=r;have HK:=hid (fun w'=>qRChk ⟨bi,po,mn,mx,cn⟩ w');have HL:=hid (fun w'=>qLeast (po+1) mx w');have HS:=hid (fun w'=>qSmall off jit h0 h1 h2 w')
 have hb:rchk ⟨bi,po,mn,mx,cn⟩=0→(0≤bi∧bi≤255)∧(3≤mn∧mx≤17)∧(mn≤po∧po≤mx)∧(-30≤cn∧cn≤30):=fun h=>by
  unfold rchk at h;dsimp only at h;split at h
  ·rename_i g1
   simp only[Bool.and_eq_true,wth_iff] at g1;split at h
   ·exact absurd h (by decide)
   ·split at h
    ·rename_i g2
     simp only[Bool.and_eq_true,wth_iff] at g2;omega
    ·exact absurd h (by decide)
  ·exact absurd h (by decide)
 obtain⟨res,HE⟩:∃ r,Hid (radapt ⟨bi,po,mn,mx,cn⟩ off jit=r):=⟨_,hid rfl⟩;rw[HE.out];unfold radapt at HE;dsimp only at HE;generalize rchk ⟨bi,po,mn,mx,cn⟩=er at HK HE hb;generalize rsmall off jit=sm at HS HE;unfold rcV at HK ⊢;dsimp only at HK ⊢;by_cases hz:er=0
 rotate_left
 ·clear hb
  have m:=mm0 w [];have k:=m.out.k;go_enter Tryz.func143,Tryz.ntmps143
  go_wp2_with (first|((with_reducible first|refine cM (HK.out _) ?_|refine wU ?_);clear k m;intro w m k)|((with_reducible refine lE (fun w o g k K hK=>⟨rfl,?_⟩));simp[results,Tryz.results143,go_sem,k];refine hK _ ?_;clear hK K k;rw[←HE.out];(go_tidy;grind [rc0])))
 ·subst hz
  obtain⟨⟨b7,b8⟩,⟨b1,b2⟩,⟨b3,b4⟩,b5,b6⟩:=hb rfl;clear hb;rw[if_pos rfl] at HE;have r1:IntKind.i64.wrap (cn+po)=cn+po:=by rw[IntKind.wrap_i64];omega
  have r2:IntKind.i64.wrap (2*po)=2*po:=by rw[IntKind.wrap_i64];omega
  have r3:IntKind.i64.wrap (cn-2*po)=cn-2*po:=by rw[IntKind.wrap_i64];omega
  have r4:IntKind.i64.wrap (po+1)=po+1:=by rw[IntKind.wrap_i64];omega
  have r5:IntKind.i64.wrap (po-1)=po-1:=by rw[IntKind.wrap_i64];omega
  cases sm
  focus
   rw[if_neg (by simp)] at HE;by_cases g:cn-2*po < -30
   focus
    have f:decide (cn-2*po < -30)=true:=decide_eq_true g;rw[if_pos g] at HE;by_cases g2:mn<po
    focus
     have f2:decide (mn<po)=true:=decide_eq_true g2;have hm:max (po-1) mn=po-1:=by omega
    rotate_left
    focus
     have f2:decide (mn<po)=false:=decide_eq_false g2;have hm:max (po-1) mn=po:=by omega
    rotate_left
    all_goals
     rw[hm] at HE;have he:=HE.out;subst he;clear b1 b2 b3 b4 b5 b6 b7 b8 HE;clear hm
   rotate_left 2
   focus
    have f:decide (cn-2*po < -30)=false:=decide_eq_false g;rw[if_neg g] at HE;have he:=HE.out;subst he;clear b1 b2 b3 b4 b5 b6 b7 b8 HE
   rotate_left
  rotate_left 3
  focus
   rw[if_pos rfl] at HE;by_cases g:30<cn+po
   focus
    have f:decide (30<cn+po)=true:=decide_eq_true g;rw[if_pos g] at HE
   rotate_left
   focus
    have f:decide (30<cn+po)=false:=decide_eq_false g;rw[if_neg g] at HE
   rotate_left
   all_goals
    have he:=HE.out;subst he;clear b1 b2 b3 b4 b5 b6 b7 b8 HE
  rotate_left 2
  all_goals
   have m:=mm0 w [];have k:=m.out.k;go_enter Tryz.func143,Tryz.ntmps143
   go_wp2_with (first|((with_reducible first|refine cM (HK.out _) ?_|refine cM (HS.out _) ?_|refine cM (HL.out _) ?_|refine wU ?_);clear k m;intro w m k)|((with_reducible refine lE (fun w o g k K hK=>⟨rfl,?_⟩));simp[results,Tryz.results143,go_sem,k];refine hK _ ?_;exact⟨rfl,o⟩))
end Go.Proofs.YtedgpfgccpnjnaaGreat
