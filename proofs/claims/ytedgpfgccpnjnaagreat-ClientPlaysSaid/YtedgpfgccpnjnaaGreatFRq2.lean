/- Rq2 Rq3 Rq4 -/
import Derived.Test.YtedgpfgccpnjnaaGreatFR8
import Derived.Test.YtedgpfgccpnjnaaGreatFJd
namespace Go.Proofs.YtedgpfgccpnjnaaGreat
section
set_option maxRecDepth 100000
set_option maxHeartbeats 4000000
open Go.RowKit
theorem qRight (r:Rot) (w:World) :
  Calls Tryz.prog 115 #[roV r] w fun e w'=>e=.returned (.tuple #[roV (if ochk r=0 then r else ro0),.int .i64 (if ochk r=0 then 0 else 3)])∧Only [] w w':=by
 obtain⟨a,b,c,d⟩:=r;have HK:=Lib.hid (fun w'=>qOChk ⟨a,b,c,d⟩ w');generalize ochk ⟨a,b,c,d⟩=er at HK ⊢;unfold roV at HK;dsimp only at HK;by_cases hz:er=0
 focus
  subst hz;rw[if_pos rfl,if_pos rfl];unfold roV
 rotate_left
 focus
  have q1:(er != 0)=true:=by simpa using hz
  rw[if_neg hz,if_neg hz];clear hz;unfold roV ro0
 rotate_left
 all_goals
  dsimp only;have m:=mm0 w [];have k:=m.out.k;go_enter Tryz.func115,Tryz.ntmps115
  go_wp2_with (first|((with_reducible first|refine cM (HK.out _) ?_|refine wU ?_);clear k m;intro w m k)|((with_reducible refine lE (fun w o g k K hK=>⟨rfl,?_⟩));simp[results,Tryz.results115,go_sem,k];refine hK _ ?_;exact⟨rfl,o⟩))
theorem qNSync (p:Np) (w:World) :
  Calls Tryz.prog 114 #[npV p] w fun e w'=>e=.returned (.bool (nsync p))∧Only [] w w':=by
 obtain⟨p1,p2,p3,p4,p5,p6,p7,p8,p9,pa,pb,pc,pd⟩:=p;obtain⟨res,HE⟩:∃ r,Hid (nsync ⟨p1,p2,p3,p4,p5,p6,p7,p8,p9,pa,pb,pc,pd⟩=r):=⟨_,Lib.hid rfl⟩;rw[HE.out];unfold nsync wth at HE;dsimp only at HE;unfold npV;dsimp only;have m:=mm0 w [];have k:=m.out.k;go_enter Tryz.func114,Tryz.ntmps114
 go_wp2_with (first|((with_reducible refine wU ?_);clear k m;intro w m k)|((with_reducible refine lE (fun w o g k K hK=>⟨rfl,?_⟩));simp[results,Tryz.results114,go_sem];refine hK _ ?_;clear hK K k;rw[←HE.out];(go_tidy;grind)))
theorem qLong (s:Int) (h0:0≤s) (h1:s≤4294967295) (w:World) :
  Calls Tryz.prog 79 #[.int .u32 s] w fun e w'=>e=.returned (.int .i64 (lngS s))∧Only [] w w':=by
 have HE:Hid ((s*1000000000+65535) / 65536=lngS s):=Lib.hid rfl;have r0:IntKind.i64.wrap s=s:=by rw[IntKind.wrap_i64];omega
 have r1:IntKind.i64.wrap (s*1000000000)=s*1000000000:=by rw[IntKind.wrap_i64];omega
 have r2:IntKind.i64.wrap (s*1000000000+65535)=s*1000000000+65535:=by rw[IntKind.wrap_i64];omega
 have r3:(s*1000000000+65535).tdiv 65536=(s*1000000000+65535) / 65536:=Int.tdiv_eq_ediv_of_nonneg (by omega);have r4:IntKind.i64.wrap ((s*1000000000+65535) / 65536)=(s*1000000000+65535) / 65536:=by rw[IntKind.wrap_i64];omega
 have m:=mm0 w [];have k:=m.out.k;go_enter Tryz.func79,Tryz.ntmps79
 go_wp2_with (first|((with_reducible refine wU ?_);clear k m;intro w m k)|((with_reducible refine lE (fun w o g k K hK=>⟨rfl,?_⟩));simp[results,Tryz.results79,go_sem];refine hK _ ?_;exact⟨by rw[HE.out],o⟩))
theorem qNChk (p:Np) (w:World) :
  Calls Tryz.prog 102 #[npV p] w fun e w'=>e=.returned (.int .i64 (nchk p))∧Only [] w w':=by
 obtain⟨p1,p2,p3,p4,p5,p6,p7,p8,p9,pa,pb,pc,pd⟩:=p;obtain⟨res,HE⟩:∃ r,Hid (nchk ⟨p1,p2,p3,p4,p5,p6,p7,p8,p9,pa,pb,pc,pd⟩=r):=⟨_,Lib.hid rfl⟩;rw[HE.out];unfold nchk at HE;dsimp only at HE;unfold npV;dsimp only;by_cases a0:p1<0
 focus
  have e0:wth p1 0 3=false:=by rw[wth_no];omega
  obtain rfl:res=3:=by have:=HE.out;simp[e0] at this;exact this.symm
  clear HE;have f0:decide (p1<0)=true:=decide_eq_true a0
 rotate_left
 focus
  have f0:decide (p1<0)=false:=decide_eq_false a0;by_cases b0:3<p1
  focus
   have e0:wth p1 0 3=false:=by rw[wth_no];omega
   obtain rfl:res=3:=by have:=HE.out;simp[e0] at this;exact this.symm
   clear HE;have g0:decide (3<p1)=true:=decide_eq_true b0
  rotate_left
  focus
   have g0:decide (3<p1)=false:=decide_eq_false b0;have e0:wth p1 0 3=true:=by rw[wth_iff];omega
   by_cases a1:p2<1
   focus
    have e1:wth p2 1 4=false:=by rw[wth_no];omega
    obtain rfl:res=3:=by have:=HE.out;simp[e0,e1] at this;exact this.symm
    clear HE;have f1:decide (p2<1)=true:=decide_eq_true a1
   rotate_left
   focus
    have f1:decide (p2<1)=false:=decide_eq_false a1;by_cases b1:4<p2
    focus
     have e1:wth p2 1 4=false:=by rw[wth_no];omega
     obtain rfl:res=3:=by have:=HE.out;simp[e0,e1] at this;exact this.symm
     clear HE;have g1:decide (4<p2)=true:=decide_eq_true b1
    rotate_left
    focus
     have g1:decide (4<p2)=false:=decide_eq_false b1;have e1:wth p2 1 4=true:=by rw[wth_iff];omega
     by_cases a2:p3<0
     focus
      have e2:wth p3 0 7=false:=by rw[wth_no];omega
      obtain rfl:res=3:=by have:=HE.out;simp[e0,e1,e2] at this;exact this.symm
      clear HE;have f2:decide (p3<0)=true:=decide_eq_true a2
     rotate_left
     focus
      have f2:decide (p3<0)=false:=decide_eq_false a2;by_cases b2:7<p3
      focus
       have e2:wth p3 0 7=false:=by rw[wth_no];omega
       obtain rfl:res=3:=by have:=HE.out;simp[e0,e1,e2] at this;exact this.symm
       clear HE;have g2:decide (7<p3)=true:=decide_eq_true b2
      rotate_left
      focus
       have g2:decide (7<p3)=false:=decide_eq_false b2;have e2:wth p3 0 7=true:=by rw[wth_iff];omega
       by_cases a3:p4<0
       focus
        have e3:wth p4 0 255=false:=by rw[wth_no];omega
        obtain rfl:res=3:=by have:=HE.out;simp[e0,e1,e2,e3] at this;exact this.symm
        clear HE;have f3:decide (p4<0)=true:=decide_eq_true a3
       rotate_left
       focus
        have f3:decide (p4<0)=false:=decide_eq_false a3;by_cases b3:255<p4
        focus
         have e3:wth p4 0 255=false:=by rw[wth_no];omega
         obtain rfl:res=3:=by have:=HE.out;simp[e0,e1,e2,e3] at this;exact this.symm
         clear HE;have g3:decide (255<p4)=true:=decide_eq_true b3
        rotate_left
        focus
         have g3:decide (255<p4)=false:=decide_eq_false b3;have e3:wth p4 0 255=true:=by rw[wth_iff];omega
         by_cases a4:p5 < -128
         focus
          have e4:wth p5 (-128) 127=false:=by rw[wth_no];omega
          obtain rfl:res=3:=by have:=HE.out;simp[e0,e1,e2,e3,e4] at this;exact this.symm
          clear HE;have f4:decide (p5 < -128)=true:=decide_eq_true a4
         rotate_left
         focus
          have f4:decide (p5 < -128)=false:=decide_eq_false a4;by_cases b4:127<p5
          focus
           have e4:wth p5 (-128) 127=false:=by rw[wth_no];omega
           obtain rfl:res=3:=by have:=HE.out;simp[e0,e1,e2,e3,e4] at this;exact this.symm
           clear HE;have g4:decide (127<p5)=true:=decide_eq_true b4
          rotate_left
          focus
           have g4:decide (127<p5)=false:=decide_eq_false b4;have e4:wth p5 (-128) 127=true:=by rw[wth_iff];omega
           by_cases a5:p6 < -128
           focus
            have e5:wth p6 (-128) 127=false:=by rw[wth_no];omega
            obtain rfl:res=3:=by have:=HE.out;simp[e0,e1,e2,e3,e4,e5] at this;exact this.symm
            clear HE;have f5:decide (p6 < -128)=true:=decide_eq_true a5
           rotate_left
           focus
            have f5:decide (p6 < -128)=false:=decide_eq_false a5;by_cases b5:127<p6
            focus
             have e5:wth p6 (-128) 127=false:=by rw[wth_no];omega
             obtain rfl:res=3:=by have:=HE.out;simp[e0,e1,e2,e3,e4,e5] at this;exact this.symm
             clear HE;have g5:decide (127<p6)=true:=decide_eq_true b5
            rotate_left
            focus
             have g5:decide (127<p6)=false:=decide_eq_false b5;have e5:wth p6 (-128) 127=true:=by rw[wth_iff];omega
             obtain rfl:res=0:=by have:=HE.out;simpa only[e0,e1,e2,e3,e4,e5,Bool.and_self,if_true] using this.symm
             clear HE
            rotate_left
           rotate_left 2
          rotate_left 3
         rotate_left 4
        rotate_left 5
       rotate_left 6
      rotate_left 7
     rotate_left 8
    rotate_left 9
   rotate_left 10
  rotate_left 11
 rotate_left 12
 all_goals
  have m:=mm0 w [];have k:=m.out.k;go_enter Tryz.func102,Tryz.ntmps102
  go_wp2_with (first|((with_reducible refine wU ?_);clear k m;intro w m k)|((with_reducible refine lE (fun w o g k K hK=>⟨rfl,?_⟩));simp[results,Tryz.results102,go_sem];refine hK _ ?_;exact⟨rfl,o⟩))
end
section
set_option maxRecDepth 100000
set_option maxHeartbeats 4000000
open Go.RowKit
theorem qSvChk (c:Sc) (w:World) :
  Calls Tryz.prog 19 #[scV c] w fun e w'=>e=.returned (.int .i64 (svchk c))∧Only [] w w':=by
 obtain⟨kp,ki,lm,sf,sl⟩:=c;obtain⟨res,HE⟩:∃ r,Hid (svchk ⟨kp,ki,lm,sf,sl⟩=r):=⟨_,Lib.hid rfl⟩;rw[HE.out];unfold svchk at HE;dsimp only at HE;unfold scV;dsimp only;by_cases a0:kp<0
 focus
  have e0:wth kp 0 1048576=false:=by rw[wth_no];omega
  obtain rfl:res=3:=by have:=HE.out;simp[e0] at this;exact this.symm
  clear HE;have f0:decide (kp<0)=true:=decide_eq_true a0
 rotate_left
 focus
  have f0:decide (kp<0)=false:=decide_eq_false a0;by_cases b0:1048576<kp
  focus
   have e0:wth kp 0 1048576=false:=by rw[wth_no];omega
   obtain rfl:res=3:=by have:=HE.out;simp[e0] at this;exact this.symm
   clear HE;have g0:decide (1048576<kp)=true:=decide_eq_true b0
  rotate_left
  focus
   have g0:decide (1048576<kp)=false:=decide_eq_false b0;have e0:wth kp 0 1048576=true:=by rw[wth_iff];omega
   by_cases a1:ki<0
   focus
    have e1:wth ki 0 1048576=false:=by rw[wth_no];omega
    obtain rfl:res=3:=by have:=HE.out;simp[e0,e1] at this;exact this.symm
    clear HE;have f1:decide (ki<0)=true:=decide_eq_true a1
   rotate_left
   focus
    have f1:decide (ki<0)=false:=decide_eq_false a1;by_cases b1:1048576<ki
    focus
     have e1:wth ki 0 1048576=false:=by rw[wth_no];omega
     obtain rfl:res=3:=by have:=HE.out;simp[e0,e1] at this;exact this.symm
     clear HE;have g1:decide (1048576<ki)=true:=decide_eq_true b1
    rotate_left
    focus
     have g1:decide (1048576<ki)=false:=decide_eq_false b1;have e1:wth ki 0 1048576=true:=by rw[wth_iff];omega
     by_cases a2:lm<1
     focus
      have e2:wth lm 1 500000=false:=by rw[wth_no];omega
      obtain rfl:res=3:=by have:=HE.out;simp[e0,e1,e2] at this;exact this.symm
      clear HE;have f2:decide (lm<1)=true:=decide_eq_true a2
     rotate_left
     focus
      have f2:decide (lm<1)=false:=decide_eq_false a2;by_cases b2:500000<lm
      focus
       have e2:wth lm 1 500000=false:=by rw[wth_no];omega
       obtain rfl:res=3:=by have:=HE.out;simp[e0,e1,e2] at this;exact this.symm
       clear HE;have g2:decide (500000<lm)=true:=decide_eq_true b2
      rotate_left
      focus
       have g2:decide (500000<lm)=false:=decide_eq_false b2;have e2:wth lm 1 500000=true:=by rw[wth_iff];omega
       by_cases a3:sf<0
       focus
        have e3:wth sf 0 1125899906842624=false:=by rw[wth_no];omega
        obtain rfl:res=3:=by have:=HE.out;simp[e0,e1,e2,e3] at this;exact this.symm
        clear HE;have f3:decide (sf<0)=true:=decide_eq_true a3
       rotate_left
       focus
        have f3:decide (sf<0)=false:=decide_eq_false a3;by_cases b3:1125899906842624<sf
        focus
         have e3:wth sf 0 1125899906842624=false:=by rw[wth_no];omega
         obtain rfl:res=3:=by have:=HE.out;simp[e0,e1,e2,e3] at this;exact this.symm
         clear HE;have g3:decide (1125899906842624<sf)=true:=decide_eq_true b3
        rotate_left
        focus
         have g3:decide (1125899906842624<sf)=false:=decide_eq_false b3;have e3:wth sf 0 1125899906842624=true:=by rw[wth_iff];omega
         by_cases a4:sl<0
         focus
          have e4:wth sl 0 1125899906842624=false:=by rw[wth_no];omega
          obtain rfl:res=3:=by have:=HE.out;simp[e0,e1,e2,e3,e4] at this;exact this.symm
          clear HE;have f4:decide (sl<0)=true:=decide_eq_true a4
         rotate_left
         focus
          have f4:decide (sl<0)=false:=decide_eq_false a4;by_cases b4:1125899906842624<sl
          focus
           have e4:wth sl 0 1125899906842624=false:=by rw[wth_no];omega
           obtain rfl:res=3:=by have:=HE.out;simp[e0,e1,e2,e3,e4] at this;exact this.symm
           clear HE;have g4:decide (1125899906842624<sl)=true:=decide_eq_true b4
          rotate_left
          focus
           have g4:decide (1125899906842624<sl)=false:=decide_eq_false b4;have e4:wth sl 0 1125899906842624=true:=by rw[wth_iff];omega
           obtain rfl:res=0:=by have:=HE.out;simpa only[e0,e1,e2,e3,e4,Bool.and_self,if_true] using this.symm
           clear HE
          rotate_left
         rotate_left 2
        rotate_left 3
       rotate_left 4
      rotate_left 5
     rotate_left 6
    rotate_left 7
   rotate_left 8
  rotate_left 9
 rotate_left 10
 all_goals
  have m:=mm0 w [];have k:=m.out.k;go_enter Tryz.func19,Tryz.ntmps19
  go_wp2_with (first|((with_reducible refine wU ?_);clear k m;intro w m k)|((with_reducible refine lE (fun w o g k K hK=>⟨rfl,?_⟩));simp[results,Tryz.results19,go_sem];refine hK _ ?_;exact⟨rfl,o⟩))
theorem qEvery  (w:World) :
  Calls Tryz.prog 27 #[] w fun e w'=>e=.returned (ivV evI)∧Only [] w w':=by
 unfold ivV evI;dsimp only;have m:=mm0 w [];have k:=m.out.k;go_enter Tryz.func27,Tryz.ntmps27
 go_wp2_with (first|((with_reducible refine wU ?_);clear k m;intro w m k)|((with_reducible refine lE (fun w o g k K hK=>⟨rfl,?_⟩));simp[results,Tryz.results27,go_sem,k];refine hK _ ?_;exact⟨rfl,o⟩))
theorem qClip (x:Iv) (w:World) :
  Calls Tryz.prog 106 #[ivV x] w fun e w'=>e=.returned (ivV (clipI x))∧Only [] w w':=by
 have HE:=Lib.hid (fun w'=>qEvery w');have HM:=Lib.hid (fun w'=>qMeet x evI w');have HR:Hid (clipI x=(meetI x evI).getD evI):=Lib.hid rfl;generalize clipI x=res at HR ⊢;generalize meetI x evI=mo at HM HR;obtain⟨x1,x2⟩:=x
 cases mo with
 | none =>
  obtain rfl:res=evI:=HR.out;clear HR;unfold meetV ivV evI at HM;unfold ivV evI at HE ⊢;dsimp only at HM HE ⊢;have m:=mm0 w [];have k:=m.out.k;go_enter Tryz.func106,Tryz.ntmps106
  go_wp2_with (first|((with_reducible first|refine cM (HE.out _) ?_|refine cM (HM.out _) ?_|refine wU ?_);clear k m;intro w m k)|((with_reducible refine rA (id:=1) [0,1,2,3,4] [5] 6 [7,8] (by kernel_rfl) (by kernel_rfl) ?_);simp only[pick,List.map_cons,List.map_nil,List.getD_cons_succ,List.getD_cons_zero];(repeat (first|(refine wpCalmG_step (fun K hK=>?_);go_simp;refine hK _ ?_;clear hK K)|(refine cG (by kernel_rfl) ⟨_,_,_,?_,fun w' o=>HE.out w',?_⟩;(focus (intro w;go_simp;done)))|(refine cG (by kernel_rfl) ⟨_,_,_,?_,fun w' o=>HM.out w',?_⟩;(focus (intro w;go_simp;done)))));refine wpCalmG_nil ?_;(repeat (refine wpCalm_step (fun K hK=>?_);go_simp;refine hK _ ?_;clear hK K));refine wpCalm_nil ?_;clear k m;intro w o m k;refine wpOp_one rfl ?_;go_wp2;simp only[nrm];refine⟨o.alloc _,tW ?_⟩;clear o;clear k m;intro w m k;unfold wpTail;refine wpOp_one rfl ?_;go_wp2;simp only[nrm];refine tW ?_;clear k m;intro w m k;unfold wpTail;refine wpOp_one rfl ?_;go_wp2;simp only[nrm];refine tW ?_;clear k m;intro w m k;unfold wpTail)|((with_reducible refine lE (fun w o g k K hK=>⟨rfl,?_⟩));simp[results,Tryz.results106,go_sem,k];refine hK _ ?_;exact⟨rfl,o⟩))
 | some y =>
  obtain rfl:res=y:=HR.out;obtain⟨y1,y2⟩:=res;clear HR;unfold meetV ivV evI at HM;unfold ivV evI at HE;unfold ivV;dsimp only at HM HE ⊢;have m:=mm0 w [];have k:=m.out.k;go_enter Tryz.func106,Tryz.ntmps106
  go_wp2_with (first|((with_reducible first|refine cM (HE.out _) ?_|refine cM (HM.out _) ?_|refine wU ?_);clear k m;intro w m k)|((with_reducible refine rA (id:=1) [0,1,2,3,4] [5] 6 [7,8] (by kernel_rfl) (by kernel_rfl) ?_);simp only[pick,List.map_cons,List.map_nil,List.getD_cons_succ,List.getD_cons_zero];(repeat (first|(refine wpCalmG_step (fun K hK=>?_);go_simp;refine hK _ ?_;clear hK K)|(refine cG (by kernel_rfl) ⟨_,_,_,?_,fun w' o=>HE.out w',?_⟩;(focus (intro w;go_simp;done)))|(refine cG (by kernel_rfl) ⟨_,_,_,?_,fun w' o=>HM.out w',?_⟩;(focus (intro w;go_simp;done)))));refine wpCalmG_nil ?_;(repeat (refine wpCalm_step (fun K hK=>?_);go_simp;refine hK _ ?_;clear hK K));refine wpCalm_nil ?_;clear k m;intro w o m k;refine wpOp_one rfl ?_;go_wp2;simp only[nrm];refine⟨o.alloc _,tW ?_⟩;clear o;clear k m;intro w m k;unfold wpTail;refine wpOp_one rfl ?_;go_wp2;simp only[nrm];refine tW ?_;clear k m;intro w m k;unfold wpTail;refine wpOp_one rfl ?_;go_wp2;simp only[nrm];refine tW ?_;clear k m;intro w m k;unfold wpTail)|((with_reducible refine lE (fun w o g k K hK=>⟨rfl,?_⟩));simp[results,Tryz.results106,go_sem,k];refine hK _ ?_;exact⟨rfl,o⟩))
end
section
set_option maxRecDepth 100000
set_option maxHeartbeats 4000000
open Go.RowKit
theorem qCCheck (c:Cf) (w:World) :
  Calls Tryz.prog 7 #[cfV c] w fun e w'=>e=.returned (.int .i64 (ccheck c))∧Only [] w w':=by
 obtain⟨sr,tl,pr,kp,⟨sk,si,sm,sf,sl⟩,ra,mn,mx⟩:=c;obtain⟨res,HE⟩:∃ r,Hid (ccheck ⟨sr,tl,pr,kp,⟨sk,si,sm,sf,sl⟩,ra,mn,mx⟩=r):=⟨_,Lib.hid rfl⟩;rw[HE.out];unfold ccheck at HE;dsimp only at HE;have HS:=Lib.hid (fun w'=>qSvChk ⟨sk,si,sm,sf,sl⟩ w');generalize svchk ⟨sk,si,sm,sf,sl⟩=se at HS HE;unfold scV at HS;unfold cfV;dsimp only at HS ⊢;by_cases asr:sr<1
 focus
  have esr:wth sr 1 12=false:=by rw[wth_no];omega
  have fsr:decide (sr<1)=true:=decide_eq_true asr;obtain rfl:res=3:=by have:=HE.out;simp[esr] at this;exact this.symm
  clear HE
 rotate_left
 focus
  have fsr:decide (sr<1)=false:=decide_eq_false asr;by_cases bsr:12<sr
  focus
   have esr:wth sr 1 12=false:=by rw[wth_no];omega
   have gsr:decide (12<sr)=true:=decide_eq_true bsr;obtain rfl:res=3:=by have:=HE.out;simp[esr] at this;exact this.symm
   clear HE
  rotate_left
  focus
   have gsr:decide (12<sr)=false:=decide_eq_false bsr;have esr:wth sr 1 12=true:=by rw[wth_iff];omega
   by_cases atl:tl<0
   focus
    have etl:wth tl 0 500000=false:=by rw[wth_no];omega
    have ftl:decide (tl<0)=true:=decide_eq_true atl;obtain rfl:res=3:=by have:=HE.out;simp[esr,etl] at this;exact this.symm
    clear HE
   rotate_left
   focus
    have ftl:decide (tl<0)=false:=decide_eq_false atl;by_cases btl:500000<tl
    focus
     have etl:wth tl 0 500000=false:=by rw[wth_no];omega
     have gtl:decide (500000<tl)=true:=decide_eq_true btl;obtain rfl:res=3:=by have:=HE.out;simp[esr,etl] at this;exact this.symm
     clear HE
    rotate_left
    focus
     have gtl:decide (500000<tl)=false:=decide_eq_false btl;have etl:wth tl 0 500000=true:=by rw[wth_iff];omega
     by_cases apr:pr<1
     focus
      have epr:wth pr 1 1000000000=false:=by rw[wth_no];omega
      have fpr:decide (pr<1)=true:=decide_eq_true apr;obtain rfl:res=3:=by have:=HE.out;simp[esr,etl,epr] at this;exact this.symm
      clear HE
     rotate_left
     focus
      have fpr:decide (pr<1)=false:=decide_eq_false apr;by_cases bpr:1000000000<pr
      focus
       have epr:wth pr 1 1000000000=false:=by rw[wth_no];omega
       have gpr:decide (1000000000<pr)=true:=decide_eq_true bpr;obtain rfl:res=3:=by have:=HE.out;simp[esr,etl,epr] at this;exact this.symm
       clear HE
      rotate_left
      focus
       have gpr:decide (1000000000<pr)=false:=decide_eq_false bpr;have epr:wth pr 1 1000000000=true:=by rw[wth_iff];omega
       by_cases akp:kp<1
       focus
        have ekp:wth kp 1 12=false:=by rw[wth_no];omega
        have fkp:decide (kp<1)=true:=decide_eq_true akp;obtain rfl:res=3:=by have:=HE.out;simp[esr,etl,epr,ekp] at this;exact this.symm
        clear HE
       rotate_left
       focus
        have fkp:decide (kp<1)=false:=decide_eq_false akp;by_cases bkp:12<kp
        focus
         have ekp:wth kp 1 12=false:=by rw[wth_no];omega
         have gkp:decide (12<kp)=true:=decide_eq_true bkp;obtain rfl:res=3:=by have:=HE.out;simp[esr,etl,epr,ekp] at this;exact this.symm
         clear HE
        rotate_left
        focus
         have gkp:decide (12<kp)=false:=decide_eq_false bkp;have ekp:wth kp 1 12=true:=by rw[wth_iff];omega
         by_cases hz:se=0
         rotate_left
         focus
          have q1:(se != 0)=true:=by simpa using hz
          obtain rfl:se=res:=by have:=HE.out;simp[esr,etl,epr,ekp,hz] at this;exact this
          clear HE hz
         rotate_left
         focus
          subst hz;by_cases ara:ra<1
          focus
           have era:wth ra 1 500000=false:=by rw[wth_no];omega
           have fra:decide (ra<1)=true:=decide_eq_true ara;obtain rfl:res=3:=by have:=HE.out;simp[esr,etl,epr,ekp,era] at this;exact this.symm
          rotate_left
          focus
           have fra:decide (ra<1)=false:=decide_eq_false ara;by_cases bra:500000<ra
           focus
            have era:wth ra 1 500000=false:=by rw[wth_no];omega
            have gra:decide (500000<ra)=true:=decide_eq_true bra;obtain rfl:res=3:=by have:=HE.out;simp[esr,etl,epr,ekp,era] at this;exact this.symm
           rotate_left
           focus
            have gra:decide (500000<ra)=false:=decide_eq_false bra;have era:wth ra 1 500000=true:=by rw[wth_iff];omega
            by_cases amn:mn<3
            focus
             have emn:wth mn 3 17=false:=by rw[wth_no];omega
             have fmn:decide (mn<3)=true:=decide_eq_true amn;obtain rfl:res=3:=by have:=HE.out;simp[esr,etl,epr,ekp,era,emn] at this;exact this.symm
            rotate_left
            focus
             have fmn:decide (mn<3)=false:=decide_eq_false amn;by_cases bmn:17<mn
             focus
              have emn:wth mn 3 17=false:=by rw[wth_no];omega
              have gmn:decide (17<mn)=true:=decide_eq_true bmn;obtain rfl:res=3:=by have:=HE.out;simp[esr,etl,epr,ekp,era,emn] at this;exact this.symm
             rotate_left
             focus
              have gmn:decide (17<mn)=false:=decide_eq_false bmn;have emn:wth mn 3 17=true:=by rw[wth_iff];omega
              by_cases amx:mx<3
              focus
               have emx:wth mx 3 17=false:=by rw[wth_no];omega
               have fmx:decide (mx<3)=true:=decide_eq_true amx;obtain rfl:res=3:=by have:=HE.out;simp[esr,etl,epr,ekp,era,emn,emx] at this;exact this.symm
              rotate_left
              focus
               have fmx:decide (mx<3)=false:=decide_eq_false amx;by_cases bmx:17<mx
               focus
                have emx:wth mx 3 17=false:=by rw[wth_no];omega
                have gmx:decide (17<mx)=true:=decide_eq_true bmx;obtain rfl:res=3:=by have:=HE.out;simp[esr,etl,epr,ekp,era,emn,emx] at this;exact this.symm
               rotate_left
               focus
                have gmx:decide (17<mx)=false:=decide_eq_false bmx;have emx:wth mx 3 17=true:=by rw[wth_iff];omega
                by_cases o:mx<mn
                focus
                 have d1:decide (mx<mn)=true:=decide_eq_true o;obtain rfl:res=12:=by have:=HE.out;simp[esr,etl,epr,ekp,era,emn,emx,o] at this;exact this.symm
                rotate_left
                focus
                 have d1:decide (mx<mn)=false:=decide_eq_false o;obtain rfl:res=0:=by have:=HE.out;simp[esr,etl,epr,ekp,era,emn,emx] at this;omega
                rotate_left
               rotate_left 2
              rotate_left 3
             rotate_left 4
            rotate_left 5
           rotate_left 6
          rotate_left 7
          all_goals clear HE
         rotate_left 8
        rotate_left 9
       rotate_left 10
      rotate_left 11
     rotate_left 12
    rotate_left 13
   rotate_left 14
  rotate_left 15
 rotate_left 16
 all_goals
  have m:=mm0 w [];have k:=m.out.k;go_enter Tryz.func7,Tryz.ntmps7
  go_wp2_with (first|((with_reducible first|refine cM (HS.out _) ?_|refine wU ?_);clear k m;intro w m k)|((with_reducible refine lE (fun w o g k K hK=>⟨rfl,?_⟩));simp[results,Tryz.results7,go_sem];refine hK _ ?_;exact⟨rfl,o⟩))
end
end Go.Proofs.YtedgpfgccpnjnaaGreat
